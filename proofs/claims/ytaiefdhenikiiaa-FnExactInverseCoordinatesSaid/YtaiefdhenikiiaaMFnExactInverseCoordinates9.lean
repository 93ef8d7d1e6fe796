/- Texts that the proof of FnExactInverseCoordinates needs, part 9. No condition. -/
import Derived.Test.YtaiefdhenikiiaaMFnExactInverseCoordinates8
import Derived.ChangeArms
import Derived.Deep.Slices
import Derived.Lib.SmallJoins
import Derived.SizedLaws
import Derived.WideShapes
namespace Go.Proofs.YtaiefdhenikiiaaO
open Go.ChangeShapes Go.WideShapes Go.RowKit Go.Proofs.YtaiefdhenikiiaaW.PrintWords
set_option linter.unusedVariables false
/-- Whatever reads at type t is a value of the kind d that is ok. -/
def Opens (P : Program) (t : TypeId) {α : Type} (d : Kd α) (ok : α → Prop) : Prop :=
  P.cellsOf t = d.sz ∧ ∀ (H : Type) (enc : TypeId × Value → H) (w : World) (fuel : Nat) (cs : List Value) (x : DataW H × List MemPlace), DataW.trod enc P w 0 (fun _ => true) true fuel t cs = some x → ∃ a, d.K w a cs ∧ ok a
section
variable {P : Program} {t e : TypeId} {α β : Type}
theorem opens_int {k : IntKind} (ht : P.underlying t = some (.int k)) (hc : P.cellsOf t = 1) : Opens P t (Kd.int k) (fun a => (Lit.int k a).wf = true) := by
  refine ⟨hc, fun H enc w fuel cs x h => ?_⟩
  obtain ⟨n, rfl, _, hw⟩ := DataW.trod_int ht h
  exact ⟨n, rfl, hw⟩
theorem opens_string (ht : P.underlying t = some .string) (hc : P.cellsOf t = 1) : Opens P t Kd.string (fun a => a.size ≤ 9223372036854775807) := by
  refine ⟨hc, fun H enc w fuel cs x h => ?_⟩
  obtain ⟨s, rfl, _, hs⟩ := DataW.trod_string ht h
  exact ⟨s, rfl, by simpa [maxLen] using hs⟩
theorem cells_get {w : World} {a : Addr} {n : Nat} {cs : List Value} (h : w.cells? 0 a n = some cs) : cs.length = n ∧ ∀ i u, cs[i]? = some u → w.cell? (a.add i) = some u := by
  unfold World.cells? at h
  rw [if_pos (Nat.zero_le _)] at h
  have hl := mapM_some_length h
  rw [List.length_range] at hl
  refine ⟨hl, fun i u hu => ?_⟩
  have hi : i < n := by rw [← hl]; exact (List.getElem?_eq_some_iff.1 hu).1
  have := mapM_some_get h i i (by simp [hi])
  rw [this]; exact hu
theorem opens_slice {d : Kd α} {ok : α → Prop} (ht : P.underlying t = some (.slice e)) (hc : P.cellsOf t = 1) (ho : Opens P e d ok) : Opens P t (Kd.slice e d) (fun l => l.length ≤ 9223372036854775807 ∧ ∀ a ∈ l, ok a) := by
  obtain ⟨hz, ho⟩ := ho
  refine ⟨hc, fun H enc w fuel cs x h => ?_⟩
  rcases Go.Deep.open_slice ht h with ⟨rfl, _⟩ | ⟨a, len, cap, m, n, D, Pl, rfl, _, hl, hm, hmm, _, hx⟩
  · exact ⟨[], ⟨none, 0, rfl, Nat.le_refl _, rfl, by simp, fun h => absurd h (by simp)⟩, by simp, by simp⟩
  · simp only [if_true] at hmm
    subst hmm
    have hm' : m ≤ 9223372036854775807 := by simpa [maxLen] using hm
    have key : ∀ q, q ≤ len → ∃ l : List α, l.length = q ∧ (∀ p ∈ l, ok p) ∧ ∀ j p, l[j]? = some p → ∃ c, c.length = d.sz ∧ d.K w p c ∧ ∀ i u, c[i]? = some u → w.cell? (a.add (j * d.sz + i)) = some u := by
      intro q
      induction q with
      | zero => exact fun _ => ⟨[], rfl, by simp, fun j p hp => by simp at hp⟩
      | succ q ih =>
        intro hq
        obtain ⟨l, h1, h2, h3⟩ := ih (by omega)
        obtain ⟨cs', hcs, htr⟩ := hx q (by omega)
        obtain ⟨p, hK, hok⟩ := ho H enc w _ _ _ htr
        rw [hz] at hcs
        obtain ⟨hlen, hget⟩ := cells_get hcs
        refine ⟨l ++ [p], by simp [h1], ?_, fun j p' hp' => ?_⟩
        · intro p' hp'
          rcases List.mem_append.1 hp' with hp' | hp'
          · exact h2 _ hp'
          · rw [List.mem_singleton.1 hp']; exact hok
        · by_cases hj : j < l.length
          · rw [List.getElem?_append_left hj] at hp'
            exact h3 j p' hp'
          · rw [List.getElem?_append_right (by omega)] at hp'
            have hj' : j = q := by
              have := (List.getElem?_eq_some_iff.1 hp').1
              simp at this; omega
            subst hj'
            rw [h1, Nat.sub_self] at hp'
            obtain rfl : p = p' := by simpa using hp'
            exact ⟨cs', hlen, hK, fun i u hu => by rw [← Go.Deep.add_add]; exact hget i u hu⟩
    obtain ⟨l, h1, h2, h3⟩ := key len (Nat.le_refl _)
    subst h1
    exact ⟨l, ⟨some a, m, rfl, hl, rfl, by omega, fun _ => ⟨a, rfl, h3⟩⟩, by omega, h2⟩
theorem opens_iso {d : Kd α} {ok : α → Prop} (f : β → α) (g : α → β) (hg : ∀ a, f (g a) = a) (ho : Opens P t d ok) : Opens P t (Kd.iso d f) (fun b => ok (f b)) := by
  refine ⟨ho.1, fun H enc w fuel cs x h => ?_⟩
  obtain ⟨a, hK, hok⟩ := ho.2 H enc w fuel cs x h
  refine ⟨g a, ?_, ?_⟩
  · show d.K w (f (g a)) cs
    rw [hg]; exact hK
  · show ok (f (g a))
    rw [hg]; exact hok
theorem opens_two {d0 : Kd α} {d1 : Kd β} {ok0 : α → Prop} {ok1 : β → Prop} {f0 f1 : Field} (hs : P.underlying t = some (.struct #[f0, f1])) (o0 : f0.offset = 0) (o1 : f1.offset = d0.sz) (hc : P.cellsOf t = d0.sz + d1.sz)
    (h0 : Opens P f0.type d0 ok0) (h1 : Opens P f1.type d1 ok1) : Opens P t (Kd.pair d0 d1) (fun x => ok0 x.1 ∧ ok1 x.2) := by
  refine ⟨hc, fun H enc w fuel cs x h => ?_⟩
  obtain ⟨xs, n, _, _, hl, hxl, hf⟩ := DataW.trod_struct hs h
  have hx0 := hf 0 f0 rfl
  have hx1 := hf 1 f1 rfl
  have l2 : xs.length = 2 := hxl
  rw [List.getElem?_eq_getElem (by omega)] at hx0 hx1
  obtain ⟨a0, k0, p0⟩ := h0.2 H enc w _ _ _ hx0
  obtain ⟨a1, k1, p1⟩ := h1.2 H enc w _ _ _ hx1
  rw [o0, h0.1, List.drop_zero] at k0
  rw [o1, h1.1] at k1
  refine ⟨(a0, a1), ⟨_, _, ?_, k0, k1⟩, p0, p1⟩
  rw [List.take_of_length_le (l := cs.drop d0.sz) (by rw [List.length_drop, hl, hc]; omega), List.take_append_drop]
end
end Go.Proofs.YtaiefdhenikiiaaO
namespace Go.Proofs.Ytaiefdhenikiiaa.Base
open Go.RowKit Go.Proofs.YtaiefdhenikiiaaW.PrintWords Go.Proofs.YtaiefdhenikiiaaW.PrintLast Go.Proofs.YtaiefdhenikiiaaW.PrintMore Go.Proofs.YtaiefdhenikiiaaC
set_option linter.unusedVariables false
set_option linter.unusedSimpArgs false
def aggT (x : S79) : Value := .agg #[.string x.f0, .int .i64 x.f1.f0, .int .i64 x.f1.f1]
def TestT (g : Nat) (l : List S79) (p : Nat → Bool) (w : World) : Prop :=
  ∀ j, j < l.length → ∀ W, Below w.heap.size w W → Calls Try.prog g #[aggT (rd_T79 l j)] W fun e w' => e = .returned (.bool (p j)) ∧ Below W.heap.size W w'
set_option maxHeartbeats 4000000 in
set_option maxRecDepth 100000 in
theorem index_terms (g : Nat) (l : List S79) (p : Nat → Bool) (A : Option Addr) (c : Nat) (w : World) (eg : ∀ args w, (callFunc g args).run Try.prog w = .ok (.enter g args) w)
    (hn : l.length ≤ 9223372036854775807) (hr : Kd.C k79 w A l.length l) (ht : TestT g l p w) :
    Calls Try.prog 208 #[.slice A l.length c, .func (.func g) #[] #[]] w (Go.Proofs.YtaiefdhenikiiaaC.Told p l.length w) := by
  have hu2 := Try.underlying79
  have hu3 := Try.underlying77
  have HR := Aside0.mk hr
  have HT := Aside0.mk ht
  clear hr ht
  go_enter Try.func208, Try.ntmps208
  go_wp2
  go_loopg [5, 8] l.length (fun gg _ s8 wr => ∃ kk : Nat, kk ≤ l.length ∧ l.length - kk ≤ gg ∧ s8 = .int .i64 kk ∧ Aside0 (Below w.heap.size w wr) ∧ Aside0 (∀ j, j < kk → p j = false))
  case atStart => exact ⟨0, Nat.zero_le _, by omega, rfl, ⟨Below.refl _ _⟩, ⟨fun j hj => absurd hj (Nat.not_lt_zero _)⟩⟩
  case round =>
    obtain ⟨kk, hkk, hg, rfl, HB, HP⟩ := hrel
    by_cases hlt : kk < l.length
    · have hltz : (kk : Int) < (l.length : Int) := by omega
      obtain ⟨ad, rfl, x0, x1, x2⟩ := at_T79 (Kd.C_below HR.out HB.out) (kk : Int) (by omega) (by omega)
      rw [Int.toNat_natCast] at x0 x1 x2
      have hcall := HT.out kk hlt _ HB.out
      unfold aggT at hcall
      generalize rd_T79 l (kk : Int) = y at x0 x1 x2 hcall
      cases hq : p kk with
      | true =>
        rw [hq] at hcall
        have HQ := Aside0.mk hq
        clear hq
        go_wp2_with (go_at_fn g; refine hcall.mono ?_; rintro e w' ⟨rfl, hb⟩; have HB2 := Aside0.mk (below_then HB.out HB.out.size hb); clear hb)
        go_ret
        refine ⟨kk, rfl, ?_, HB2.out⟩
        rw [anyN_hit hlt HQ.out]; simp
      | false =>
        rw [hq] at hcall
        have HQ := Aside0.mk hq
        clear hq
        go_wp2_with (go_at_fn g; refine hcall.mono ?_; rintro e w' ⟨rfl, hb⟩; have HB2 := Aside0.mk (below_then HB.out HB.out.size hb); clear hb)
        go_roundg (l.length - (kk + 1))
        case measure => omega
        case rel =>
          refine ⟨kk + 1, by omega, by omega, by go_num, HB2, ⟨fun j hj => ?_⟩⟩
          by_cases e : j = kk
          · subst e; exact HQ.out
          · exact HP.out j (by omega)
    · have hltz : ¬ (kk : Int) < (l.length : Int) := by omega
      obtain rfl : kk = l.length := by omega
      go_wp2
      go_ret
      refine ⟨-1, rfl, ?_, HB.out⟩
      rw [anyN_miss HP.out]; simp
set_option maxHeartbeats 1000000 in
theorem contains_terms (g : Nat) (l : List S79) (p : Nat → Bool) (A : Option Addr) (c : Nat) (w : World) (eg : ∀ args w, (callFunc g args).run Try.prog w = .ok (.enter g args) w)
    (hn : l.length ≤ 9223372036854775807) (hr : Kd.C k79 w A l.length l) (ht : TestT g l p w) :
    Calls Try.prog 155 #[.slice A l.length c, .func (.func g) #[] #[]] w fun e w' => e = .returned (.bool (anyN p l.length)) ∧ Below w.heap.size w w' := by
  have hi := index_terms g l p A c w eg hn hr ht
  clear hr ht
  go_enter Try.func155, Try.ntmps155
  go_wp2_with (go_at_call 208; refine hi.mono ?_; rintro e w' ⟨r, rfl, hr, hb⟩)
  go_ret
  exact ⟨by rw [← hr]; rfl, hb⟩
theorem enters_at2 {P : Program} {f : FuncId} {fn : Func} (hf : P.funcs[f]? = some fn) (hname : (fn.name == "runtime.NumGoroutine") = false) (hb : fn.body.isSome = true) : ∀ args w, (callFunc f args).run P w = .ok (.enter f args) w := fun args w => enters_ hf hname (by simpa using hb) args w
theorem lyn_enters : ∀ args w, (callFunc 156 args).run Try.prog w = .ok (.enter 156 args) w := enters_at2 Try.func156 (by kernel_rfl) rfl
set_option maxHeartbeats 1000000 in
theorem notLyn_ (k : Nat) (x : S79) (b : Bool) (w : World) (h : impl_isLyndon.f k x.f0 = some b) :
    Calls Try.prog 156 #[aggT x] w fun e w' => e = .returned (.bool (!b)) ∧ Below w.heap.size w w' := by
  have hu2 := Try.underlying79
  have hu3 := Try.underlying77
  unfold aggT
  go_enter Try.func156, Try.ntmps156
  go_wp2_with (go_at_call 99; refine (impl_isLyndon.calls k _ _ _ h).mono ?_; rintro e w1 ⟨rfl, hd⟩; have HB := Aside0.mk (show Below w.heap.size w w1 from below_step (below_alloc (Below.refl _ _) _) (Drawn0.below hd)); clear hd)
  go_ret
  exact ⟨rfl, HB.out⟩
end Go.Proofs.Ytaiefdhenikiiaa.Base
namespace Go.Proofs.Ytaiefdhenikiiaa.Base
open Go.RowKit Go.Proofs.YtaiefdhenikiiaaW.PrintWords Go.Proofs.YtaiefdhenikiiaaW.PrintLast Go.Proofs.YtaiefdhenikiiaaW.PrintMore
attribute [local go_sem] max2_int min2_int max_two min_two max_three min_three max_four min_four Go.Proofs.YtaiefdhenikiiaaZ.min2_string   -- for this text's walks alone
set_option linter.unusedVariables false
set_option linter.unusedSimpArgs false
def lynAll (k : Nat) : List S79 → Option (List Bool)
  | [] => some []
  | x :: l => (impl_isLyndon.f k x.f0).bind fun b => (lynAll k l).map fun q => b :: q
def impl_areCoordinates.f (k : Nat) (a0 a1 : Int) (l2 : List S79) : Option (Bool) := if l2.length ≤ 9223372036854775807 then ((impl_isLevel.f a0 a1).bind fun b => if b = true then (impl_areTerms.f k a0 a1 l2).bind fun c => if c = true then (lynAll k l2).map fun q => q.all id else some false else some false) else none
theorem lynAll_mono : ∀ (l : List S79) k, LeO (lynAll k l) (lynAll (k + 1) l)
  | [], k => LeO.refl _
  | x :: l, k => by
    unfold lynAll
    refine LeO.bind (impl_isLyndon.mono _ _) (fun b => ?_)
    intro r h
    obtain ⟨q, hq, rfl⟩ := Option.map_eq_some_iff.1 h
    rw [lynAll_mono l k q hq]; rfl
theorem impl_areCoordinates.mono : ∀ a0 a1 l2 k, LeO (impl_areCoordinates.f k a0 a1 l2) (impl_areCoordinates.f (k + 1) a0 a1 l2) := by
  intro a0 a1 l2 k
  unfold impl_areCoordinates.f
  refine LeO.ite (LeO.bind (LeO.refl _) (fun b => LeO.ite (LeO.bind (impl_areTerms.mono _ _ _ _) (fun c => LeO.ite ?_ (LeO.refl _))) (LeO.refl _))) (LeO.refl _)
  intro r h
  obtain ⟨q, hq, rfl⟩ := Option.map_eq_some_iff.1 h
  rw [lynAll_mono l2 k q hq]; rfl
theorem lynAll_len {k : Nat} : ∀ {l : List S79} {q : List Bool}, lynAll k l = some q → q.length = l.length ∧ ∀ j (h : j < l.length), impl_isLyndon.f k (l[j]).f0 = q[j]?
  | [], q, h => by obtain rfl := Option.some.inj h; exact ⟨rfl, fun j hj => by simp at hj⟩
  | x :: l, q, h => by
    unfold lynAll at h
    obtain ⟨b, hb, h⟩ := Option.bind_eq_some_iff.1 h
    obtain ⟨q2, hq, rfl⟩ := Option.map_eq_some_iff.1 h
    obtain ⟨h1, h2⟩ := lynAll_len hq
    refine ⟨by simp [h1], fun j hj => ?_⟩
    cases j with
    | zero => simpa using hb
    | succ j => simpa using h2 j (by simpa using hj)
theorem any_not (q : List Bool) : (!Go.Proofs.YtaiefdhenikiiaaC.anyN (fun j => !(q.getD j true)) q.length) = q.all id := by
  rw [Bool.eq_iff_iff]
  simp only [Bool.not_eq_true', List.all_eq_true, id_eq]
  constructor
  · intro h x hx
    obtain ⟨j, hj, rfl⟩ := List.mem_iff_getElem.1 hx
    unfold Go.Proofs.YtaiefdhenikiiaaC.anyN at h
    rw [List.any_eq_false] at h
    have := h j (List.mem_range.2 hj)
    simpa [List.getElem?_eq_getElem hj] using this
  · intro h
    apply Go.Proofs.YtaiefdhenikiiaaC.anyN_miss
    intro j hj
    have := h _ (List.getElem_mem hj)
    simp [List.getElem?_eq_getElem hj, this]
set_option maxHeartbeats 4000000 in
set_option maxRecDepth 100000 in
theorem impl_areCoordinates.calls (k : Nat) (a0 a1 : Int) (A2 : Option Addr) (c2 : Nat) (l2 : List S79) (r : Bool) (w : World) (hr2 : Kd.C k79 w A2 l2.length l2) (hc2 : l2.length ≤ c2) (h : impl_areCoordinates.f k a0 a1 l2 = some r) :
    Calls Try.prog 78 #[.int .i64 a0, .int .i64 a1, .slice A2 l2.length c2] w fun e w' => e = .returned (.bool r) ∧ Below w.heap.size w w' := by
  unfold impl_areCoordinates.f at h
  by_cases hml : l2.length ≤ 9223372036854775807
  rotate_left
  · rw [if_neg hml] at h; cases h
  rw [if_pos hml] at h
  have HML := Aside0.mk hml
  clear hml
  obtain ⟨b, hb, h⟩ := Option.bind_eq_some_iff.1 h
  have HR := Aside0.mk hr2
  have HC := Aside0.mk hc2
  clear hr2 hc2
  have HBB := Aside0.mk hb
  clear hb
  cases b with
  | false =>
    rw [if_neg (by simp)] at h
    obtain rfl := Option.some.inj h
    go_enter Try.func78, Try.ntmps78
    go_wp2_with (go_at_call 138; refine (impl_isLevel.calls _ _ _ _ HBB.out).mono ?_; rintro e w1 ⟨rfl, hd⟩; have HB := Aside0.mk (show Below w.heap.size w w1 from below_step (Below.refl _ _) (Drawn0.below hd)); clear hd)
    go_ret
    exact ⟨rfl, HB.out⟩
  | true =>
    rw [if_pos rfl] at h
    obtain ⟨c, hc, h⟩ := Option.bind_eq_some_iff.1 h
    have HCC := Aside0.mk hc
    clear hc
    cases c with
    | false =>
      rw [if_neg (by simp)] at h
      obtain rfl := Option.some.inj h
      go_enter Try.func78, Try.ntmps78
      go_wp2_with (first
        | (go_at_call 138; refine (impl_isLevel.calls _ _ _ _ HBB.out).mono ?_; rintro e w1 ⟨rfl, hd⟩; have HB := Aside0.mk (show Below w.heap.size w w1 from below_step (Below.refl _ _) (Drawn0.below hd)); clear hd)
        | (go_at_call 154; refine (impl_areTerms.calls k _ _ _ _ _ _ _ (Kd.C_below HR.out HB.out) HC.out HCC.out).mono ?_; rintro e w2 ⟨rfl, hd⟩; have HB2 := Aside0.mk (show Below w.heap.size w w2 from below_step HB.out hd); clear hd))
      go_ret
      exact ⟨rfl, HB2.out⟩
    | true =>
      rw [if_pos rfl] at h
      obtain ⟨q, hq, rfl⟩ := Option.map_eq_some_iff.1 h
      obtain ⟨hql, hqa⟩ := lynAll_len hq
      have HQ := Aside0.mk hqa
      have HL := Aside0.mk hql
      have HTT := Aside0.mk (show ∀ j, j < l2.length → ∀ W, Calls Try.prog 156 #[aggT (rd_T79 l2 j)] W fun e w' => e = .returned (.bool (!(q.getD j true))) ∧ Below W.heap.size W w' from fun j hj W => by
        have e1 : rd_T79 l2 (j : Int) = l2[j] := by simp [rd_T79, List.getD_eq_getElem?_getD, List.getElem?_eq_getElem hj]
        have e2 := hqa j hj
        have hjq : j < q.length := by omega
        rw [List.getElem?_eq_getElem hjq] at e2
        rw [e1, List.getD_eq_getElem?_getD, List.getElem?_eq_getElem hjq, Option.getD_some]
        exact notLyn_ k l2[j] _ W e2)
      clear hqa h hq hql
      go_enter Try.func78, Try.ntmps78
      go_wp2_with (first
        | (go_at_call 138; refine (impl_isLevel.calls _ _ _ _ HBB.out).mono ?_; rintro e w1 ⟨rfl, hd⟩; have HB := Aside0.mk (show Below w.heap.size w w1 from below_step (Below.refl _ _) (Drawn0.below hd)); clear hd)
        | (go_at_call 154; refine (impl_areTerms.calls k _ _ _ _ _ _ _ (Kd.C_below HR.out HB.out) HC.out HCC.out).mono ?_; rintro e w2 ⟨rfl, hd⟩; have HB2 := Aside0.mk (show Below w.heap.size w w2 from below_step HB.out hd); clear hd)
        | (go_at_call 155; refine (contains_terms 156 l2 (fun j => !(q.getD j true)) A2 c2 _ lyn_enters HML.out (Kd.C_below HR.out HB2.out) (fun j hj W _ => HTT.out j hj W)).mono ?_; rintro e w3 ⟨rfl, hd⟩; have HB3 := Aside0.mk (show Below w.heap.size w w3 from below_step HB2.out hd); clear hd))
      go_ret
      refine ⟨?_, HB3.out⟩
      rw [← any_not q, HL.out]; rfl
end Go.Proofs.Ytaiefdhenikiiaa.Base
namespace Go.Proofs.Ytaiefdhenikiiaa.Base
open Go.RowKit Go.Proofs.YtaiefdhenikiiaaW.PrintWords Go.Proofs.YtaiefdhenikiiaaW.PrintLast Go.Proofs.YtaiefdhenikiiaaW.PrintMore
set_option linter.unusedVariables false
set_option linter.unusedSimpArgs false
theorem sin_is (x lo hi : Int) : spec_l01In.f x lo hi = some (decide (lo ≤ x ∧ x ≤ hi)) := by
  unfold spec_l01In.f
  by_cases h : lo ≤ x
  · simp [h]
  · simp [h]
theorem sfrac_is (a : S77) : Ev (fun k => spec_l01IsFrac.f k a.f0 a.f1) (decide (okF a)) := by
  by_cases h1 : 1 ≤ a.f1 ∧ a.f1 ≤ 1000000000
  · by_cases h2 : -1000000000 ≤ a.f0 ∧ a.f0 ≤ 1000000000
    · have := sisfrac_is a.f0 a.f1 (by omega) (by omega)
      exact this
    · unfold spec_l01IsFrac.f
      simp only [sin_is, Option.bind_some]
      simp only [h1, h2, and_self, decide_true, decide_false, if_true, Bool.false_eq_true, if_false]
      rw [decide_eq_false (fun h : okF a => h2 ⟨h.2.2.1, h.2.2.2.1⟩)]
      exact Ev.now _
  · unfold spec_l01IsFrac.f
    simp only [sin_is, Option.bind_some]
    simp only [h1, decide_false, Bool.false_eq_true, if_false]
    rw [decide_eq_false (fun h : okF a => h1 ⟨h.1, h.2.1⟩)]
    exact Ev.now _
theorem sbef_is (a b : ByteArray) : spec_l01Before.f a b = some (befW a b) := by
  unfold spec_l01Before.f befW
  by_cases h : (a.size : Int) = (b.size : Int)
  · rw [if_pos h, if_neg (by simpa using h)]
  · rw [if_neg h, if_pos h]
theorem sword_loop (d : Nat) (hd : d ≤ 9) (s : ByteArray) (hs : s.size ≤ 9223372036854775806) (m : Nat) : ∀ i : Nat, i + m = s.size →
    Ev (fun k => spec_l01Word.l0 k (d : Int) s (i : Int)) ((s.data.toList.drop i).all (letB d)) := by
  have hsz : s.data.toList.length = s.size := by rw [Array.length_toList]; rfl
  induction m with
  | zero =>
    intro i hi
    refine Ev.step (f := fun _ => some true) (fun k => ?_) ?_
    · simp only [spec_l01Word.l0]
      rw [if_neg (by omega)]
    · rw [List.drop_eq_nil_of_le (by omega)]
      exact Ev.now _
  | succ m ih =>
    intro i hi
    have hlt : i < s.data.toList.length := by omega
    have hls : i < s.size := by omega
    have hb : bt s (i : Int) = ((s.data.toList[i]).toNat : Int) := by
      unfold bt
      rw [dif_pos (by simpa using hls)]
      rfl
    have hr : (s.data.toList[i]).toNat < 256 := (s.data.toList[i]).toNat_lt
    obtain ⟨b, hbb⟩ : ∃ b, b = s.data.toList[i] := ⟨_, rfl⟩
    rw [List.drop_eq_getElem_cons hlt, List.all_cons, ← hbb]
    rw [← hbb] at hb hr
    by_cases c : letB d b = true
    · refine Ev.step (fun k => ?_) (by rw [c, Bool.true_and]; exact ih (i + 1) (by omega))
      have c' := of_decide_eq_true c
      simp only [spec_l01Word.l0]
      rw [if_pos (by omega), if_pos (by omega), hb, if_neg (by omega), if_neg (by omega), w64 (by omega) (by omega)]
      rfl
    · have cf : letB d b = false := by simpa using c
      have c' := of_decide_eq_false cf
      rw [cf, Bool.false_and]
      refine Ev.step (f := fun _ => some false) (fun k => ?_) (Ev.now _)
      simp only [spec_l01Word.l0]
      rw [if_pos (by omega), if_pos (by omega), hb]
      by_cases c2 : (b.toNat : Int) < 48
      · rw [if_pos c2]
      · rw [if_neg c2, if_pos (by omega)]
def lettersB (d : Nat) (s : ByteArray) : Bool := s.data.toList.all (letB d)
theorem sword_is (d : Nat) (hd : d ≤ 9) (s : ByteArray) (hs : s.size ≤ 9223372036854775806) : Ev (fun k => spec_l01Word.f k (d : Int) s) (lettersB d s) :=
  sword_loop d hd s hs s.size 0 (by omega)
/-- Terms as_ told, behind a term. -/
def goodP (d n : Nat) : Option S79 → List S79 → Bool
  | _, [] => true
  | y, x :: l => wordB d n x.f0 && (decide (okF x.f1) && ((x.f1.f0 != 0) && ((match y with | none => true | some y => befW y.f0 x.f0) && goodP d n (some x) l)))
theorem goodP_step (d n : Nat) (y : Option S79) (x : S79) (l : List S79) : goodP d n y (x :: l) = (wordB d n x.f0 && (decide (okF x.f1) && ((x.f1.f0 != 0) && ((match y with | none => true | some y => befW y.f0 x.f0) && goodP d n (some x) l)))) := rfl
theorem goodP_cons (d n : Nat) : ∀ (l : List S79) (x : S79), goodB d n (x :: l) = (termB d n none x && goodP d n (some x) l)
  | [], x => by simp [goodB, goodP]
  | y :: l, x => by
    have ih := goodP_cons d n l y
    have e : goodB d n (x :: y :: l) = (termB d n none x && (befW x.f0 y.f0 && goodB d n (y :: l))) := rfl
    rw [e, ih]
    rw [goodP_step]
    unfold termB
    simp only [Bool.and_true]
    cases wordB d n y.f0 <;> cases decide (okF y.f1) <;> cases (y.f1.f0 != 0) <;> cases befW x.f0 y.f0 <;> simp
theorem goodP_is (d n : Nat) (l : List S79) : goodP d n none l = goodB d n l := by
  cases l with
  | nil => rfl
  | cons x l => rw [goodP_cons, goodP_step]; unfold termB; simp only [Bool.and_true, Bool.true_and]; cases wordB d n x.f0 <;> cases decide (okF x.f1) <;> cases (x.f1.f0 != 0) <;> rfl
def prevT (l : List S79) (j : Nat) : Option S79 := if j = 0 then none else l[j - 1]?
def smallT (l : List S79) : Prop := l.length ≤ 1048576 ∧ ∀ x ∈ l, x.f0.size ≤ 1048576
theorem are_loop (d n : Nat) (hd : d ≤ 9) (l : List S79) (hl : smallT l) (m : Nat) : ∀ j : Nat, j + m = l.length →
    Ev (fun k => impl_areTerms.l0 k (d : Int) (n : Int) l l (l.length : Int) (j : Int)) (goodP d n (prevT l j) (l.drop j)) := by
  induction m with
  | zero =>
    intro j hj
    refine Ev.step (f := fun _ => some true) (fun k => ?_) ?_
    · simp only [impl_areTerms.l0]; rw [if_neg (by omega)]
    · rw [List.drop_eq_nil_of_le (by omega)]; exact Ev.now _
  | succ m ih =>
    intro j hj
    have hjl : j < l.length := by omega
    have hlen := hl.1
    have ih := ih (j + 1) (by omega)
    obtain ⟨x, hx⟩ : ∃ x, x = l[j] := ⟨_, rfl⟩
    have hxs : x.f0.size ≤ 1048576 := by rw [hx]; exact hl.2 _ (List.getElem_mem hjl)
    have hpn : prevT l (j + 1) = some x := by unfold prevT; rw [if_neg (by omega), hx]; simp [List.getElem?_eq_getElem hjl]
    rw [hpn] at ih
    rw [List.drop_eq_getElem_cons hjl, ← hx]
    rw [goodP_step]
    have hw := word_is d n hd x.f0 (by omega)
    have hf := frac_is x.f1
    refine Ev.step (f := fun k => (impl_isWord.f k (d : Int) x.f0 (n : Int)).bind fun t => if t = true then (impl_IsFraction.f k x.f1.f0 x.f1.f1).bind fun t => (if t = true then (if x.f1.f0 = 0 then some false else (if (j : Int) > 0 then ((impl_compareWords.f (rd_T79 l (wrap64 ((j : Int) - 1))).f0 x.f0).bind fun t => if t ≥ 0 then some false else impl_areTerms.l0 k (d : Int) (n : Int) l l (l.length : Int) ((j + 1 : Nat) : Int)) else impl_areTerms.l0 k (d : Int) (n : Int) l l (l.length : Int) ((j + 1 : Nat) : Int))) else some false) else some false) (fun k => ?_) (Ev.bind hw ?_)
    · simp only [impl_areTerms.l0]
      rw [if_pos (by omega), if_pos (by omega), if_pos (by omega), rd79 l j hjl, ← hx, w64 (x := (j : Int) + 1) (by omega) (by omega)]
      by_cases cj : (j : Int) > 0
      · simp only [if_pos cj, w64 (x := (j : Int) - 1) (by omega) (by omega), if_pos (show 0 ≤ (j : Int) - 1 by omega), if_pos (show (j : Int) - 1 < (l.length : Int) by omega)]
        rfl
      · simp only [if_neg cj]
        rfl
    · cases cw : wordB d n x.f0 with
      | false => simp only [Bool.false_eq_true, if_false, Bool.false_and]; exact Ev.now _
      | true =>
        simp only [if_true, Bool.true_and]
        refine Ev.bind hf ?_
        cases cf : decide (okF x.f1) with
        | false => simp only [Bool.false_eq_true, if_false, Bool.false_and]; exact Ev.now _
        | true =>
          simp only [if_true, Bool.true_and]
          by_cases cz : x.f1.f0 = 0
          · simp only [cz, if_true]
            exact Ev.now _
          · simp only [if_neg cz, show (x.f1.f0 != 0) = true from by simpa using cz, Bool.true_and]
            by_cases cj : j = 0
            · subst cj
              have : prevT l 0 = none := rfl
              rw [this]
              simp only [Bool.true_and]
              simp only [show ¬ ((0 : Nat) : Int) > 0 by omega, if_false]
              exact ih
            · have hp : prevT l j = some (l[j - 1]'(by omega)) := by unfold prevT; rw [if_neg cj, List.getElem?_eq_getElem (by omega)]
              rw [hp]
              simp only [show ((j : Nat) : Int) > 0 by omega, if_true, w64 (x := (j : Int) - 1) (by omega) (by omega)]
              have hr : rd_T79 l ((j : Int) - 1) = l[j - 1]'(by omega) := by rw [show (j : Int) - 1 = ((j - 1 : Nat) : Int) by omega]; exact rd79 l (j - 1) (by omega)
              rw [hr]
              have hys : (l[j - 1]'(by omega)).f0.size ≤ 1048576 := hl.2 _ (List.getElem_mem _)
              have hc := cmp_bef (l[j - 1]'(by omega)).f0 x.f0 (by omega) (by omega)
              unfold impl_compareWords.f
              simp only [Option.bind_some]
              rw [← hc]
              by_cases cc : cmpW (l[j - 1]'(by omega)).f0 x.f0 < 0
              · rw [decide_eq_true cc, Bool.true_and]
                simp only [if_neg (show ¬ cmpW (l[j - 1]'(by omega)).f0 x.f0 ≥ 0 by omega)]
                exact ih
              · rw [decide_eq_false cc, Bool.false_and]
                simp only [if_pos (show cmpW (l[j - 1]'(by omega)).f0 x.f0 ≥ 0 by omega)]
                exact Ev.now _
theorem are_is (d n : Nat) (hd : d ≤ 9) (l : List S79) (hl : smallT l) : Ev (fun k => impl_areTerms.f k (d : Int) (n : Int) l) (goodB d n l) := by
  have := are_loop d n hd l hl l.length 0 (by omega)
  rw [List.drop_zero, show prevT l 0 = none from rfl, goodP_is] at this
  exact this
end Go.Proofs.Ytaiefdhenikiiaa.Base
namespace Go.Proofs.Ytaiefdhenikiiaa.Base
open Go.RowKit Go.Proofs.YtaiefdhenikiiaaW.PrintWords Go.Proofs.YtaiefdhenikiiaaW.PrintLast Go.Proofs.YtaiefdhenikiiaaW.PrintMore
set_option linter.unusedVariables false
set_option linter.unusedSimpArgs false
def lvlB (D N : Int) : Bool := decide (1 ≤ D ∧ D ≤ 3) && (decide (1 ≤ N ∧ N ≤ 5) && (decide (D < 3) || decide (N < 5)))
theorem lvl_impl (D N : Int) : impl_isLevel.f D N = some (lvlB D N) := by
  unfold impl_isLevel.f impl_areLetters.f lvlB
  simp only [within_is, Option.bind_some]
  by_cases h1 : 1 ≤ D ∧ D ≤ 3
  · by_cases h2 : 1 ≤ N ∧ N ≤ 5
    · by_cases h3 : D < 3 <;> simp [h1, h2, h3]
    · simp [h1, h2]
  · simp [h1]
theorem lvl_spec (D N : Int) : spec_l02Level.f D N = some (lvlB D N) := by
  unfold spec_l02Level.f lvlB
  simp only [sin_is, Option.bind_some]
  by_cases h1 : 1 ≤ D ∧ D ≤ 3
  · by_cases h2 : 1 ≤ N ∧ N ≤ 5
    · by_cases h3 : D < 3 <;> simp [h1, h2, h3]
    · simp [h1, h2]
  · simp [h1]
theorem lvl_nat {D N : Int} (h : lvlB D N = true) : ∃ d n : Nat, D = d ∧ N = n ∧ (1 ≤ d ∧ d ≤ 3) ∧ 1 ≤ n ∧ n ≤ 5 := by
  unfold lvlB at h
  simp only [Bool.and_eq_true, decide_eq_true_eq] at h
  obtain ⟨h1, h2, _⟩ := h
  exact ⟨D.toNat, N.toNat, by omega, by omega, ⟨by omega, by omega⟩, by omega, by omega⟩
/-- Is a text a Lyndon word? -/
def lynV (s : ByteArray) : Bool := (List.range' 1 (s.size - 1)).all (fun q => Op.bytesLess s.toList (s.extract q s.size).toList) && decide (0 < s.size)
theorem lynV_loop_i (s : ByteArray) (hs : s.size ≤ 1048576) (h0 : 0 < s.size) (m : Nat) : ∀ j : Nat, 1 ≤ j → j + m = s.size →
    Ev (fun k => impl_isLyndon.l0 k s (j : Int)) ((List.range' j m).all (fun q => Op.bytesLess s.toList (s.extract q s.size).toList)) ∧ Ev (fun k => spec_l06Lyndon.l0 k s (j : Int)) ((List.range' j m).all (fun q => Op.bytesLess s.toList (s.extract q s.size).toList)) := by
  have hne : (s.toList != ([] : List UInt8)) = true := by
    rw [bne_iff_ne]; intro e
    have := congrArg List.length e
    rw [ByteArray.toList_eq, Array.length_toList] at this
    have h2 : s.size = s.data.size := rfl
    rw [List.length_nil] at this; omega
  induction m with
  | zero =>
    intro j h1 hj
    refine ⟨Ev.step (f := fun _ => some true) (fun k => ?_) (Ev.now _), Ev.step (f := fun _ => some true) (fun k => ?_) (Ev.now _)⟩
    · simp only [impl_isLyndon.l0]; rw [if_neg (by omega), hne]
    · simp only [spec_l06Lyndon.l0]; rw [if_neg (by omega), decide_eq_true (by omega)]
  | succ m ih =>
    intro j h1 hj
    rw [List.range'_succ, List.all_cons]
    obtain ⟨i1, i2⟩ := ih (j + 1) (by omega) (by omega)
    have e1 : wrap64 ((j : Int) + 1) = ((j + 1 : Nat) : Int) := by unfold wrap64; omega
    cases c : Op.bytesLess s.toList (s.extract j s.size).toList with
    | true =>
      rw [Bool.true_and]
      refine ⟨Ev.step (fun k => ?_) i1, Ev.step (fun k => ?_) i2⟩
      · simp only [impl_isLyndon.l0]; rw [if_pos (by omega), if_pos (by omega), if_pos (by omega), Int.toNat_natCast, if_pos c, e1]
      · simp only [spec_l06Lyndon.l0]; rw [if_pos (by omega), if_pos (by omega), if_pos (by omega), Int.toNat_natCast, if_pos c, e1]
    | false =>
      rw [Bool.false_and]
      refine ⟨Ev.step (f := fun _ => some false) (fun k => ?_) (Ev.now _), Ev.step (f := fun _ => some false) (fun k => ?_) (Ev.now _)⟩
      · simp only [impl_isLyndon.l0]; rw [if_pos (by omega), if_pos (by omega), if_pos (by omega), Int.toNat_natCast, if_neg (by rw [c]; simp)]
      · simp only [spec_l06Lyndon.l0]; rw [if_pos (by omega), if_pos (by omega), if_pos (by omega), Int.toNat_natCast, if_neg (by rw [c]; simp)]
theorem lynV_both (s : ByteArray) (hs : s.size ≤ 1048576) : Ev (fun k => impl_isLyndon.f k s) (lynV s) ∧ Ev (fun k => spec_l06Lyndon.f k s) (lynV s) := by
  by_cases h0 : 0 < s.size
  · have := lynV_loop_i s hs h0 (s.size - 1) 1 (by omega) (by omega)
    unfold lynV
    rw [decide_eq_true h0, Bool.and_true]
    exact this
  · have e : lynV s = false := by unfold lynV; rw [decide_eq_false h0, Bool.and_false]
    have hn : s.toList = [] := by
      have h2 : s.size = s.data.size := rfl
      rw [ByteArray.toList_eq]; apply List.eq_nil_of_length_eq_zero; rw [Array.length_toList]; omega
    rw [e]
    refine ⟨Ev.step (f := fun _ => some false) (fun k => ?_) (Ev.now _), Ev.step (f := fun _ => some false) (fun k => ?_) (Ev.now _)⟩
    · unfold impl_isLyndon.f; simp only [impl_isLyndon.l0]; rw [if_neg (by omega), hn]; rfl
    · unfold spec_l06Lyndon.f; simp only [spec_l06Lyndon.l0]; rw [if_neg (by omega), decide_eq_false (by omega)]
theorem lynAll_is (l : List S79) (hl : ∀ x ∈ l, x.f0.size ≤ 1048576) : Ev (fun k => lynAll k l) (l.map fun x => lynV x.f0) := by
  induction l with
  | nil => exact Ev.now _
  | cons x l ih =>
    have ih := ih (fun y hy => hl y (List.mem_cons_of_mem _ hy))
    obtain ⟨K1, h1⟩ := (lynV_both x.f0 (hl x List.mem_cons_self)).1
    obtain ⟨K2, h2⟩ := ih
    refine ⟨K1 + K2, fun k hk => ?_⟩
    have e1 := h1 k (by omega)
    have e2 := h2 k (by omega)
    dsimp only at e1 e2 ⊢
    unfold lynAll
    rw [e1, Option.bind_some, e2]
    rfl
/-- Are they coordinates? -/
def coB (D N : Int) (l : List S79) : Bool := lvlB D N && (goodB D.toNat N.toNat l && l.all fun x => lynV x.f0)
theorem co_impl (D N : Int) (l : List S79) (hl : smallT l) : Ev (fun k => impl_areCoordinates.f k D N l) (coB D N l) := by
  unfold impl_areCoordinates.f coB
  have h1 := hl.1
  rw [lvl_impl]
  simp only [show l.length ≤ 9223372036854775807 by omega, if_true, Option.bind_some]
  cases h : lvlB D N with
  | false => simp only [Bool.false_eq_true, if_false, Bool.false_and]; exact Ev.now _
  | true =>
    simp only [if_true, Bool.true_and]
    obtain ⟨d, n, rfl, rfl, hs, _⟩ := lvl_nat h
    have ha := are_is d n (by omega) l hl
    simp only [Int.toNat_natCast]
    refine Ev.bind ha ?_
    cases goodB d n l with
    | false => simp only [Bool.false_eq_true, if_false, Bool.false_and]; exact Ev.now _
    | true =>
      simp only [if_true, Bool.true_and]
      obtain ⟨K, hK⟩ := lynAll_is l hl.2
      refine ⟨K, fun k hk => ?_⟩
      have e1 := hK k hk
      dsimp only at e1 ⊢
      rw [e1]
      simp only [Option.map_some, List.all_map]
      rfl
def goodLP (d n : Nat) : Option S79 → List S79 → Bool
  | _, [] => true
  | y, x :: l => wordB d n x.f0 && (lynV x.f0 && (decide (okF x.f1) && ((x.f1.f0 != 0) && ((match y with | none => true | some y => befW y.f0 x.f0) && goodLP d n (some x) l))))
theorem goodLP_step (d n : Nat) (y : Option S79) (x : S79) (l : List S79) : goodLP d n y (x :: l) = (wordB d n x.f0 && (lynV x.f0 && (decide (okF x.f1) && ((x.f1.f0 != 0) && ((match y with | none => true | some y => befW y.f0 x.f0) && goodLP d n (some x) l))))) := rfl
theorem goodLP_is (d n : Nat) : ∀ (l : List S79) (y : Option S79), goodLP d n y l = (goodP d n y l && l.all fun x => lynV x.f0)
  | [], y => rfl
  | x :: l, y => by
    rw [goodLP_step, goodP_step, goodLP_is d n l, List.all_cons]
    cases y <;> cases wordB d n x.f0 <;> cases lynV x.f0 <;> cases decide (okF x.f1) <;> cases (x.f1.f0 != 0) <;> simp [Bool.and_assoc]
theorem giv_loop (d n : Nat) (hd : d ≤ 9) (l : List S79) (hl : smallT l) (m : Nat) : ∀ j : Nat, j + m = l.length →
    Ev (fun k => spec_l06Given.l0 k (d : Int) (n : Int) l (j : Int)) (goodLP d n (prevT l j) (l.drop j)) := by
  induction m with
  | zero =>
    intro j hj
    refine Ev.step (f := fun _ => some true) (fun k => ?_) ?_
    · simp only [spec_l06Given.l0]; rw [if_neg (by omega)]
    · rw [List.drop_eq_nil_of_le (by omega)]; exact Ev.now _
  | succ m ih =>
    intro j hj
    have hjl : j < l.length := by omega
    have hlen := hl.1
    have ih := ih (j + 1) (by omega)
    obtain ⟨x, hx⟩ : ∃ x, x = l[j] := ⟨_, rfl⟩
    have hxs : x.f0.size ≤ 1048576 := by rw [hx]; exact hl.2 _ (List.getElem_mem hjl)
    have hpn : prevT l (j + 1) = some x := by unfold prevT; rw [if_neg (by omega), hx]; simp [List.getElem?_eq_getElem hjl]
    rw [hpn] at ih
    rw [List.drop_eq_getElem_cons hjl, ← hx]
    have hw := sword_is d hd x.f0 (by omega)
    have hf := sfrac_is x.f1
    have hy := (lynV_both x.f0 hxs).2
    have hbad : Ev (fun k => spec_l06Given.j1 k (d : Int) (n : Int) l (j : Int) x.f0 true) false := by
      refine Ev.step (f := fun _ => some false) (fun k => ?_) (Ev.now _)
      simp only [spec_l06Given.j1, if_true]
    have hgo : Ev (fun k => spec_l06Given.j1 k (d : Int) (n : Int) l (j : Int) x.f0 false) ((match prevT l j with | none => true | some y => befW y.f0 x.f0) && goodLP d n (some x) (l.drop (j + 1))) := by
      by_cases cj : j = 0
      · subst cj
        have : prevT l 0 = none := rfl
        rw [this]
        simp only [Bool.true_and]
        refine Ev.step (fun k => ?_) ih
        simp only [spec_l06Given.j1, Bool.false_eq_true, if_false]
        rw [if_neg (by omega), w64 (by omega) (by omega)]; rfl
      · have hp : prevT l j = some (l[j - 1]'(by omega)) := by unfold prevT; rw [if_neg cj, List.getElem?_eq_getElem (by omega)]
        rw [hp]
        dsimp only
        have hr : rd_T79 l ((j : Int) - 1) = l[j - 1]'(by omega) := by rw [show (j : Int) - 1 = ((j - 1 : Nat) : Int) by omega]; exact rd79 l (j - 1) (by omega)
        refine Ev.step (f := fun k => if befW (l[j - 1]'(by omega)).f0 x.f0 = true then spec_l06Given.l0 k (d : Int) (n : Int) l ((j + 1 : Nat) : Int) else some false) (fun k => ?_) ?_
        · simp only [spec_l06Given.j1, Bool.false_eq_true, if_false]
          rw [if_pos (by omega), w64 (x := (j : Int) - 1) (by omega) (by omega), if_pos (by omega), if_pos (by omega), hr, sbef_is, w64 (x := (j : Int) + 1) (by omega) (by omega)]
          rfl
        · cases befW (l[j - 1]'(by omega)).f0 x.f0 with
          | false => simp only [Bool.false_eq_true, if_false, Bool.false_and]; exact Ev.now _
          | true => simp only [if_true, Bool.true_and]; exact ih
    rw [goodLP_step]
    refine Ev.step (f := fun k => (spec_l01Word.f k (d : Int) x.f0).bind fun t => if t = true then (if (x.f0.size : Int) > (n : Int) then spec_l06Given.j1 k (d : Int) (n : Int) l (j : Int) x.f0 true else (spec_l06Lyndon.f k x.f0).bind fun t => if t = true then (spec_l01IsFrac.f k x.f1.f0 x.f1.f1).bind fun t => (if t = true then spec_l06Given.j1 k (d : Int) (n : Int) l (j : Int) x.f0 (x.f1.f0 == 0) else spec_l06Given.j1 k (d : Int) (n : Int) l (j : Int) x.f0 true) else spec_l06Given.j1 k (d : Int) (n : Int) l (j : Int) x.f0 true) else spec_l06Given.j1 k (d : Int) (n : Int) l (j : Int) x.f0 true) (fun k => ?_) (Ev.bind hw ?_)
    · simp only [spec_l06Given.l0]
      rw [if_pos (by omega), if_pos (by omega), rd79 l j hjl, ← hx]
      rfl
    · cases cw : lettersB d x.f0 with
      | false =>
        have : wordB d n x.f0 = false := by show (lettersB d x.f0 && _) = false; rw [cw]; rfl
        rw [this, Bool.false_and]
        simp only [Bool.false_eq_true, if_false]; exact hbad
      | true =>
        simp only [if_true]
        by_cases cs : (x.f0.size : Int) > (n : Int)
        · have : wordB d n x.f0 = false := by unfold wordB; rw [decide_eq_false (by omega), Bool.and_false]
          rw [this, Bool.false_and]
          simp only [cs, if_true]; exact hbad
        · have : wordB d n x.f0 = true := by show (lettersB d x.f0 && _) = true; rw [cw, decide_eq_true (by omega)]; rfl
          rw [this, Bool.true_and]
          simp only [if_neg cs]
          refine Ev.bind hy ?_
          cases lynV x.f0 with
          | false => simp only [Bool.false_eq_true, if_false, Bool.false_and]; exact hbad
          | true =>
            simp only [if_true, Bool.true_and]
            refine Ev.bind hf ?_
            cases cf : decide (okF x.f1) with
            | false => simp only [Bool.false_eq_true, if_false, Bool.false_and]; exact hbad
            | true =>
              simp only [if_true, Bool.true_and]
              by_cases cz : x.f1.f0 = 0
              · simp only [cz, show ((0 : Int) == 0) = true from rfl, show ((0 : Int) != 0) = false from rfl, Bool.false_and]
                exact hbad
              · simp only [show (x.f1.f0 == 0) = false from by simpa using cz, show (x.f1.f0 != 0) = true from by simpa using cz, Bool.true_and]
                exact hgo
theorem co_spec (D N : Int) (l : List S79) (hl : smallT l) : Ev (fun k => spec_l06Given.f k D N l) (coB D N l) := by
  unfold spec_l06Given.f coB
  rw [lvl_spec]
  cases h : lvlB D N with
  | false => simp only [Option.bind_some, Bool.false_eq_true, if_false, Bool.false_and]; exact Ev.now _
  | true =>
    simp only [Option.bind_some, if_true, Bool.true_and]
    obtain ⟨d, n, rfl, rfl, hs, _⟩ := lvl_nat h
    have := giv_loop d n (by omega) l hl l.length 0 (by omega)
    rw [List.drop_zero, show prevT l 0 = none from rfl, goodLP_is, goodP_is] at this
    exact this
end Go.Proofs.Ytaiefdhenikiiaa.Base
namespace Go.Proofs.Ytaiefdhenikiiaa.Base
open Go.RowKit Go.Proofs.YtaiefdhenikiiaaW.PrintWords Go.Proofs.YtaiefdhenikiiaaW.PrintLast Go.Proofs.YtaiefdhenikiiaaW.PrintMore
attribute [local go_sem] max2_int min2_int max_two min_two max_three min_three max_four min_four Go.Proofs.YtaiefdhenikiiaaZ.min2_string   -- for this text's walks alone
set_option linter.unusedVariables false
set_option linter.unusedSimpArgs false
def negX (x : S79) : S79 := ⟨x.f0, ⟨wrap64 (-x.f1.f0), x.f1.f1⟩⟩
def negTo (l : List S79) (i : Nat) : List S79 := (l.take i).map negX ++ l.drop i
theorem negTo_len (l : List S79) (i : Nat) (h : i ≤ l.length) : (negTo l i).length = l.length := by
  unfold negTo; rw [List.length_append, List.length_map, List.length_take, List.length_drop]; omega
theorem negTo_at (l : List S79) (i : Nat) (h : i < l.length) (h2 : i < (negTo l i).length) : (negTo l i)[i] = l[i] := by
  have e : (negTo l i)[i]? = some l[i] := by
    unfold negTo
    rw [List.getElem?_append_right (by rw [List.length_map, List.length_take]; exact Nat.min_le_left _ _)]
    simp [Nat.min_eq_left (Nat.le_of_lt h), List.getElem?_eq_getElem h]
  rw [List.getElem?_eq_getElem h2] at e
  exact Option.some.inj e
theorem negTo_set (l : List S79) (i : Nat) (h : i < l.length) : (negTo l i).set i (negX l[i]) = negTo l (i + 1) := by
  unfold negTo
  have hl : ((l.take i).map negX).length = i := by simp; omega
  rw [List.set_append_right _ _ (by omega), hl, Nat.sub_self, List.drop_eq_getElem_cons h, List.set_cons_zero, List.take_succ_eq_append_getElem h, List.map_append]
  simp
def impl_InverseCoordinates.f (k : Nat) (a0 : Int) (a1 : Int) (l2 : List (S79)) : Option ((List (S79)) × Int) := (impl_areCoordinates.f k a0 a1 l2).bind fun b => if b = true then (impl_Term_79.f l2).bind fun q => some (q.map negX, 0) else some ([], 2)
theorem impl_InverseCoordinates.mono : ∀ a0 a1 l2 k, LeO (impl_InverseCoordinates.f k a0 a1 l2) (impl_InverseCoordinates.f (k + 1) a0 a1 l2) := by
  intro a0 a1 l2 k
  unfold impl_InverseCoordinates.f
  exact LeO.bind (impl_areCoordinates.mono _ _ _ _) (fun b => LeO.refl _)
set_option maxHeartbeats 8000000 in
set_option maxRecDepth 100000 in
theorem impl_InverseCoordinates.calls (k : Nat) (a0 : Int) (a1 : Int) (A2 : Option Addr) (c2 : Nat) (l2 : List (S79)) (r1 : List (S79)) (r2 : Int) (w : World) (hr2 : Kd.C k79 w A2 l2.length l2) (hc2 : l2.length ≤ c2) (h : impl_InverseCoordinates.f k a0 a1 l2 = some (r1, r2)) :
    Calls Try.prog 24 #[.int .i64 a0, .int .i64 a1, .slice A2 l2.length c2] w fun e w' => ∃ v0_ : Value, e = .returned (.tuple #[v0_, .int .i64 r2]) ∧ Kd.R k79 79 w' w.heap.size (fun _ => True) v0_ r1 ∧ Below w.heap.size w w' := by
  have hu79 := Try.underlying79
  have hu77 := Try.underlying77
  have HR := Aside0.mk hr2
  have HC := Aside0.mk hc2
  clear hr2 hc2
  unfold impl_InverseCoordinates.f at h
  obtain ⟨b, hb, h⟩ := Option.bind_eq_some_iff.1 h
  have HBB := Aside0.mk hb
  clear hb
  cases b with
  | false =>
    rw [if_neg (by simp)] at h
    have h := Option.some.inj h
    obtain rfl : [] = r1 := congrArg Prod.fst h
    obtain rfl : 2 = r2 := congrArg Prod.snd h
    clear h
    go_enter Try.func24, Try.ntmps24
    go_wp2_with (go_at_call 78; refine (impl_areCoordinates.calls k _ _ _ _ _ _ _ HR.out HC.out HBB.out).mono ?_; rintro e w1 ⟨rfl, hd⟩; have HB := Aside0.mk hd; clear hd)
    go_returns
    exact ⟨_, rfl, Kd.R_nil _ _ _ _ _, HB.out⟩
  | true =>
    rw [if_pos rfl] at h
    obtain ⟨q, hq, h⟩ := Option.bind_eq_some_iff.1 h
    have h := Option.some.inj h
    obtain rfl : q.map negX = r1 := congrArg Prod.fst h
    obtain rfl : 0 = r2 := congrArg Prod.snd h
    clear h
    have hq0 := hq
    unfold impl_Term_79.f at hq0
    split at hq0
    rotate_left
    · cases hq0
    rename_i hlen
    obtain rfl := Option.some.inj hq0
    have HLEN := Aside0.mk hlen
    have HQ := Aside0.mk hq
    clear hq hq0 hlen
    go_enter Try.func24, Try.ntmps24
    go_wp2_with (first
      | (go_at_call 78; refine (impl_areCoordinates.calls k _ _ _ _ _ _ _ HR.out HC.out HBB.out).mono ?_; rintro e w1 ⟨rfl, hd⟩; have HB := Aside0.mk hd; clear hd)
      | (go_at_call 79; refine (impl_Term_79.calls _ _ _ _ _ (Kd.C_below HR.out HB.out) HC.out HQ.out).mono ?_; rintro e w2 ⟨v, rfl, ho, hb⟩; have HO := Aside0.mk (Kd.R_lower ho HB.out.size); have HB2 := Aside0.mk (show Below w.heap.size w w2 from below_step HB.out hb); obtain ⟨A, cap, rfl⟩ := Kd.R_slice ho; clear ho hb))
    go_loopg [9, 19] l2.length (fun gg v9 v19 wr => ∃ i : Nat, i ≤ l2.length ∧ l2.length - i ≤ gg ∧ v19 = .int .i64 i ∧ Aside0 (Kd.R k79 79 wr w.heap.size (fun _ => True) (.slice A l2.length cap) (negTo l2 i)) ∧ Aside0 (Below w.heap.size w wr))
    case atStart => exact ⟨0, Nat.zero_le _, by omega, rfl, HO, HB2⟩
    case round =>
      clear HO HB2
      obtain ⟨i, hi, hg, rfl, HO, HB⟩ := hrel
      have hnl := negTo_len l2 i hi
      by_cases hlt : i < l2.length
      · have hltz : (i : Int) < (l2.length : Int) := by omega
        obtain ⟨g, cp, e_, gb, gl, cl, hg_⟩ := Kd.R_form HO.out (by omega)
        obtain ⟨rfl⟩ : A = some ⟨g, 0, none⟩ := by injection e_
        have HGB := Aside0.mk gb
        have HN := Aside0.mk hnl
        have ho := HO.out
        rw [← hnl] at ho
        obtain ⟨⟨x0, x1, x2⟩, f0, f1, f2⟩ := atT ho i (by omega)
        rw [negTo_at l2 i hlt] at x0 x1 x2
        have HX := Aside0.mk ((put1 HO.out i (by omega) hnl (wrap64 (-(l2[i].f1.f0)))).1)
        clear ho e_ gb gl hg_ x0 x2 f0 f2
        go_wp2
        go_roundg (l2.length - (i + 1))
        case measure => omega
        case rel =>
          refine ⟨i + 1, by omega, by omega, by first | rfl | (rw [w64 (by omega) (by have := HLEN.out; omega)]; rfl), ⟨?_⟩, ⟨HB.out.setCell HGB.out _⟩⟩
          have hx := HX.out
          have e2 := negTo_set l2 i hlt
          unfold negX at e2
          rw [← e2]
          simp only [negTo_at l2 i hlt] at hx
          exact hx
      · have hltz : ¬ (i : Int) < (l2.length : Int) := by omega
        obtain rfl : i = l2.length := by omega
        go_wp2
        go_returns
        have ho := HO.out
        unfold negTo at ho
        rw [List.take_length, List.drop_length, List.append_nil] at ho
        exact ⟨_, rfl, ho, HB.out⟩
end Go.Proofs.Ytaiefdhenikiiaa.Base
namespace Go.Proofs.Ytaiefdhenikiiaa.Base
open Go.RowKit Go.Proofs.YtaiefdhenikiiaaW.PrintWords Go.Proofs.YtaiefdhenikiiaaW.PrintLast Go.Proofs.YtaiefdhenikiiaaW.PrintMore
attribute [local go_sem] max2_int min2_int max_two min_two max_three min_three max_four min_four Go.Proofs.YtaiefdhenikiiaaZ.min2_string   -- for this text's walks alone
set_option linter.unusedVariables false
set_option linter.unusedSimpArgs false
theorem alloc_set22 (w : World) (cs : Array Value) (t : TypeId) (i : Nat) (v : Value) : (w.alloc (.cells cs t)).setCell ⟨w.heap.size, i, none⟩ v = w.alloc (.cells (cs.setIfInBounds i v) t) := World.setCell_alloc_at (w := w) cs t w.heap.size i v rfl
def spec_InverseCoordinates.f (k : Nat) (a0 : Int) (a1 : Int) (l2 : List (S79)) : Option ((List (S79)) × Int) := (spec_l06Given.f k a0 a1 l2).bind fun b => if b = true then (if l2.length < 4398046511104 then some (l2.map negX, 0) else none) else some ([], 2)
theorem spec_InverseCoordinates.mono : ∀ a0 a1 l2 k, LeO (spec_InverseCoordinates.f k a0 a1 l2) (spec_InverseCoordinates.f (k + 1) a0 a1 l2) := by
  intro a0 a1 l2 k
  unfold spec_InverseCoordinates.f
  exact LeO.bind (spec_l06Given.mono _ _ _ _) (fun b => LeO.refl _)
attribute [local go_sem] alloc_set22
set_option maxHeartbeats 8000000 in
set_option maxRecDepth 100000 in
theorem spec_InverseCoordinates.calls (k : Nat) (a0 : Int) (a1 : Int) (A2 : Option Addr) (c2 : Nat) (l2 : List (S79)) (r1 : List (S79)) (r2 : Int) (w : World) (hr2 : Kd.C k79 w A2 l2.length l2) (hc2 : l2.length ≤ c2) (h : spec_InverseCoordinates.f k a0 a1 l2 = some (r1, r2)) :
    Calls Try.prog 22 #[.int .i64 a0, .int .i64 a1, .slice A2 l2.length c2] w fun e w' => ∃ v0_ : Value, e = .returned (.tuple #[v0_, .int .i64 r2]) ∧ Kd.R k79 79 w' w.heap.size (fun _ => True) v0_ r1 ∧ Below w.heap.size w w' := by
  have hu79 := Try.underlying79
  have hu77 := Try.underlying77
  have HR := Aside0.mk hr2
  have HC := Aside0.mk hc2
  clear hr2 hc2
  unfold spec_InverseCoordinates.f at h
  obtain ⟨b, hb, h⟩ := Option.bind_eq_some_iff.1 h
  have HBB := Aside0.mk hb
  clear hb
  cases b with
  | false =>
    rw [if_neg (by simp)] at h
    have h := Option.some.inj h
    obtain rfl : [] = r1 := congrArg Prod.fst h
    obtain rfl : 2 = r2 := congrArg Prod.snd h
    clear h
    go_enter Try.func22, Try.ntmps22
    go_wp2_with (go_at_call 76; refine (spec_l06Given.calls k _ _ _ _ _ _ _ HR.out HC.out HBB.out).mono ?_; rintro e w1 ⟨rfl, hd⟩; have HB := Aside0.mk hd; clear hd)
    go_returns
    exact ⟨_, rfl, Kd.R_nil _ _ _ _ _, HB.out⟩
  | true =>
    rw [if_pos rfl] at h
    by_cases hlen : l2.length < 4398046511104
    rotate_left
    · rw [if_neg hlen] at h; cases h
    rw [if_pos hlen] at h
    have h := Option.some.inj h
    obtain rfl : l2.map negX = r1 := congrArg Prod.fst h
    obtain rfl : 0 = r2 := congrArg Prod.snd h
    have HLEN := Aside0.mk hlen
    clear h hlen
    go_enter Try.func22, Try.ntmps22
    go_wp2_with (first
      | (go_at_call 76; refine (spec_l06Given.calls k _ _ _ _ _ _ _ HR.out HC.out HBB.out).mono ?_; rintro e w1 ⟨rfl, hd⟩; have HB := Aside0.mk hd; clear hd)
      | ((with_reducible refine gate_dst (N := 16) rfl ?_); refine Kd.R_lit k79 _ 79 ?hg (N := 16) ?hd (xs := ([] : List (S79))) (inner := []) (ok := fun _ => True) (okp := fun _ => True) ?hr ?hp (fun _ hk => hk) trivial (Below.refl _ _) (Nat.le_refl _) (by simp) ?_; (case hd => rfl); (case hg => rfl); (case hr => first | (go_simp; done) | (go_simp; rfl)); (case hp => exact (Reps.none _ _)); intro v0 w2 ho hb hg_ hnew_; have HO := Aside0.mk (Kd.R_lower ho (below_size HB.out)); have HB2 := Aside0.mk (below_step HB.out hb); clear hg_ hnew_ ho hb))
    go_loopg [8, 9] l2.length (fun gg v8 v9 wr => ∃ (i : Nat) (v : Value), i ≤ l2.length ∧ l2.length - i ≤ gg ∧ v8 = v ∧ v9 = .int .i64 i ∧ Aside0 (Kd.R k79 79 wr w.heap.size (fun _ => True) v ((l2.take i).map negX)) ∧ Aside0 (Below w.heap.size w wr))
    case atStart => exact ⟨0, _, Nat.zero_le _, by omega, rfl, rfl, HO, HB2⟩
    case round =>
      clear HO HB2
      obtain ⟨i, v, hi, hg, he, rfl, HO, HB⟩ := hrel
      have he2 := he.symm
      clear he
      subst he2
      by_cases hlt : i < l2.length
      · have hltz : (i : Int) < (l2.length : Int) := by omega
        obtain ⟨ad, rfl, x0, x1, x2⟩ := at_T79 (Kd.C_below HR.out HB.out) (i : Int) (by omega) (by omega)
        have e1 : rd_T79 l2 (i : Int) = l2[i] := by simp [rd_T79, List.getD_eq_getElem?_getD, List.getElem?_eq_getElem hlt]
        rw [e1, Int.toNat_natCast] at x0 x1 x2
        clear e1
        go_wp2_with (first | ((with_reducible refine gate_builtin (b := .append) (xs := #[.tmp 33, .tmp 35]) rfl ?_); go_loud (at_builtin; refine Kd.R_append k79 (w0 := w) w.heap.size rfl (.tmp 33) (.tmp 35) 24 79 (.agg #[(.string ⟨#[]⟩), (.int .i64 0), (.int .i64 0)]) 32 rfl Try.underlying24 info79 rfl (by decide) (by omega) v ((l2.take i).map negX) (negX l2[i]) [.string l2[i].f0, .int .i64 (wrap64 (-l2[i].f1.f0)), .int .i64 l2[i].f1.f1] (fun _ => True) (fun _ => False) rfl (by first | (go_simp; done) | (go_simp; rfl)) ?aP (fun _ hk => hk.elim) ?aF ?aO ?aB ?aS ?aL ?_; (case aP => exact k79_mkM _ _ _ (negX l2[i])); (case aB => exact below_alloc HB.out _); (case aF => exact (fun _ _ => trivial)); (case aO => exact Kd.R_alloc HO.out _); (case aS => exact (below_size (below_alloc HB.out _))); (case aL => have := HLEN.out; rw [List.length_map, List.length_take]; omega); intro v1 w5 ho hb hg hat; have HO5 := Aside0.mk ho; have HB5 := Aside0.mk hb; clear ho hb hg hat)))
        go_roundg (l2.length - (i + 1))
        case measure => omega
        case rel =>
          refine ⟨i + 1, _, by omega, by omega, rfl, by first | rfl | (rw [w64 (by omega) (by have := HLEN.out; omega)]; rfl), ⟨?_⟩, HB5⟩
          rw [List.take_succ_eq_append_getElem hlt, List.map_append]
          exact HO5.out
      · have hltz : ¬ (i : Int) < (l2.length : Int) := by omega
        obtain rfl : i = l2.length := by omega
        obtain ⟨A_, c_, rfl⟩ := Kd.R_slice HO.out
        go_wp2
        go_returns
        have ho := HO.out
        rw [List.take_length, List.length_map] at ho
        exact ⟨_, rfl, ho, HB.out⟩
end Go.Proofs.Ytaiefdhenikiiaa.Base
namespace Go.Proofs.Ytaiefdhenikiiaa.Base
open Go.RowKit Go.Proofs.YtaiefdhenikiiaaW.PrintWords Go.Proofs.YtaiefdhenikiiaaW.PrintLast Go.Proofs.YtaiefdhenikiiaaW.PrintMore
attribute [local go_sem] max2_int min2_int max_two min_two max_three min_three max_four min_four Go.Proofs.YtaiefdhenikiiaaZ.min2_string   -- for this text's walks alone
set_option linter.unusedVariables false
set_option linter.unusedSimpArgs false
mutual
def laws_FnExactInverseCoordinates.j0 : Nat → Int → Int → List (S75) → List (S79) → Int → List (S79) → List (S79) → Int → Bool → Option (Bool)
  | 0, _, _, _, _, _, _, _, _, _ => none
  | k + 1, x0, x1, x2, x8, x9, x10, x11, x12, x48 => if x48 = true then (some false) else ((laws_toTermS.f k x2).bind fun t193 => ((laws_eqTermS.f k x10 t193).bind fun t196 => (if t196 = true then ((laws_markTermS.f k x10 1).bind fun bt197 => (if bt197.1 < 0 then (laws_FnExactInverseCoordinates.j1 k x0 x1 x2 x8 x9 x11 true) else ((laws_eqTermS.f k x11 x8).bind fun t199 => (if t199 = true then (laws_FnExactInverseCoordinates.j1 k x0 x1 x2 x8 x9 x11 (x12 != x9)) else (laws_FnExactInverseCoordinates.j1 k x0 x1 x2 x8 x9 x11 true))))) else (some false))))
def laws_FnExactInverseCoordinates.j1 : Nat → Int → Int → List (S75) → List (S79) → Int → List (S79) → Bool → Option (Bool)
  | 0, _, _, _, _, _, _, _ => none
  | k + 1, x0, x1, x2, x8, x9, x11, x69 => if x69 = true then (some false) else ((laws_markTermS.f k x11 1).bind fun bt200 => ((laws_heldTermS.f k bt200.2 1).bind fun t202 => (if t202 < 0 then (some false) else (if t202 = bt200.1 then ((laws_toTermS.f k x2).bind fun t203 => ((impl_InverseCoordinates.f k x0 x1 t203).bind fun bt206 => ((laws_eqTermS.f k bt206.1 x8).bind fun t210 => (if t210 = true then (laws_FnExactInverseCoordinates.j2 k bt200.2 bt200.1 (bt206.2 != x9)) else (laws_FnExactInverseCoordinates.j2 k bt200.2 bt200.1 true))))) else (some false)))))
def laws_FnExactInverseCoordinates.j2 : Nat → List (S79) → Int → Bool → Option (Bool)
  | 0, _, _, _ => none
  | k + 1, x11, x14, x97 => if x97 = true then (some false) else ((laws_heldTermS.f k x11 1).bind fun t211 => (if t211 < 0 then (some false) else (if t211 = x14 then (some true) else (some false))))
end
def laws_FnExactInverseCoordinates.f (k : Nat) (a0 : Int) (a1 : Int) (l2 : List (S75)) : Option (Bool) := (laws_szTermS.f k l2 1048576).bind fun t177 => (if t177 < 0 then (some true) else ((laws_toTermS.f k l2).bind fun t178 => ((spec_InverseCoordinates.f k a0 a1 t178).bind fun bt181 => ((laws_toTermS.f k l2).bind fun t185 => ((impl_InverseCoordinates.f k a0 a1 t185).bind fun bt188 => ((laws_eqTermS.f k bt188.1 bt181.1).bind fun t192 => (if t192 = true then (laws_FnExactInverseCoordinates.j0 k a0 a1 l2 bt181.1 bt181.2 t185 bt188.1 bt188.2 (bt188.2 != bt181.2)) else (laws_FnExactInverseCoordinates.j0 k a0 a1 l2 bt181.1 bt181.2 t185 bt188.1 bt188.2 true))))))))
theorem laws_FnExactInverseCoordinates.mono_l : ∀ k, (∀ y0 y1 y2 y3 y4 y5 y6 y7 y8, LeO (laws_FnExactInverseCoordinates.j0 k y0 y1 y2 y3 y4 y5 y6 y7 y8) (laws_FnExactInverseCoordinates.j0 (k + 1) y0 y1 y2 y3 y4 y5 y6 y7 y8)) ∧ (∀ y0 y1 y2 y3 y4 y5 y6, LeO (laws_FnExactInverseCoordinates.j1 k y0 y1 y2 y3 y4 y5 y6) (laws_FnExactInverseCoordinates.j1 (k + 1) y0 y1 y2 y3 y4 y5 y6)) ∧ (∀ y0 y1 y2, LeO (laws_FnExactInverseCoordinates.j2 k y0 y1 y2) (laws_FnExactInverseCoordinates.j2 (k + 1) y0 y1 y2))
  | 0 => ⟨fun _ _ _ _ _ _ _ _ _ r h => by simp [laws_FnExactInverseCoordinates.j0] at h, fun _ _ _ _ _ _ _ r h => by simp [laws_FnExactInverseCoordinates.j1] at h, fun _ _ _ r h => by simp [laws_FnExactInverseCoordinates.j2] at h⟩
  | k + 1 => by
    obtain ⟨ih0, ih1, ih2⟩ := laws_FnExactInverseCoordinates.mono_l k
    refine ⟨?_, ?_, ?_⟩
    · intro y0 y1 y2 y3 y4 y5 y6 y7 y8
      unfold laws_FnExactInverseCoordinates.j0
      repeat' first
      | (with_reducible exact ih0 _ _ _ _ _ _ _ _ _)
      | (with_reducible exact ih1 _ _ _ _ _ _ _)
      | (with_reducible exact ih2 _ _ _)
      | (with_reducible exact impl_InverseCoordinates.mono _ _ _ _)
      | (with_reducible exact laws_eqTermS.mono _ _ _)
      | (with_reducible exact laws_heldTermS.mono _ _ _)
      | (with_reducible exact laws_markTermS.mono _ _ _)
      | (with_reducible exact laws_szTermS.mono _ _ _)
      | (with_reducible exact laws_toTermS.mono _ _)
      | (with_reducible exact spec_InverseCoordinates.mono _ _ _ _)
      | (with_reducible exact LeO.refl _)
      | (with_reducible exact LeO.none _)
      | (with_reducible refine LeO.ite ?_ ?_)
      | (with_reducible refine LeO.bind ?_ (fun _ => ?_))
      | exact ih0 _ _ _ _ _ _ _ _ _
      | exact ih1 _ _ _ _ _ _ _
      | exact ih2 _ _ _
      | exact impl_InverseCoordinates.mono _ _ _ _
      | exact laws_eqTermS.mono _ _ _
      | exact laws_heldTermS.mono _ _ _
      | exact laws_markTermS.mono _ _ _
      | exact laws_szTermS.mono _ _ _
      | exact laws_toTermS.mono _ _
      | exact spec_InverseCoordinates.mono _ _ _ _
      | exact LeO.none _
      | refine LeO.ite ?_ ?_
      | refine LeO.bind ?_ (fun _ => ?_)
    · intro y0 y1 y2 y3 y4 y5 y6
      unfold laws_FnExactInverseCoordinates.j1
      repeat' first
      | (with_reducible exact ih0 _ _ _ _ _ _ _ _ _)
      | (with_reducible exact ih1 _ _ _ _ _ _ _)
      | (with_reducible exact ih2 _ _ _)
      | (with_reducible exact impl_InverseCoordinates.mono _ _ _ _)
      | (with_reducible exact laws_eqTermS.mono _ _ _)
      | (with_reducible exact laws_heldTermS.mono _ _ _)
      | (with_reducible exact laws_markTermS.mono _ _ _)
      | (with_reducible exact laws_szTermS.mono _ _ _)
      | (with_reducible exact laws_toTermS.mono _ _)
      | (with_reducible exact spec_InverseCoordinates.mono _ _ _ _)
      | (with_reducible exact LeO.refl _)
      | (with_reducible exact LeO.none _)
      | (with_reducible refine LeO.ite ?_ ?_)
      | (with_reducible refine LeO.bind ?_ (fun _ => ?_))
      | exact ih0 _ _ _ _ _ _ _ _ _
      | exact ih1 _ _ _ _ _ _ _
      | exact ih2 _ _ _
      | exact impl_InverseCoordinates.mono _ _ _ _
      | exact laws_eqTermS.mono _ _ _
      | exact laws_heldTermS.mono _ _ _
      | exact laws_markTermS.mono _ _ _
      | exact laws_szTermS.mono _ _ _
      | exact laws_toTermS.mono _ _
      | exact spec_InverseCoordinates.mono _ _ _ _
      | exact LeO.none _
      | refine LeO.ite ?_ ?_
      | refine LeO.bind ?_ (fun _ => ?_)
    · intro y0 y1 y2
      unfold laws_FnExactInverseCoordinates.j2
      repeat' first
      | (with_reducible exact ih0 _ _ _ _ _ _ _ _ _)
      | (with_reducible exact ih1 _ _ _ _ _ _ _)
      | (with_reducible exact ih2 _ _ _)
      | (with_reducible exact impl_InverseCoordinates.mono _ _ _ _)
      | (with_reducible exact laws_eqTermS.mono _ _ _)
      | (with_reducible exact laws_heldTermS.mono _ _ _)
      | (with_reducible exact laws_markTermS.mono _ _ _)
      | (with_reducible exact laws_szTermS.mono _ _ _)
      | (with_reducible exact laws_toTermS.mono _ _)
      | (with_reducible exact spec_InverseCoordinates.mono _ _ _ _)
      | (with_reducible exact LeO.refl _)
      | (with_reducible exact LeO.none _)
      | (with_reducible refine LeO.ite ?_ ?_)
      | (with_reducible refine LeO.bind ?_ (fun _ => ?_))
      | exact ih0 _ _ _ _ _ _ _ _ _
      | exact ih1 _ _ _ _ _ _ _
      | exact ih2 _ _ _
      | exact impl_InverseCoordinates.mono _ _ _ _
      | exact laws_eqTermS.mono _ _ _
      | exact laws_heldTermS.mono _ _ _
      | exact laws_markTermS.mono _ _ _
      | exact laws_szTermS.mono _ _ _
      | exact laws_toTermS.mono _ _
      | exact spec_InverseCoordinates.mono _ _ _ _
      | exact LeO.none _
      | refine LeO.ite ?_ ?_
      | refine LeO.bind ?_ (fun _ => ?_)
theorem laws_FnExactInverseCoordinates.mono : ∀ a0 a1 a2 k, LeO (laws_FnExactInverseCoordinates.f k a0 a1 a2) (laws_FnExactInverseCoordinates.f (k + 1) a0 a1 a2) := by
  intro a0 a1 a2 k
  obtain ⟨ih0, ih1, ih2⟩ := laws_FnExactInverseCoordinates.mono_l k
  unfold laws_FnExactInverseCoordinates.f
  repeat' first
      | (with_reducible exact ih0 _ _ _ _ _ _ _ _ _)
      | (with_reducible exact ih1 _ _ _ _ _ _ _)
      | (with_reducible exact ih2 _ _ _)
      | (with_reducible exact impl_InverseCoordinates.mono _ _ _ _)
      | (with_reducible exact laws_eqTermS.mono _ _ _)
      | (with_reducible exact laws_heldTermS.mono _ _ _)
      | (with_reducible exact laws_markTermS.mono _ _ _)
      | (with_reducible exact laws_szTermS.mono _ _ _)
      | (with_reducible exact laws_toTermS.mono _ _)
      | (with_reducible exact spec_InverseCoordinates.mono _ _ _ _)
      | (with_reducible exact LeO.refl _)
      | (with_reducible exact LeO.none _)
      | (with_reducible refine LeO.ite ?_ ?_)
      | (with_reducible refine LeO.bind ?_ (fun _ => ?_))
      | exact ih0 _ _ _ _ _ _ _ _ _
      | exact ih1 _ _ _ _ _ _ _
      | exact ih2 _ _ _
      | exact impl_InverseCoordinates.mono _ _ _ _
      | exact laws_eqTermS.mono _ _ _
      | exact laws_heldTermS.mono _ _ _
      | exact laws_markTermS.mono _ _ _
      | exact laws_szTermS.mono _ _ _
      | exact laws_toTermS.mono _ _
      | exact spec_InverseCoordinates.mono _ _ _ _
      | exact LeO.none _
      | refine LeO.ite ?_ ?_
      | refine LeO.bind ?_ (fun _ => ?_)
set_option maxHeartbeats 8000000 in
set_option maxRecDepth 100000 in
theorem laws_FnExactInverseCoordinates.calls (k : Nat) (a0 : Int) (a1 : Int) (A2 : Option Addr) (c2 : Nat) (l2 : List (S75)) (r : Bool) (w : World) (hr2 : Kd.C k75 w A2 l2.length l2) (hc2 : l2.length ≤ c2) (h : laws_FnExactInverseCoordinates.f k a0 a1 l2 = some r) :
    Calls Try.prog 3 #[.int .i64 a0, .int .i64 a1, .slice A2 l2.length c2] w fun e w' => e = .returned (.bool r) ∧ Below w.heap.size w w' := by
  have HR2 := Aside0.mk hr2
  have HC2 := Aside0.mk hc2
  clear hr2 hc2
  have HB := Aside0.mk (Below.refl w.heap.size w)
  have H : ((laws_szTermS.f k l2 1048576).bind fun t177 => (if t177 < 0 then (some true) else ((laws_toTermS.f k l2).bind fun t178 => ((spec_InverseCoordinates.f k a0 a1 t178).bind fun bt181 => ((laws_toTermS.f k l2).bind fun t185 => ((impl_InverseCoordinates.f k a0 a1 t185).bind fun bt188 => ((laws_eqTermS.f k bt188.1 bt181.1).bind fun t192 => (if t192 = true then (laws_FnExactInverseCoordinates.j0 k a0 a1 l2 bt181.1 bt181.2 t185 bt188.1 bt188.2 (bt188.2 != bt181.2)) else (laws_FnExactInverseCoordinates.j0 k a0 a1 l2 bt181.1 bt181.2 t185 bt188.1 bt188.2 true))))))))) = some r := h
  clear h
  replace H := Option.bind_eq_some_iff.mp H
  obtain ⟨t177, A40, H⟩ := H
  replace H : (if t177 < 0 then (some true) else ((laws_toTermS.f k l2).bind fun t178 => ((spec_InverseCoordinates.f k a0 a1 t178).bind fun bt181 => ((laws_toTermS.f k l2).bind fun t185 => ((impl_InverseCoordinates.f k a0 a1 t185).bind fun bt188 => ((laws_eqTermS.f k bt188.1 bt181.1).bind fun t192 => (if t192 = true then (laws_FnExactInverseCoordinates.j0 k a0 a1 l2 bt181.1 bt181.2 t185 bt188.1 bt188.2 (bt188.2 != bt181.2)) else (laws_FnExactInverseCoordinates.j0 k a0 a1 l2 bt181.1 bt181.2 t185 bt188.1 bt188.2 true)))))))) = some r := H
  have A4 := Aside0.mk A40
  clear A40
  by_cases c5 : t177 < 0
  · rw [if_pos c5] at H
    have c5b0 : decide (t177 < 0) = true := decide_eq_true c5
    clear c5
    obtain rfl := Option.some.inj H
    go_enter Try.func3, Try.ntmps3
    go_wp2_with (first | ((with_reducible refine gate_callee (f := 21) rfl ?_); refine goesL_ (some 20) rfl rfl Try.func21 (by kernel_rfl) rfl #[.slice A2 l2.length c2, .int .i64 1048576] rfl (by (try simp only [List.map_toArray, List.map_cons, List.map_nil]); first | done | rfl | (simp only [List.length_drop, List.length_take]; rfl)) ?_; (with_reducible refine (laws_szTermS.calls k _ _ l2 1048576 t177 _ ?side1 ?side2 A4.out).mono ?_); (case side1 => repeat (first | exact HR2.out | (with_reducible refine Kd.C_alloc ?_ _) | (with_reducible refine Kd.C_drewN ?_ _) | (with_reducible refine Kd.C_drew ?_))); (case side2 => exact HC2.out); rintro e w6 ⟨rfl, hb⟩; refine ⟨_, rfl, ?_⟩; have n0_ := Aside0.mk (below_step (by repeat (first | (with_reducible first | exact HB.out | apply below_alloc | apply pw_below_drewN | apply below_drew1) | exact HB.out)) hb); clear HB; have HB := n0_; clear n0_; (try clear hb); (try clear hb2); (try clear hk); (try clear hi)))
    go_ret
    exact ⟨by first | rfl | (simp [errW_none, errW_some] <;> rfl) | (simp [*, errW_none, errW_some] <;> rfl), by repeat (first | (with_reducible first | exact HB.out | apply below_alloc | apply pw_below_drewN | apply below_drew1) | exact HB.out)⟩
  · rw [if_neg c5] at H
    have c5b0 : decide (t177 < 0) = false := decide_eq_false c5
    clear c5
    replace H := Option.bind_eq_some_iff.mp H
    obtain ⟨t178, A70, H⟩ := H
    replace H : ((spec_InverseCoordinates.f k a0 a1 t178).bind fun bt181 => ((laws_toTermS.f k l2).bind fun t185 => ((impl_InverseCoordinates.f k a0 a1 t185).bind fun bt188 => ((laws_eqTermS.f k bt188.1 bt181.1).bind fun t192 => (if t192 = true then (laws_FnExactInverseCoordinates.j0 k a0 a1 l2 bt181.1 bt181.2 t185 bt188.1 bt188.2 (bt188.2 != bt181.2)) else (laws_FnExactInverseCoordinates.j0 k a0 a1 l2 bt181.1 bt181.2 t185 bt188.1 bt188.2 true)))))) = some r := H
    have A7 := Aside0.mk A70
    clear A70
    replace H := Option.bind_eq_some_iff.mp H
    obtain ⟨⟨t181, t182⟩, A80, H⟩ := H
    replace H : ((laws_toTermS.f k l2).bind fun t185 => ((impl_InverseCoordinates.f k a0 a1 t185).bind fun bt188 => ((laws_eqTermS.f k bt188.1 t181).bind fun t192 => (if t192 = true then (laws_FnExactInverseCoordinates.j0 k a0 a1 l2 t181 t182 t185 bt188.1 bt188.2 (bt188.2 != t182)) else (laws_FnExactInverseCoordinates.j0 k a0 a1 l2 t181 t182 t185 bt188.1 bt188.2 true))))) = some r := H
    have A8 := Aside0.mk A80
    clear A80
    replace H := Option.bind_eq_some_iff.mp H
    obtain ⟨t185, A90, H⟩ := H
    replace H : ((impl_InverseCoordinates.f k a0 a1 t185).bind fun bt188 => ((laws_eqTermS.f k bt188.1 t181).bind fun t192 => (if t192 = true then (laws_FnExactInverseCoordinates.j0 k a0 a1 l2 t181 t182 t185 bt188.1 bt188.2 (bt188.2 != t182)) else (laws_FnExactInverseCoordinates.j0 k a0 a1 l2 t181 t182 t185 bt188.1 bt188.2 true)))) = some r := H
    have A9 := Aside0.mk A90
    clear A90
    replace H := Option.bind_eq_some_iff.mp H
    obtain ⟨⟨t188, t189⟩, A100, H⟩ := H
    replace H : ((laws_eqTermS.f k t188 t181).bind fun t192 => (if t192 = true then (laws_FnExactInverseCoordinates.j0 k a0 a1 l2 t181 t182 t185 t188 t189 (t189 != t182)) else (laws_FnExactInverseCoordinates.j0 k a0 a1 l2 t181 t182 t185 t188 t189 true))) = some r := H
    have A10 := Aside0.mk A100
    clear A100
    have HC11 := Aside0.mk H
    clear H
    go_enter Try.func3, Try.ntmps3
    go_upto_region 8 with (first | ((with_reducible refine gate_callee (f := 21) rfl ?_); refine goesL_ (some 20) rfl rfl Try.func21 (by kernel_rfl) rfl #[.slice A2 l2.length c2, .int .i64 1048576] rfl (by (try simp only [List.map_toArray, List.map_cons, List.map_nil]); first | done | rfl | (simp only [List.length_drop, List.length_take]; rfl)) ?_; (with_reducible refine (laws_szTermS.calls k _ _ l2 1048576 t177 _ ?side1 ?side2 A4.out).mono ?_); (case side1 => repeat (first | exact HR2.out | (with_reducible refine Kd.C_alloc ?_ _) | (with_reducible refine Kd.C_drewN ?_ _) | (with_reducible refine Kd.C_drew ?_))); (case side2 => exact HC2.out); rintro e w12 ⟨rfl, hb⟩; refine ⟨_, rfl, ?_⟩; have n0_ := Aside0.mk (below_step (by repeat (first | (with_reducible first | exact HB.out | apply below_alloc | apply pw_below_drewN | apply below_drew1) | exact HB.out)) hb); clear HB; have HB := n0_; clear n0_; (try clear hb); (try clear hb2); (try clear hk); (try clear hi)) | ((with_reducible refine gate_callee (f := 23) rfl ?_); refine goesL_ (some 27) rfl rfl Try.func23 (by kernel_rfl) rfl #[.slice A2 l2.length c2] rfl (by (try simp only [List.map_toArray, List.map_cons, List.map_nil]); first | done | rfl | (simp only [List.length_drop, List.length_take]; rfl)) ?_; (with_reducible refine (laws_toTermS.calls k _ _ l2 t178 _ ?side1 ?side2 A7.out).mono ?_); (case side1 => repeat (first | exact (Kd.C_below HR2.out HB.out) | (with_reducible refine Kd.C_alloc ?_ _) | (with_reducible refine Kd.C_drewN ?_ _) | (with_reducible refine Kd.C_drew ?_))); (case side2 => exact HC2.out); rintro e w13 ⟨v179, rfl, ho0, hb⟩; refine ⟨_, rfl, ?_⟩; have n0_ := Aside0.mk (Kd.R_lower ho0 (below_size (by repeat (first | (with_reducible first | exact HB.out | apply below_alloc | apply pw_below_drewN | apply below_drew1) | exact HB.out)))); have n1_ := Aside0.mk (below_step (by repeat (first | (with_reducible first | exact HB.out | apply below_alloc | apply pw_below_drewN | apply below_drew1) | exact HB.out)) hb); clear HB; have HO180 := n0_; have HB := n1_; clear n0_ n1_; (try clear hb); (try clear hb2); (try clear hk); (try clear hi); (try clear ho0); obtain ⟨Ao14, co14, eo14⟩ := Kd.R_slice HO180.out; subst eo14) | ((with_reducible refine gate_callee (f := 22) rfl ?_); refine goesL_ (some 28) rfl rfl Try.func22 (by kernel_rfl) rfl #[.int .i64 a0, .int .i64 a1, .slice Ao14 t178.length co14] rfl (by (try simp only [List.map_toArray, List.map_cons, List.map_nil]); first | done | rfl | (simp only [List.length_drop, List.length_take]; rfl)) ?_; (with_reducible refine (spec_InverseCoordinates.calls k a0 a1 _ _ t178 t181 t182 _ ?side1 ?side2 A8.out).mono ?_); (case side1 => repeat (first | exact (Kd.R_reads' HO180.out).2.2 | (with_reducible refine Kd.C_alloc ?_ _) | (with_reducible refine Kd.C_drewN ?_ _) | (with_reducible refine Kd.C_drew ?_))); (case side2 => exact (Kd.R_reads' HO180.out).2.1); rintro e w15 ⟨v183, rfl, ho0, hb⟩; refine ⟨_, rfl, ?_⟩; have n0_ := Aside0.mk (Kd.R_elder' (by (with_reducible repeat (first | apply Kd.R_alloc | apply Kd.R_drewN | apply Kd.R_drew)); exact HO180.out) (Kd.R_base ho0) hb); have n1_ := Aside0.mk (Kd.R_lower (Kd.R_new' ho0 (Kd.R_lt (by (with_reducible repeat (first | apply Kd.R_alloc | apply Kd.R_drewN | apply Kd.R_drew)); exact HO180.out))) (below_size (by repeat (first | (with_reducible first | exact HB.out | apply below_alloc | apply pw_below_drewN | apply below_drew1) | exact HB.out)))); have n2_ := Aside0.mk (below_step (by repeat (first | (with_reducible first | exact HB.out | apply below_alloc | apply pw_below_drewN | apply below_drew1) | exact HB.out)) hb); clear HO180; clear HB; have HO180 := n0_; have HO184 := n1_; have HB := n2_; clear n0_ n1_ n2_; (try clear hb); (try clear hb2); (try clear hk); (try clear hi); (try clear ho0)) | ((with_reducible refine gate_callee (f := 23) rfl ?_); refine goesL_ (some 32) rfl rfl Try.func23 (by kernel_rfl) rfl #[.slice A2 l2.length c2] rfl (by (try simp only [List.map_toArray, List.map_cons, List.map_nil]); first | done | rfl | (simp only [List.length_drop, List.length_take]; rfl)) ?_; (with_reducible refine (laws_toTermS.calls k _ _ l2 t185 _ ?side1 ?side2 A9.out).mono ?_); (case side1 => repeat (first | exact (Kd.C_below HR2.out HB.out) | (with_reducible refine Kd.C_alloc ?_ _) | (with_reducible refine Kd.C_drewN ?_ _) | (with_reducible refine Kd.C_drew ?_))); (case side2 => exact HC2.out); rintro e w16 ⟨v186, rfl, ho0, hb⟩; refine ⟨_, rfl, ?_⟩; have n0_ := Aside0.mk (Kd.R_elder' (by (with_reducible repeat (first | apply Kd.R_alloc | apply Kd.R_drewN | apply Kd.R_drew)); exact HO180.out) (Kd.R_base ho0) hb); have n1_ := Aside0.mk (Kd.R_elder' (by (with_reducible repeat (first | apply Kd.R_alloc | apply Kd.R_drewN | apply Kd.R_drew)); exact HO184.out) (Kd.R_base ho0) hb); have n2_ := Aside0.mk (Kd.R_lower (Kd.R_new' (Kd.R_new' ho0 (Kd.R_lt (by (with_reducible repeat (first | apply Kd.R_alloc | apply Kd.R_drewN | apply Kd.R_drew)); exact HO180.out))) (Kd.R_lt (by (with_reducible repeat (first | apply Kd.R_alloc | apply Kd.R_drewN | apply Kd.R_drew)); exact HO184.out))) (below_size (by repeat (first | (with_reducible first | exact HB.out | apply below_alloc | apply pw_below_drewN | apply below_drew1) | exact HB.out)))); have n3_ := Aside0.mk (below_step (by repeat (first | (with_reducible first | exact HB.out | apply below_alloc | apply pw_below_drewN | apply below_drew1) | exact HB.out)) hb); clear HO180; clear HO184; clear HB; have HO180 := n0_; have HO184 := n1_; have HO187 := n2_; have HB := n3_; clear n0_ n1_ n2_ n3_; (try clear hb); (try clear hb2); (try clear hk); (try clear hi); (try clear ho0); obtain ⟨Ao17, co17, eo17⟩ := Kd.R_slice HO187.out; subst eo17) | ((with_reducible refine gate_callee (f := 24) rfl ?_); refine goesL_ (some 37) rfl rfl Try.func24 (by kernel_rfl) rfl #[.int .i64 a0, .int .i64 a1, .slice Ao17 t185.length co17] rfl (by (try simp only [List.map_toArray, List.map_cons, List.map_nil]); first | done | rfl | (simp only [List.length_drop, List.length_take]; rfl)) ?_; (with_reducible refine (impl_InverseCoordinates.calls k a0 a1 _ _ t185 t188 t189 _ ?side1 ?side2 A10.out).mono ?_); (case side1 => repeat (first | exact (Kd.R_reads' HO187.out).2.2 | (with_reducible refine Kd.C_alloc ?_ _) | (with_reducible refine Kd.C_drewN ?_ _) | (with_reducible refine Kd.C_drew ?_))); (case side2 => exact (Kd.R_reads' HO187.out).2.1); rintro e w18 ⟨v190, rfl, ho0, hb⟩; refine ⟨_, rfl, ?_⟩; have n0_ := Aside0.mk (Kd.R_elder' (by (with_reducible repeat (first | apply Kd.R_alloc | apply Kd.R_drewN | apply Kd.R_drew)); exact HO180.out) (Kd.R_base ho0) hb); have n1_ := Aside0.mk (Kd.R_elder' (by (with_reducible repeat (first | apply Kd.R_alloc | apply Kd.R_drewN | apply Kd.R_drew)); exact HO184.out) (Kd.R_base ho0) hb); have n2_ := Aside0.mk (Kd.R_elder' (by (with_reducible repeat (first | apply Kd.R_alloc | apply Kd.R_drewN | apply Kd.R_drew)); exact HO187.out) (Kd.R_base ho0) hb); have n3_ := Aside0.mk (Kd.R_lower (Kd.R_new' (Kd.R_new' (Kd.R_new' ho0 (Kd.R_lt (by (with_reducible repeat (first | apply Kd.R_alloc | apply Kd.R_drewN | apply Kd.R_drew)); exact HO180.out))) (Kd.R_lt (by (with_reducible repeat (first | apply Kd.R_alloc | apply Kd.R_drewN | apply Kd.R_drew)); exact HO184.out))) (Kd.R_lt (by (with_reducible repeat (first | apply Kd.R_alloc | apply Kd.R_drewN | apply Kd.R_drew)); exact HO187.out))) (below_size (by repeat (first | (with_reducible first | exact HB.out | apply below_alloc | apply pw_below_drewN | apply below_drew1) | exact HB.out)))); have n4_ := Aside0.mk (below_step (by repeat (first | (with_reducible first | exact HB.out | apply below_alloc | apply pw_below_drewN | apply below_drew1) | exact HB.out)) hb); clear HO180; clear HO184; clear HO187; clear HB; have HO180 := n0_; have HO184 := n1_; have HO187 := n2_; have HO191 := n3_; have HB := n4_; clear n0_ n1_ n2_ n3_ n4_; (try clear hb); (try clear hb2); (try clear hk); (try clear hi); (try clear ho0)))
    (try simp only [Act.put, List.setIfInBounds_toArray, List.set_cons_zero, List.set_cons_succ])
    go_cut [48] (fun v48 wc => ∃ (kq : Nat) (x48_10 : Bool), v48 = .bool x48_10 ∧ Aside0 (laws_FnExactInverseCoordinates.j0 kq a0 a1 l2 t181 t182 t185 t188 t189 x48_10 = some r) ∧ Aside0 (kq ≤ k) ∧ Aside0 (Kd.R k79 79 wc w.heap.size (fun k_ => some k_ ≠ ((.slice Ao17 t185.length co17) : Value).ownBlock ∧ some k_ ≠ (v190 : Value).ownBlock) v183 t181) ∧ Aside0 (Kd.R k79 79 wc w.heap.size (fun k_ => some k_ ≠ (v183 : Value).ownBlock ∧ some k_ ≠ (v190 : Value).ownBlock) (.slice Ao17 t185.length co17) t185) ∧ Aside0 (Kd.R k79 79 wc w.heap.size (fun k_ => some k_ ≠ (v183 : Value).ownBlock ∧ some k_ ≠ ((.slice Ao17 t185.length co17) : Value).ownBlock) v190 t188) ∧ Aside0 (Below w.heap.size w wc))
    case first =>
      have H := HC11.out
      clear HC11
      replace H := Option.bind_eq_some_iff.mp H
      obtain ⟨t192, A190, H⟩ := H
      replace H : (if t192 = true then (laws_FnExactInverseCoordinates.j0 k a0 a1 l2 t181 t182 t185 t188 t189 (t189 != t182)) else (laws_FnExactInverseCoordinates.j0 k a0 a1 l2 t181 t182 t185 t188 t189 true)) = some r := H
      have A19 := Aside0.mk A190
      clear A190
      by_cases c20 : t192 = true
      · subst c20
        have H1 : (laws_FnExactInverseCoordinates.j0 k a0 a1 l2 t181 t182 t185 t188 t189 (t189 != t182)) = some r := by rw [if_pos rfl] at H; exact H
        clear H
        have H := H1
        clear H1
        have H' := Aside0.mk H
        clear H
        obtain ⟨Ao21, co21, eo21⟩ := Kd.R_slice HO191.out
        subst eo21
        obtain ⟨Ao22, co22, eo22⟩ := Kd.R_slice HO184.out
        subst eo22
        go_wp2_with (first | ((with_reducible refine gate_callee (f := 25) rfl ?_); refine goesL_ (some 42) rfl rfl Try.func25 (by kernel_rfl) rfl #[.slice Ao21 t188.length co21, .slice Ao22 t181.length co22] rfl (by (try simp only [List.map_toArray, List.map_cons, List.map_nil]); first | done | rfl | (simp only [List.length_drop, List.length_take]; rfl)) ?_; (with_reducible refine (laws_eqTermS.calls k _ _ t188 _ _ t181 true _ ?side1 ?side2 ?side3 ?side4 A19.out).mono ?_); (case side1 => repeat (first | exact (Kd.R_reads' HO191.out).2.2 | (with_reducible refine Kd.C_alloc ?_ _) | (with_reducible refine Kd.C_drewN ?_ _) | (with_reducible refine Kd.C_drew ?_))); (case side2 => exact (Kd.R_reads' HO191.out).2.1); (case side3 => repeat (first | exact (Kd.R_reads' HO184.out).2.2 | (with_reducible refine Kd.C_alloc ?_ _) | (with_reducible refine Kd.C_drewN ?_ _) | (with_reducible refine Kd.C_drew ?_))); (case side4 => exact (Kd.R_reads' HO184.out).2.1); rintro e w23 ⟨rfl, hb⟩; refine ⟨_, rfl, ?_⟩; have n0_ := Aside0.mk (Kd.R_below (by (with_reducible repeat (first | apply Kd.R_alloc | apply Kd.R_drewN | apply Kd.R_drew)); exact HO180.out) hb); have n1_ := Aside0.mk (Kd.R_below (by (with_reducible repeat (first | apply Kd.R_alloc | apply Kd.R_drewN | apply Kd.R_drew)); exact HO184.out) hb); have n2_ := Aside0.mk (Kd.R_below (by (with_reducible repeat (first | apply Kd.R_alloc | apply Kd.R_drewN | apply Kd.R_drew)); exact HO187.out) hb); have n3_ := Aside0.mk (Kd.R_below (by (with_reducible repeat (first | apply Kd.R_alloc | apply Kd.R_drewN | apply Kd.R_drew)); exact HO191.out) hb); have n4_ := Aside0.mk (below_step (by repeat (first | (with_reducible first | exact HB.out | apply below_alloc | apply pw_below_drewN | apply below_drew1) | exact HB.out)) hb); clear HO180; clear HO184; clear HO187; clear HO191; clear HB; have HO180 := n0_; have HO184 := n1_; have HO187 := n2_; have HO191 := n3_; have HB := n4_; clear n0_ n1_ n2_ n3_ n4_; (try clear hb); (try clear hb2); (try clear hk); (try clear hi)))
        go_meet
        case rel => exact ⟨_, ((t189 != t182)), (by first | rfl | (simp; done) | (simp [*]; done)), H', ⟨by first | omega | exact Nat.le_refl _⟩, ⟨by (with_reducible repeat (first | apply Kd.R_alloc | apply Kd.R_drewN | apply Kd.R_drew)); exact Kd.R_mono HO184.out (fun _ hk => ⟨hk.1.2, hk.2⟩)⟩, ⟨by (with_reducible repeat (first | apply Kd.R_alloc | apply Kd.R_drewN | apply Kd.R_drew)); exact Kd.R_mono HO187.out (fun _ hk => ⟨hk.1.2, hk.2⟩)⟩, ⟨by (with_reducible repeat (first | apply Kd.R_alloc | apply Kd.R_drewN | apply Kd.R_drew)); exact Kd.R_mono HO191.out (fun _ hk => ⟨hk.1.2, hk.2⟩)⟩, ⟨by repeat (first | (with_reducible first | exact HB.out | apply below_alloc | apply pw_below_drewN | apply below_drew1) | exact HB.out)⟩⟩
      · replace c20 := Bool.eq_false_iff.mpr c20
        subst c20
        have H1 : (laws_FnExactInverseCoordinates.j0 k a0 a1 l2 t181 t182 t185 t188 t189 true) = some r := by rw [if_neg (show ¬ (false = true) by decide)] at H; exact H
        clear H
        have H := H1
        clear H1
        have H' := Aside0.mk H
        clear H
        obtain ⟨Ao24, co24, eo24⟩ := Kd.R_slice HO191.out
        subst eo24
        obtain ⟨Ao25, co25, eo25⟩ := Kd.R_slice HO184.out
        subst eo25
        go_wp2_with (first | ((with_reducible refine gate_callee (f := 25) rfl ?_); refine goesL_ (some 42) rfl rfl Try.func25 (by kernel_rfl) rfl #[.slice Ao24 t188.length co24, .slice Ao25 t181.length co25] rfl (by (try simp only [List.map_toArray, List.map_cons, List.map_nil]); first | done | rfl | (simp only [List.length_drop, List.length_take]; rfl)) ?_; (with_reducible refine (laws_eqTermS.calls k _ _ t188 _ _ t181 false _ ?side1 ?side2 ?side3 ?side4 A19.out).mono ?_); (case side1 => repeat (first | exact (Kd.R_reads' HO191.out).2.2 | (with_reducible refine Kd.C_alloc ?_ _) | (with_reducible refine Kd.C_drewN ?_ _) | (with_reducible refine Kd.C_drew ?_))); (case side2 => exact (Kd.R_reads' HO191.out).2.1); (case side3 => repeat (first | exact (Kd.R_reads' HO184.out).2.2 | (with_reducible refine Kd.C_alloc ?_ _) | (with_reducible refine Kd.C_drewN ?_ _) | (with_reducible refine Kd.C_drew ?_))); (case side4 => exact (Kd.R_reads' HO184.out).2.1); rintro e w26 ⟨rfl, hb⟩; refine ⟨_, rfl, ?_⟩; have n0_ := Aside0.mk (Kd.R_below (by (with_reducible repeat (first | apply Kd.R_alloc | apply Kd.R_drewN | apply Kd.R_drew)); exact HO180.out) hb); have n1_ := Aside0.mk (Kd.R_below (by (with_reducible repeat (first | apply Kd.R_alloc | apply Kd.R_drewN | apply Kd.R_drew)); exact HO184.out) hb); have n2_ := Aside0.mk (Kd.R_below (by (with_reducible repeat (first | apply Kd.R_alloc | apply Kd.R_drewN | apply Kd.R_drew)); exact HO187.out) hb); have n3_ := Aside0.mk (Kd.R_below (by (with_reducible repeat (first | apply Kd.R_alloc | apply Kd.R_drewN | apply Kd.R_drew)); exact HO191.out) hb); have n4_ := Aside0.mk (below_step (by repeat (first | (with_reducible first | exact HB.out | apply below_alloc | apply pw_below_drewN | apply below_drew1) | exact HB.out)) hb); clear HO180; clear HO184; clear HO187; clear HO191; clear HB; have HO180 := n0_; have HO184 := n1_; have HO187 := n2_; have HO191 := n3_; have HB := n4_; clear n0_ n1_ n2_ n3_ n4_; (try clear hb); (try clear hb2); (try clear hk); (try clear hi)))
        go_meet
        case rel => exact ⟨_, (true), (by first | rfl | (simp; done) | (simp [*]; done)), H', ⟨by first | omega | exact Nat.le_refl _⟩, ⟨by (with_reducible repeat (first | apply Kd.R_alloc | apply Kd.R_drewN | apply Kd.R_drew)); exact Kd.R_mono HO184.out (fun _ hk => ⟨hk.1.2, hk.2⟩)⟩, ⟨by (with_reducible repeat (first | apply Kd.R_alloc | apply Kd.R_drewN | apply Kd.R_drew)); exact Kd.R_mono HO187.out (fun _ hk => ⟨hk.1.2, hk.2⟩)⟩, ⟨by (with_reducible repeat (first | apply Kd.R_alloc | apply Kd.R_drewN | apply Kd.R_drew)); exact Kd.R_mono HO191.out (fun _ hk => ⟨hk.1.2, hk.2⟩)⟩, ⟨by repeat (first | (with_reducible first | exact HB.out | apply below_alloc | apply pw_below_drewN | apply below_drew1) | exact HB.out)⟩⟩
    case rest =>
      clear HC11
      try clear c2
      try clear p2
      try clear c3
      try clear c5
      try clear c5b0
      try clear c20
      try clear c21
      try clear c22
      try clear c23
      try clear c24
      try clear c25
      obtain ⟨kq, x48_10, rfl, HA, HJ10, HO_8, HO_10, HO_11, HB⟩ := hcut
      cases kq with
      | zero => exact absurd HA.out (by simp [laws_FnExactInverseCoordinates.j0])
      | succ kj10 =>
        have H := HA.out
        clear HA
        simp only [laws_FnExactInverseCoordinates.j0] at H
        by_cases c27 : x48_10 = true
        · subst c27
          have H1 : (some false) = some r := by rw [if_pos rfl] at H; exact H
          clear H
          have H := H1
          clear H1
          obtain rfl := Option.some.inj H
          go_wp2
          go_ret
          exact ⟨by first | rfl | (simp [errW_none, errW_some] <;> rfl) | (simp [*, errW_none, errW_some] <;> rfl), by repeat (first | (with_reducible first | exact HB.out | apply below_alloc | apply pw_below_drewN | apply below_drew1) | exact HB.out)⟩
        · replace c27 := Bool.eq_false_iff.mpr c27
          subst c27
          have H1 : ((laws_toTermS.f kj10 l2).bind fun t193 => ((laws_eqTermS.f kj10 t185 t193).bind fun t196 => (if t196 = true then ((laws_markTermS.f kj10 t185 1).bind fun bt197 => (if bt197.1 < 0 then (laws_FnExactInverseCoordinates.j1 kj10 a0 a1 l2 t181 t182 t188 true) else ((laws_eqTermS.f kj10 t188 t181).bind fun t199 => (if t199 = true then (laws_FnExactInverseCoordinates.j1 kj10 a0 a1 l2 t181 t182 t188 (t189 != t182)) else (laws_FnExactInverseCoordinates.j1 kj10 a0 a1 l2 t181 t182 t188 true))))) else (some false)))) = some r := by rw [if_neg (show ¬ (false = true) by decide)] at H; exact H
          clear H
          have H := H1
          clear H1
          replace H := Option.bind_eq_some_iff.mp H
          obtain ⟨t193, A280, H⟩ := H
          replace H : ((laws_eqTermS.f kj10 t185 t193).bind fun t196 => (if t196 = true then ((laws_markTermS.f kj10 t185 1).bind fun bt197 => (if bt197.1 < 0 then (laws_FnExactInverseCoordinates.j1 kj10 a0 a1 l2 t181 t182 t188 true) else ((laws_eqTermS.f kj10 t188 t181).bind fun t199 => (if t199 = true then (laws_FnExactInverseCoordinates.j1 kj10 a0 a1 l2 t181 t182 t188 (t189 != t182)) else (laws_FnExactInverseCoordinates.j1 kj10 a0 a1 l2 t181 t182 t188 true))))) else (some false))) = some r := H
          have A28 := Aside0.mk A280
          clear A280
          replace H := Option.bind_eq_some_iff.mp H
          obtain ⟨t196, A290, H⟩ := H
          replace H : (if t196 = true then ((laws_markTermS.f kj10 t185 1).bind fun bt197 => (if bt197.1 < 0 then (laws_FnExactInverseCoordinates.j1 kj10 a0 a1 l2 t181 t182 t188 true) else ((laws_eqTermS.f kj10 t188 t181).bind fun t199 => (if t199 = true then (laws_FnExactInverseCoordinates.j1 kj10 a0 a1 l2 t181 t182 t188 (t189 != t182)) else (laws_FnExactInverseCoordinates.j1 kj10 a0 a1 l2 t181 t182 t188 true))))) else (some false)) = some r := H
          have A29 := Aside0.mk A290
          clear A290
          by_cases c30 : t196 = true
          · subst c30
            have H1 : ((laws_markTermS.f kj10 t185 1).bind fun bt197 => (if bt197.1 < 0 then (laws_FnExactInverseCoordinates.j1 kj10 a0 a1 l2 t181 t182 t188 true) else ((laws_eqTermS.f kj10 t188 t181).bind fun t199 => (if t199 = true then (laws_FnExactInverseCoordinates.j1 kj10 a0 a1 l2 t181 t182 t188 (t189 != t182)) else (laws_FnExactInverseCoordinates.j1 kj10 a0 a1 l2 t181 t182 t188 true))))) = some r := by rw [if_pos rfl] at H; exact H
            clear H
            have H := H1
            clear H1
            replace H := Option.bind_eq_some_iff.mp H
            obtain ⟨⟨t197, t198⟩, A310, H⟩ := H
            replace H : (if t197 < 0 then (laws_FnExactInverseCoordinates.j1 kj10 a0 a1 l2 t181 t182 t188 true) else ((laws_eqTermS.f kj10 t188 t181).bind fun t199 => (if t199 = true then (laws_FnExactInverseCoordinates.j1 kj10 a0 a1 l2 t181 t182 t188 (t189 != t182)) else (laws_FnExactInverseCoordinates.j1 kj10 a0 a1 l2 t181 t182 t188 true)))) = some r := H
            have A31 := Aside0.mk A310
            clear A310
            have HC32 := Aside0.mk H
            clear H
            go_upto_region 14 with (first | ((with_reducible refine gate_callee (f := 23) rfl ?_); refine goesL_ (some 51) rfl rfl Try.func23 (by kernel_rfl) rfl #[.slice A2 l2.length c2] rfl (by (try simp only [List.map_toArray, List.map_cons, List.map_nil]); first | done | rfl | (simp only [List.length_drop, List.length_take]; rfl)) ?_; (with_reducible refine (laws_toTermS.calls kj10 _ _ l2 t193 _ ?side1 ?side2 A28.out).mono ?_); (case side1 => repeat (first | exact (Kd.C_below HR2.out HB.out) | (with_reducible refine Kd.C_alloc ?_ _) | (with_reducible refine Kd.C_drewN ?_ _) | (with_reducible refine Kd.C_drew ?_))); (case side2 => exact HC2.out); rintro e w33 ⟨v194, rfl, ho0, hb⟩; refine ⟨_, rfl, ?_⟩; have n0_ := Aside0.mk (Kd.R_elder' (by (with_reducible repeat (first | apply Kd.R_alloc | apply Kd.R_drewN | apply Kd.R_drew)); exact HO_8.out) (Kd.R_base ho0) hb); have n1_ := Aside0.mk (Kd.R_elder' (by (with_reducible repeat (first | apply Kd.R_alloc | apply Kd.R_drewN | apply Kd.R_drew)); exact HO_10.out) (Kd.R_base ho0) hb); have n2_ := Aside0.mk (Kd.R_elder' (by (with_reducible repeat (first | apply Kd.R_alloc | apply Kd.R_drewN | apply Kd.R_drew)); exact HO_11.out) (Kd.R_base ho0) hb); have n3_ := Aside0.mk (Kd.R_lower (Kd.R_new' (Kd.R_new' (Kd.R_new' ho0 (Kd.R_lt (by (with_reducible repeat (first | apply Kd.R_alloc | apply Kd.R_drewN | apply Kd.R_drew)); exact HO_8.out))) (Kd.R_lt (by (with_reducible repeat (first | apply Kd.R_alloc | apply Kd.R_drewN | apply Kd.R_drew)); exact HO_10.out))) (Kd.R_lt (by (with_reducible repeat (first | apply Kd.R_alloc | apply Kd.R_drewN | apply Kd.R_drew)); exact HO_11.out))) (below_size (by repeat (first | (with_reducible first | exact HB.out | apply below_alloc | apply pw_below_drewN | apply below_drew1) | exact HB.out)))); have n4_ := Aside0.mk (below_step (by repeat (first | (with_reducible first | exact HB.out | apply below_alloc | apply pw_below_drewN | apply below_drew1) | exact HB.out)) hb); clear HO_8; clear HO_10; clear HO_11; clear HB; have HO_8 := n0_; have HO_10 := n1_; have HO_11 := n2_; have HO195 := n3_; have HB := n4_; clear n0_ n1_ n2_ n3_ n4_; (try clear hb); (try clear hb2); (try clear hk); (try clear hi); (try clear ho0); obtain ⟨Ao34, co34, eo34⟩ := Kd.R_slice HO195.out; subst eo34) | ((with_reducible refine gate_callee (f := 25) rfl ?_); refine goesL_ (some 52) rfl rfl Try.func25 (by kernel_rfl) rfl #[.slice Ao17 t185.length co17, .slice Ao34 t193.length co34] rfl (by (try simp only [List.map_toArray, List.map_cons, List.map_nil]); first | done | rfl | (simp only [List.length_drop, List.length_take]; rfl)) ?_; (with_reducible refine (laws_eqTermS.calls kj10 _ _ t185 _ _ t193 true _ ?side1 ?side2 ?side3 ?side4 A29.out).mono ?_); (case side1 => repeat (first | exact (Kd.R_reads' HO_10.out).2.2 | (with_reducible refine Kd.C_alloc ?_ _) | (with_reducible refine Kd.C_drewN ?_ _) | (with_reducible refine Kd.C_drew ?_))); (case side2 => exact (Kd.R_reads' HO_10.out).2.1); (case side3 => repeat (first | exact (Kd.R_reads' HO195.out).2.2 | (with_reducible refine Kd.C_alloc ?_ _) | (with_reducible refine Kd.C_drewN ?_ _) | (with_reducible refine Kd.C_drew ?_))); (case side4 => exact (Kd.R_reads' HO195.out).2.1); rintro e w35 ⟨rfl, hb⟩; refine ⟨_, rfl, ?_⟩; have n0_ := Aside0.mk (Kd.R_below (by (with_reducible repeat (first | apply Kd.R_alloc | apply Kd.R_drewN | apply Kd.R_drew)); exact HO_8.out) hb); have n1_ := Aside0.mk (Kd.R_below (by (with_reducible repeat (first | apply Kd.R_alloc | apply Kd.R_drewN | apply Kd.R_drew)); exact HO_10.out) hb); have n2_ := Aside0.mk (Kd.R_below (by (with_reducible repeat (first | apply Kd.R_alloc | apply Kd.R_drewN | apply Kd.R_drew)); exact HO_11.out) hb); have n3_ := Aside0.mk (Kd.R_below (by (with_reducible repeat (first | apply Kd.R_alloc | apply Kd.R_drewN | apply Kd.R_drew)); exact HO195.out) hb); have n4_ := Aside0.mk (below_step (by repeat (first | (with_reducible first | exact HB.out | apply below_alloc | apply pw_below_drewN | apply below_drew1) | exact HB.out)) hb); clear HO_8; clear HO_10; clear HO_11; clear HO195; clear HB; have HO_8 := n0_; have HO_10 := n1_; have HO_11 := n2_; have HO195 := n3_; have HB := n4_; clear n0_ n1_ n2_ n3_ n4_; (try clear hb); (try clear hb2); (try clear hk); (try clear hi)) | ((with_reducible refine gate_callee (f := 26) rfl ?_); refine goesL_ (some 56) rfl rfl Try.func26 (by kernel_rfl) rfl #[.slice Ao17 t185.length co17, .int .i64 1] rfl (by (try simp only [List.map_toArray, List.map_cons, List.map_nil]); first | done | rfl | (simp only [List.length_drop, List.length_take]; rfl)) ?_; (with_reducible refine (laws_markTermS.calls kj10 (fun k_ => some k_ = (.slice Ao17 t185.length co17 : Value).ownBlock) (.slice Ao17 t185.length co17) t185 1 t197 t198 w _ ?side1 ?side2 A31.out).mono ?_); (case side1 => repeat (first | (with_reducible first | exact HB.out | apply below_alloc | apply pw_below_drewN | apply below_drew1) | exact HB.out)); (case side2 => exact Kd.R_tight rfl HO_10.out); rintro e w36 ⟨rfl, hy0, hb, hkp⟩; refine ⟨_, rfl, ?_⟩; have n0_ := Aside0.mk (Kd.R_mono (ok' := fun k_ => some k_ ≠ (.slice Ao17 t185.length co17 : Value).ownBlock ∧ some k_ ≠ (v190 : Value).ownBlock ∧ some k_ ≠ (.slice Ao34 t193.length co34 : Value).ownBlock) (Kd.R_keptB (HO_8.out) hkp (fun k_ hk_ hs_ => (hk_.1.1) hs_)) (fun k_ hk_ => ⟨hk_.1.1.1, hk_.1.1.2, hk_.1.2⟩)); have n1_ := Aside0.mk (Kd.R_reok rfl hy0 (fun k_ e_ => HO_10.out.1 k_ e_)); have n2_ := Aside0.mk (Kd.R_mono (ok' := fun k_ => some k_ ≠ (v183 : Value).ownBlock ∧ some k_ ≠ (.slice Ao17 t185.length co17 : Value).ownBlock ∧ some k_ ≠ (.slice Ao34 t193.length co34 : Value).ownBlock) (Kd.R_keptB (HO_11.out) hkp (fun k_ hk_ hs_ => (hk_.1.2) hs_)) (fun k_ hk_ => ⟨hk_.1.1.1, hk_.1.1.2, hk_.1.2⟩)); have n3_ := Aside0.mk (Kd.R_mono (ok' := fun k_ => some k_ ≠ (v183 : Value).ownBlock ∧ some k_ ≠ (.slice Ao17 t185.length co17 : Value).ownBlock ∧ some k_ ≠ (v190 : Value).ownBlock) (Kd.R_keptB (HO195.out) hkp (fun k_ hk_ hs_ => (hk_.1.2) hs_)) (fun k_ hk_ => ⟨hk_.1.1.1.2, hk_.1.1.2, hk_.1.2⟩)); have n4_ := Aside0.mk (hb); clear HO_8; clear HO_10; clear HO_11; clear HO195; clear HB; have HO_8 := n0_; have HO_10 := n1_; have HO_11 := n2_; have HO195 := n3_; have HB := n4_; clear n0_ n1_ n2_ n3_ n4_; (try clear hb); (try clear hkp); (try clear hy0)))
            (try simp only [Act.put, List.setIfInBounds_toArray, List.set_cons_zero, List.set_cons_succ])
            go_cut [69] (fun v69 wc => ∃ (kq : Nat) (x69_31 : Bool), v69 = .bool x69_31 ∧ Aside0 (laws_FnExactInverseCoordinates.j1 kq a0 a1 l2 t181 t182 t188 x69_31 = some r) ∧ Aside0 (kq ≤ kj10) ∧ Aside0 (Kd.R k79 79 wc w.heap.size (fun k_ => some k_ ≠ (v190 : Value).ownBlock) v183 t181) ∧ Aside0 (Kd.R k79 79 wc w.heap.size (fun k_ => some k_ ≠ (v183 : Value).ownBlock) v190 t188) ∧ Aside0 (Below w.heap.size w wc))
            case first =>
              have H := HC32.out
              clear HC32
              by_cases c37 : t197 < 0
              · rw [if_pos c37] at H
                have c37b0 : decide (t197 < 0) = true := decide_eq_true c37
                clear c37
                (first | rw [c37b0] | (simp only [i64_w, i32_w]; rw [c37b0]) | skip)
                have H' := Aside0.mk H
                clear H
                go_wp2
                go_meet
                case rel => exact ⟨_, (true), (by first | rfl | (simp; done) | (simp [*]; done)), H', ⟨by have := HJ10.out; first | omega | exact Nat.le_refl _⟩, ⟨by (with_reducible repeat (first | apply Kd.R_alloc | apply Kd.R_drewN | apply Kd.R_drew)); exact Kd.R_mono HO_8.out (fun _ hk => hk.2.1)⟩, ⟨by (with_reducible repeat (first | apply Kd.R_alloc | apply Kd.R_drewN | apply Kd.R_drew)); exact Kd.R_mono HO_11.out (fun _ hk => hk.1)⟩, ⟨by repeat (first | (with_reducible first | exact HB.out | apply below_alloc | apply pw_below_drewN | apply below_drew1) | exact HB.out)⟩⟩
              · rw [if_neg c37] at H
                have c37b0 : decide (t197 < 0) = false := decide_eq_false c37
                clear c37
                (first | rw [c37b0] | (simp only [i64_w, i32_w]; rw [c37b0]) | skip)
                replace H := Option.bind_eq_some_iff.mp H
                obtain ⟨t199, A380, H⟩ := H
                replace H : (if t199 = true then (laws_FnExactInverseCoordinates.j1 kj10 a0 a1 l2 t181 t182 t188 (t189 != t182)) else (laws_FnExactInverseCoordinates.j1 kj10 a0 a1 l2 t181 t182 t188 true)) = some r := H
                have A38 := Aside0.mk A380
                clear A380
                by_cases c39 : t199 = true
                · subst c39
                  have H1 : (laws_FnExactInverseCoordinates.j1 kj10 a0 a1 l2 t181 t182 t188 (t189 != t182)) = some r := by rw [if_pos rfl] at H; exact H
                  clear H
                  have H := H1
                  clear H1
                  have H' := Aside0.mk H
                  clear H
                  obtain ⟨Ao40, co40, eo40⟩ := Kd.R_slice HO_11.out
                  subst eo40
                  obtain ⟨Ao41, co41, eo41⟩ := Kd.R_slice HO_8.out
                  subst eo41
                  go_wp2_with (first | (go_at_call 25; (with_reducible refine (laws_eqTermS.calls kj10 _ _ t188 _ _ t181 true _ ?side1 ?side2 ?side3 ?side4 A38.out).mono ?_); (case side1 => repeat (first | exact (Kd.R_reads' HO_11.out).2.2 | (with_reducible refine Kd.C_alloc ?_ _) | (with_reducible refine Kd.C_drewN ?_ _) | (with_reducible refine Kd.C_drew ?_))); (case side2 => exact (Kd.R_reads' HO_11.out).2.1); (case side3 => repeat (first | exact (Kd.R_reads' HO_8.out).2.2 | (with_reducible refine Kd.C_alloc ?_ _) | (with_reducible refine Kd.C_drewN ?_ _) | (with_reducible refine Kd.C_drew ?_))); (case side4 => exact (Kd.R_reads' HO_8.out).2.1); rintro e w42 ⟨rfl, hb⟩; have n0_ := Aside0.mk (Kd.R_below (by (with_reducible repeat (first | apply Kd.R_alloc | apply Kd.R_drewN | apply Kd.R_drew)); exact HO_8.out) hb); have n1_ := Aside0.mk (Kd.R_below (by (with_reducible repeat (first | apply Kd.R_alloc | apply Kd.R_drewN | apply Kd.R_drew)); exact HO_10.out) hb); have n2_ := Aside0.mk (Kd.R_below (by (with_reducible repeat (first | apply Kd.R_alloc | apply Kd.R_drewN | apply Kd.R_drew)); exact HO_11.out) hb); have n3_ := Aside0.mk (Kd.R_below (by (with_reducible repeat (first | apply Kd.R_alloc | apply Kd.R_drewN | apply Kd.R_drew)); exact HO195.out) hb); have n4_ := Aside0.mk (below_step (by repeat (first | (with_reducible first | exact HB.out | apply below_alloc | apply pw_below_drewN | apply below_drew1) | exact HB.out)) hb); clear HO_8; clear HO_10; clear HO_11; clear HO195; clear HB; have HO_8 := n0_; have HO_10 := n1_; have HO_11 := n2_; have HO195 := n3_; have HB := n4_; clear n0_ n1_ n2_ n3_ n4_; (try clear hb); (try clear hb2); (try clear hk); (try clear hi)))
                  go_meet
                  case rel => exact ⟨_, ((t189 != t182)), (by first | rfl | (simp; done) | (simp [*]; done)), H', ⟨by have := HJ10.out; first | omega | exact Nat.le_refl _⟩, ⟨by (with_reducible repeat (first | apply Kd.R_alloc | apply Kd.R_drewN | apply Kd.R_drew)); exact Kd.R_mono HO_8.out (fun _ hk => hk.2.1)⟩, ⟨by (with_reducible repeat (first | apply Kd.R_alloc | apply Kd.R_drewN | apply Kd.R_drew)); exact Kd.R_mono HO_11.out (fun _ hk => hk.1)⟩, ⟨by repeat (first | (with_reducible first | exact HB.out | apply below_alloc | apply pw_below_drewN | apply below_drew1) | exact HB.out)⟩⟩
                · replace c39 := Bool.eq_false_iff.mpr c39
                  subst c39
                  have H1 : (laws_FnExactInverseCoordinates.j1 kj10 a0 a1 l2 t181 t182 t188 true) = some r := by rw [if_neg (show ¬ (false = true) by decide)] at H; exact H
                  clear H
                  have H := H1
                  clear H1
                  have H' := Aside0.mk H
                  clear H
                  obtain ⟨Ao43, co43, eo43⟩ := Kd.R_slice HO_11.out
                  subst eo43
                  obtain ⟨Ao44, co44, eo44⟩ := Kd.R_slice HO_8.out
                  subst eo44
                  go_wp2_with (first | (go_at_call 25; (with_reducible refine (laws_eqTermS.calls kj10 _ _ t188 _ _ t181 false _ ?side1 ?side2 ?side3 ?side4 A38.out).mono ?_); (case side1 => repeat (first | exact (Kd.R_reads' HO_11.out).2.2 | (with_reducible refine Kd.C_alloc ?_ _) | (with_reducible refine Kd.C_drewN ?_ _) | (with_reducible refine Kd.C_drew ?_))); (case side2 => exact (Kd.R_reads' HO_11.out).2.1); (case side3 => repeat (first | exact (Kd.R_reads' HO_8.out).2.2 | (with_reducible refine Kd.C_alloc ?_ _) | (with_reducible refine Kd.C_drewN ?_ _) | (with_reducible refine Kd.C_drew ?_))); (case side4 => exact (Kd.R_reads' HO_8.out).2.1); rintro e w45 ⟨rfl, hb⟩; have n0_ := Aside0.mk (Kd.R_below (by (with_reducible repeat (first | apply Kd.R_alloc | apply Kd.R_drewN | apply Kd.R_drew)); exact HO_8.out) hb); have n1_ := Aside0.mk (Kd.R_below (by (with_reducible repeat (first | apply Kd.R_alloc | apply Kd.R_drewN | apply Kd.R_drew)); exact HO_10.out) hb); have n2_ := Aside0.mk (Kd.R_below (by (with_reducible repeat (first | apply Kd.R_alloc | apply Kd.R_drewN | apply Kd.R_drew)); exact HO_11.out) hb); have n3_ := Aside0.mk (Kd.R_below (by (with_reducible repeat (first | apply Kd.R_alloc | apply Kd.R_drewN | apply Kd.R_drew)); exact HO195.out) hb); have n4_ := Aside0.mk (below_step (by repeat (first | (with_reducible first | exact HB.out | apply below_alloc | apply pw_below_drewN | apply below_drew1) | exact HB.out)) hb); clear HO_8; clear HO_10; clear HO_11; clear HO195; clear HB; have HO_8 := n0_; have HO_10 := n1_; have HO_11 := n2_; have HO195 := n3_; have HB := n4_; clear n0_ n1_ n2_ n3_ n4_; (try clear hb); (try clear hb2); (try clear hk); (try clear hi)))
                  go_meet
                  case rel => exact ⟨_, (true), (by first | rfl | (simp; done) | (simp [*]; done)), H', ⟨by have := HJ10.out; first | omega | exact Nat.le_refl _⟩, ⟨by (with_reducible repeat (first | apply Kd.R_alloc | apply Kd.R_drewN | apply Kd.R_drew)); exact Kd.R_mono HO_8.out (fun _ hk => hk.2.1)⟩, ⟨by (with_reducible repeat (first | apply Kd.R_alloc | apply Kd.R_drewN | apply Kd.R_drew)); exact Kd.R_mono HO_11.out (fun _ hk => hk.1)⟩, ⟨by repeat (first | (with_reducible first | exact HB.out | apply below_alloc | apply pw_below_drewN | apply below_drew1) | exact HB.out)⟩⟩
            case rest =>
              clear HC32
              try clear c2
              try clear p2
              try clear c3
              try clear c5
              try clear c5b0
              try clear c20
              try clear c21
              try clear c22
              try clear c23
              try clear c24
              try clear c25
              try clear c26
              try clear c27
              try clear c30
              try clear c37
              try clear c37b0
              try clear c39
              try clear p2
              obtain ⟨kq, x69_31, rfl, HA, HJ31, HO_8, HO_11, HB⟩ := hcut
              cases kq with
              | zero => exact absurd HA.out (by simp [laws_FnExactInverseCoordinates.j1])
              | succ kj31 =>
                have H := HA.out
                clear HA
                simp only [laws_FnExactInverseCoordinates.j1] at H
                by_cases c46 : x69_31 = true
                · subst c46
                  have H1 : (some false) = some r := by rw [if_pos rfl] at H; exact H
                  clear H
                  have H := H1
                  clear H1
                  obtain rfl := Option.some.inj H
                  go_wp2
                  go_ret
                  exact ⟨by first | rfl | (simp [errW_none, errW_some] <;> rfl) | (simp [*, errW_none, errW_some] <;> rfl), by repeat (first | (with_reducible first | exact HB.out | apply below_alloc | apply pw_below_drewN | apply below_drew1) | exact HB.out)⟩
                · replace c46 := Bool.eq_false_iff.mpr c46
                  subst c46
                  have H1 : ((laws_markTermS.f kj31 t188 1).bind fun bt200 => ((laws_heldTermS.f kj31 bt200.2 1).bind fun t202 => (if t202 < 0 then (some false) else (if t202 = bt200.1 then ((laws_toTermS.f kj31 l2).bind fun t203 => ((impl_InverseCoordinates.f kj31 a0 a1 t203).bind fun bt206 => ((laws_eqTermS.f kj31 bt206.1 t181).bind fun t210 => (if t210 = true then (laws_FnExactInverseCoordinates.j2 kj31 bt200.2 bt200.1 (bt206.2 != t182)) else (laws_FnExactInverseCoordinates.j2 kj31 bt200.2 bt200.1 true))))) else (some false))))) = some r := by rw [if_neg (show ¬ (false = true) by decide)] at H; exact H
                  clear H
                  have H := H1
                  clear H1
                  replace H := Option.bind_eq_some_iff.mp H
                  obtain ⟨⟨t200, t201⟩, A470, H⟩ := H
                  replace H : ((laws_heldTermS.f kj31 t201 1).bind fun t202 => (if t202 < 0 then (some false) else (if t202 = t200 then ((laws_toTermS.f kj31 l2).bind fun t203 => ((impl_InverseCoordinates.f kj31 a0 a1 t203).bind fun bt206 => ((laws_eqTermS.f kj31 bt206.1 t181).bind fun t210 => (if t210 = true then (laws_FnExactInverseCoordinates.j2 kj31 t201 t200 (bt206.2 != t182)) else (laws_FnExactInverseCoordinates.j2 kj31 t201 t200 true))))) else (some false)))) = some r := H
                  have A47 := Aside0.mk A470
                  clear A470
                  replace H := Option.bind_eq_some_iff.mp H
                  obtain ⟨t202, A480, H⟩ := H
                  replace H : (if t202 < 0 then (some false) else (if t202 = t200 then ((laws_toTermS.f kj31 l2).bind fun t203 => ((impl_InverseCoordinates.f kj31 a0 a1 t203).bind fun bt206 => ((laws_eqTermS.f kj31 bt206.1 t181).bind fun t210 => (if t210 = true then (laws_FnExactInverseCoordinates.j2 kj31 t201 t200 (bt206.2 != t182)) else (laws_FnExactInverseCoordinates.j2 kj31 t201 t200 true))))) else (some false))) = some r := H
                  have A48 := Aside0.mk A480
                  clear A480
                  by_cases c49 : t202 < 0
                  · rw [if_pos c49] at H
                    have c49b0 : decide (t202 < 0) = true := decide_eq_true c49
                    clear c49
                    obtain rfl := Option.some.inj H
                    obtain ⟨Ao50, co50, eo50⟩ := Kd.R_slice HO_11.out
                    subst eo50
                    go_wp2_with (first | ((with_reducible refine gate_callee (f := 26) rfl ?_); refine goesL_ (some 72) rfl rfl Try.func26 (by kernel_rfl) rfl #[.slice Ao50 t188.length co50, .int .i64 1] rfl (by (try simp only [List.map_toArray, List.map_cons, List.map_nil]); first | done | rfl | (simp only [List.length_drop, List.length_take]; rfl)) ?_; (with_reducible refine (laws_markTermS.calls kj31 (fun k_ => some k_ = (.slice Ao50 t188.length co50 : Value).ownBlock) (.slice Ao50 t188.length co50) t188 1 t200 t201 w _ ?side1 ?side2 A47.out).mono ?_); (case side1 => repeat (first | (with_reducible first | exact HB.out | apply below_alloc | apply pw_below_drewN | apply below_drew1) | exact HB.out)); (case side2 => exact Kd.R_tight rfl HO_11.out); rintro e w51 ⟨rfl, hy0, hb, hkp⟩; refine ⟨_, rfl, ?_⟩; have n0_ := Aside0.mk (Kd.R_mono (ok' := fun k_ => some k_ ≠ (.slice Ao50 t188.length co50 : Value).ownBlock) (Kd.R_keptB (HO_8.out) hkp (fun k_ hk_ hs_ => (hk_) hs_)) (fun k_ hk_ => hk_.1)); have n1_ := Aside0.mk (Kd.R_reok rfl hy0 (fun k_ e_ => HO_11.out.1 k_ e_)); have n2_ := Aside0.mk (hb); clear HO_8; clear HO_11; clear HB; have HO_8 := n0_; have HO_11 := n1_; have HB := n2_; clear n0_ n1_ n2_; (try clear hb); (try clear hkp); (try clear hy0)) | ((with_reducible refine gate_callee (f := 27) rfl ?_); refine goesL_ (some 75) rfl rfl Try.func27 (by kernel_rfl) rfl #[.slice Ao50 t201.length co50, .int .i64 1] rfl (by (try simp only [List.map_toArray, List.map_cons, List.map_nil]); first | done | (rw [show t201.length = t188.length from (Kd.R_reads' HO_11.out).1.symm] <;> rfl) | rfl | (simp only [List.length_drop, List.length_take]; rfl)) ?_; (with_reducible refine (laws_heldTermS.calls kj31 _ _ t201 1 t202 _ ?side1 ?side2 A48.out).mono ?_); (case side1 => repeat (first | exact (Kd.R_reads' HO_11.out).2.2 | (with_reducible refine Kd.C_alloc ?_ _) | (with_reducible refine Kd.C_drewN ?_ _) | (with_reducible refine Kd.C_drew ?_))); (case side2 => rw [show t201.length = t188.length from (Kd.R_reads' HO_11.out).1.symm]; exact (Kd.R_reads' HO_11.out).2.1); rintro e w52 ⟨rfl, hb⟩; refine ⟨_, rfl, ?_⟩; have n0_ := Aside0.mk (Kd.R_below (by (with_reducible repeat (first | apply Kd.R_alloc | apply Kd.R_drewN | apply Kd.R_drew)); exact HO_8.out) hb); have n1_ := Aside0.mk (Kd.R_below (by (with_reducible repeat (first | apply Kd.R_alloc | apply Kd.R_drewN | apply Kd.R_drew)); exact HO_11.out) hb); have n2_ := Aside0.mk (below_step (by repeat (first | (with_reducible first | exact HB.out | apply below_alloc | apply pw_below_drewN | apply below_drew1) | exact HB.out)) hb); clear HO_8; clear HO_11; clear HB; have HO_8 := n0_; have HO_11 := n1_; have HB := n2_; clear n0_ n1_ n2_; (try clear hb); (try clear hb2); (try clear hk); (try clear hi)))
                    go_ret
                    exact ⟨by first | rfl | (simp [errW_none, errW_some] <;> rfl) | (simp [*, errW_none, errW_some] <;> rfl), by repeat (first | (with_reducible first | exact HB.out | apply below_alloc | apply pw_below_drewN | apply below_drew1) | exact HB.out)⟩
                  · rw [if_neg c49] at H
                    have c49b0 : decide (t202 < 0) = false := decide_eq_false c49
                    clear c49
                    by_cases c53 : t202 = t200
                    · rw [if_pos c53] at H
                      have c53b0 : (t202 == t200) = true := beq_iff_eq.mpr c53
                      have c53b1 : (t202 != t200) = false := bne_eq_false_iff_eq.mpr c53
                      clear c53
                      replace H := Option.bind_eq_some_iff.mp H
                      obtain ⟨t203, A540, H⟩ := H
                      replace H : ((impl_InverseCoordinates.f kj31 a0 a1 t203).bind fun bt206 => ((laws_eqTermS.f kj31 bt206.1 t181).bind fun t210 => (if t210 = true then (laws_FnExactInverseCoordinates.j2 kj31 t201 t200 (bt206.2 != t182)) else (laws_FnExactInverseCoordinates.j2 kj31 t201 t200 true)))) = some r := H
                      have A54 := Aside0.mk A540
                      clear A540
                      replace H := Option.bind_eq_some_iff.mp H
                      obtain ⟨⟨t206, t207⟩, A550, H⟩ := H
                      replace H : ((laws_eqTermS.f kj31 t206 t181).bind fun t210 => (if t210 = true then (laws_FnExactInverseCoordinates.j2 kj31 t201 t200 (t207 != t182)) else (laws_FnExactInverseCoordinates.j2 kj31 t201 t200 true))) = some r := H
                      have A55 := Aside0.mk A550
                      clear A550
                      have HC56 := Aside0.mk H
                      clear H
                      obtain ⟨Ao57, co57, eo57⟩ := Kd.R_slice HO_11.out
                      subst eo57
                      go_upto_region 25 with (first | ((with_reducible refine gate_callee (f := 26) rfl ?_); refine goesL_ (some 72) rfl rfl Try.func26 (by kernel_rfl) rfl #[.slice Ao57 t188.length co57, .int .i64 1] rfl (by (try simp only [List.map_toArray, List.map_cons, List.map_nil]); first | done | rfl | (simp only [List.length_drop, List.length_take]; rfl)) ?_; (with_reducible refine (laws_markTermS.calls kj31 (fun k_ => some k_ = (.slice Ao57 t188.length co57 : Value).ownBlock) (.slice Ao57 t188.length co57) t188 1 t200 t201 w _ ?side1 ?side2 A47.out).mono ?_); (case side1 => repeat (first | (with_reducible first | exact HB.out | apply below_alloc | apply pw_below_drewN | apply below_drew1) | exact HB.out)); (case side2 => exact Kd.R_tight rfl HO_11.out); rintro e w58 ⟨rfl, hy0, hb, hkp⟩; refine ⟨_, rfl, ?_⟩; have n0_ := Aside0.mk (Kd.R_mono (ok' := fun k_ => some k_ ≠ (.slice Ao57 t188.length co57 : Value).ownBlock) (Kd.R_keptB (HO_8.out) hkp (fun k_ hk_ hs_ => (hk_) hs_)) (fun k_ hk_ => hk_.1)); have n1_ := Aside0.mk (Kd.R_reok rfl hy0 (fun k_ e_ => HO_11.out.1 k_ e_)); have n2_ := Aside0.mk (hb); clear HO_8; clear HO_11; clear HB; have HO_8 := n0_; have HO_11 := n1_; have HB := n2_; clear n0_ n1_ n2_; (try clear hb); (try clear hkp); (try clear hy0)) | ((with_reducible refine gate_callee (f := 27) rfl ?_); refine goesL_ (some 75) rfl rfl Try.func27 (by kernel_rfl) rfl #[.slice Ao57 t201.length co57, .int .i64 1] rfl (by (try simp only [List.map_toArray, List.map_cons, List.map_nil]); first | done | (rw [show t201.length = t188.length from (Kd.R_reads' HO_11.out).1.symm] <;> rfl) | rfl | (simp only [List.length_drop, List.length_take]; rfl)) ?_; (with_reducible refine (laws_heldTermS.calls kj31 _ _ t201 1 t202 _ ?side1 ?side2 A48.out).mono ?_); (case side1 => repeat (first | exact (Kd.R_reads' HO_11.out).2.2 | (with_reducible refine Kd.C_alloc ?_ _) | (with_reducible refine Kd.C_drewN ?_ _) | (with_reducible refine Kd.C_drew ?_))); (case side2 => rw [show t201.length = t188.length from (Kd.R_reads' HO_11.out).1.symm]; exact (Kd.R_reads' HO_11.out).2.1); rintro e w59 ⟨rfl, hb⟩; refine ⟨_, rfl, ?_⟩; have n0_ := Aside0.mk (Kd.R_below (by (with_reducible repeat (first | apply Kd.R_alloc | apply Kd.R_drewN | apply Kd.R_drew)); exact HO_8.out) hb); have n1_ := Aside0.mk (Kd.R_below (by (with_reducible repeat (first | apply Kd.R_alloc | apply Kd.R_drewN | apply Kd.R_drew)); exact HO_11.out) hb); have n2_ := Aside0.mk (below_step (by repeat (first | (with_reducible first | exact HB.out | apply below_alloc | apply pw_below_drewN | apply below_drew1) | exact HB.out)) hb); clear HO_8; clear HO_11; clear HB; have HO_8 := n0_; have HO_11 := n1_; have HB := n2_; clear n0_ n1_ n2_; (try clear hb); (try clear hb2); (try clear hk); (try clear hi)) | ((with_reducible refine gate_callee (f := 23) rfl ?_); refine goesL_ (some 85) rfl rfl Try.func23 (by kernel_rfl) rfl #[.slice A2 l2.length c2] rfl (by (try simp only [List.map_toArray, List.map_cons, List.map_nil]); first | done | rfl | (simp only [List.length_drop, List.length_take]; rfl)) ?_; (with_reducible refine (laws_toTermS.calls kj31 _ _ l2 t203 _ ?side1 ?side2 A54.out).mono ?_); (case side1 => repeat (first | exact (Kd.C_below HR2.out HB.out) | (with_reducible refine Kd.C_alloc ?_ _) | (with_reducible refine Kd.C_drewN ?_ _) | (with_reducible refine Kd.C_drew ?_))); (case side2 => exact HC2.out); rintro e w60 ⟨v204, rfl, ho0, hb⟩; refine ⟨_, rfl, ?_⟩; have n0_ := Aside0.mk (Kd.R_elder' (by (with_reducible repeat (first | apply Kd.R_alloc | apply Kd.R_drewN | apply Kd.R_drew)); exact HO_8.out) (Kd.R_base ho0) hb); have n1_ := Aside0.mk (Kd.R_elder' (by (with_reducible repeat (first | apply Kd.R_alloc | apply Kd.R_drewN | apply Kd.R_drew)); exact HO_11.out) (Kd.R_base ho0) hb); have n2_ := Aside0.mk (Kd.R_lower (Kd.R_new' (Kd.R_new' ho0 (Kd.R_lt (by (with_reducible repeat (first | apply Kd.R_alloc | apply Kd.R_drewN | apply Kd.R_drew)); exact HO_8.out))) (Kd.R_lt (by (with_reducible repeat (first | apply Kd.R_alloc | apply Kd.R_drewN | apply Kd.R_drew)); exact HO_11.out))) (below_size (by repeat (first | (with_reducible first | exact HB.out | apply below_alloc | apply pw_below_drewN | apply below_drew1) | exact HB.out)))); have n3_ := Aside0.mk (below_step (by repeat (first | (with_reducible first | exact HB.out | apply below_alloc | apply pw_below_drewN | apply below_drew1) | exact HB.out)) hb); clear HO_8; clear HO_11; clear HB; have HO_8 := n0_; have HO_11 := n1_; have HO205 := n2_; have HB := n3_; clear n0_ n1_ n2_ n3_; (try clear hb); (try clear hb2); (try clear hk); (try clear hi); (try clear ho0); obtain ⟨Ao61, co61, eo61⟩ := Kd.R_slice HO205.out; subst eo61) | ((with_reducible refine gate_callee (f := 24) rfl ?_); refine goesL_ (some 86) rfl rfl Try.func24 (by kernel_rfl) rfl #[.int .i64 a0, .int .i64 a1, .slice Ao61 t203.length co61] rfl (by (try simp only [List.map_toArray, List.map_cons, List.map_nil]); first | done | rfl | (simp only [List.length_drop, List.length_take]; rfl)) ?_; (with_reducible refine (impl_InverseCoordinates.calls kj31 a0 a1 _ _ t203 t206 t207 _ ?side1 ?side2 A55.out).mono ?_); (case side1 => repeat (first | exact (Kd.R_reads' HO205.out).2.2 | (with_reducible refine Kd.C_alloc ?_ _) | (with_reducible refine Kd.C_drewN ?_ _) | (with_reducible refine Kd.C_drew ?_))); (case side2 => exact (Kd.R_reads' HO205.out).2.1); rintro e w62 ⟨v208, rfl, ho0, hb⟩; refine ⟨_, rfl, ?_⟩; have n0_ := Aside0.mk (Kd.R_elder' (by (with_reducible repeat (first | apply Kd.R_alloc | apply Kd.R_drewN | apply Kd.R_drew)); exact HO_8.out) (Kd.R_base ho0) hb); have n1_ := Aside0.mk (Kd.R_elder' (by (with_reducible repeat (first | apply Kd.R_alloc | apply Kd.R_drewN | apply Kd.R_drew)); exact HO_11.out) (Kd.R_base ho0) hb); have n2_ := Aside0.mk (Kd.R_elder' (by (with_reducible repeat (first | apply Kd.R_alloc | apply Kd.R_drewN | apply Kd.R_drew)); exact HO205.out) (Kd.R_base ho0) hb); have n3_ := Aside0.mk (Kd.R_lower (Kd.R_new' (Kd.R_new' (Kd.R_new' ho0 (Kd.R_lt (by (with_reducible repeat (first | apply Kd.R_alloc | apply Kd.R_drewN | apply Kd.R_drew)); exact HO_8.out))) (Kd.R_lt (by (with_reducible repeat (first | apply Kd.R_alloc | apply Kd.R_drewN | apply Kd.R_drew)); exact HO_11.out))) (Kd.R_lt (by (with_reducible repeat (first | apply Kd.R_alloc | apply Kd.R_drewN | apply Kd.R_drew)); exact HO205.out))) (below_size (by repeat (first | (with_reducible first | exact HB.out | apply below_alloc | apply pw_below_drewN | apply below_drew1) | exact HB.out)))); have n4_ := Aside0.mk (below_step (by repeat (first | (with_reducible first | exact HB.out | apply below_alloc | apply pw_below_drewN | apply below_drew1) | exact HB.out)) hb); clear HO_8; clear HO_11; clear HO205; clear HB; have HO_8 := n0_; have HO_11 := n1_; have HO205 := n2_; have HO209 := n3_; have HB := n4_; clear n0_ n1_ n2_ n3_ n4_; (try clear hb); (try clear hb2); (try clear hk); (try clear hi); (try clear ho0)))
                      (try simp only [Act.put, List.setIfInBounds_toArray, List.set_cons_zero, List.set_cons_succ])
                      go_cut [97] (fun v97 wc => ∃ (kq : Nat) (x97_55 : Bool), v97 = .bool x97_55 ∧ Aside0 (laws_FnExactInverseCoordinates.j2 kq t201 t200 x97_55 = some r) ∧ Aside0 (kq ≤ kj31) ∧ Aside0 (Kd.R k79 79 wc w.heap.size (fun _ => True) (.slice Ao57 t188.length co57) t201) ∧ Aside0 (Below w.heap.size w wc))
                      case first =>
                        have H := HC56.out
                        clear HC56
                        replace H := Option.bind_eq_some_iff.mp H
                        obtain ⟨t210, A630, H⟩ := H
                        replace H : (if t210 = true then (laws_FnExactInverseCoordinates.j2 kj31 t201 t200 (t207 != t182)) else (laws_FnExactInverseCoordinates.j2 kj31 t201 t200 true)) = some r := H
                        have A63 := Aside0.mk A630
                        clear A630
                        by_cases c64 : t210 = true
                        · subst c64
                          have H1 : (laws_FnExactInverseCoordinates.j2 kj31 t201 t200 (t207 != t182)) = some r := by rw [if_pos rfl] at H; exact H
                          clear H
                          have H := H1
                          clear H1
                          have H' := Aside0.mk H
                          clear H
                          obtain ⟨Ao65, co65, eo65⟩ := Kd.R_slice HO209.out
                          subst eo65
                          obtain ⟨Ao66, co66, eo66⟩ := Kd.R_slice HO_8.out
                          subst eo66
                          go_wp2_with (first | ((with_reducible refine gate_callee (f := 25) rfl ?_); refine goesL_ (some 91) rfl rfl Try.func25 (by kernel_rfl) rfl #[.slice Ao65 t206.length co65, .slice Ao66 t181.length co66] rfl (by (try simp only [List.map_toArray, List.map_cons, List.map_nil]); first | done | rfl | (simp only [List.length_drop, List.length_take]; rfl)) ?_; (with_reducible refine (laws_eqTermS.calls kj31 _ _ t206 _ _ t181 true _ ?side1 ?side2 ?side3 ?side4 A63.out).mono ?_); (case side1 => repeat (first | exact (Kd.R_reads' HO209.out).2.2 | (with_reducible refine Kd.C_alloc ?_ _) | (with_reducible refine Kd.C_drewN ?_ _) | (with_reducible refine Kd.C_drew ?_))); (case side2 => exact (Kd.R_reads' HO209.out).2.1); (case side3 => repeat (first | exact (Kd.R_reads' HO_8.out).2.2 | (with_reducible refine Kd.C_alloc ?_ _) | (with_reducible refine Kd.C_drewN ?_ _) | (with_reducible refine Kd.C_drew ?_))); (case side4 => exact (Kd.R_reads' HO_8.out).2.1); rintro e w67 ⟨rfl, hb⟩; refine ⟨_, rfl, ?_⟩; have n0_ := Aside0.mk (Kd.R_below (by (with_reducible repeat (first | apply Kd.R_alloc | apply Kd.R_drewN | apply Kd.R_drew)); exact HO_8.out) hb); have n1_ := Aside0.mk (Kd.R_below (by (with_reducible repeat (first | apply Kd.R_alloc | apply Kd.R_drewN | apply Kd.R_drew)); exact HO_11.out) hb); have n2_ := Aside0.mk (Kd.R_below (by (with_reducible repeat (first | apply Kd.R_alloc | apply Kd.R_drewN | apply Kd.R_drew)); exact HO205.out) hb); have n3_ := Aside0.mk (Kd.R_below (by (with_reducible repeat (first | apply Kd.R_alloc | apply Kd.R_drewN | apply Kd.R_drew)); exact HO209.out) hb); have n4_ := Aside0.mk (below_step (by repeat (first | (with_reducible first | exact HB.out | apply below_alloc | apply pw_below_drewN | apply below_drew1) | exact HB.out)) hb); clear HO_8; clear HO_11; clear HO205; clear HO209; clear HB; have HO_8 := n0_; have HO_11 := n1_; have HO205 := n2_; have HO209 := n3_; have HB := n4_; clear n0_ n1_ n2_ n3_ n4_; (try clear hb); (try clear hb2); (try clear hk); (try clear hi)))
                          go_meet
                          case rel => exact ⟨_, ((t207 != t182)), (by first | rfl | (simp; done) | (simp [*]; done)), H', ⟨by have := HJ10.out; have := HJ31.out; first | omega | exact Nat.le_refl _⟩, ⟨by (with_reducible repeat (first | apply Kd.R_alloc | apply Kd.R_drewN | apply Kd.R_drew)); exact Kd.R_mono HO_11.out (fun _ hk => trivial)⟩, ⟨by repeat (first | (with_reducible first | exact HB.out | apply below_alloc | apply pw_below_drewN | apply below_drew1) | exact HB.out)⟩⟩
                        · replace c64 := Bool.eq_false_iff.mpr c64
                          subst c64
                          have H1 : (laws_FnExactInverseCoordinates.j2 kj31 t201 t200 true) = some r := by rw [if_neg (show ¬ (false = true) by decide)] at H; exact H
                          clear H
                          have H := H1
                          clear H1
                          have H' := Aside0.mk H
                          clear H
                          obtain ⟨Ao68, co68, eo68⟩ := Kd.R_slice HO209.out
                          subst eo68
                          obtain ⟨Ao69, co69, eo69⟩ := Kd.R_slice HO_8.out
                          subst eo69
                          go_wp2_with (first | ((with_reducible refine gate_callee (f := 25) rfl ?_); refine goesL_ (some 91) rfl rfl Try.func25 (by kernel_rfl) rfl #[.slice Ao68 t206.length co68, .slice Ao69 t181.length co69] rfl (by (try simp only [List.map_toArray, List.map_cons, List.map_nil]); first | done | rfl | (simp only [List.length_drop, List.length_take]; rfl)) ?_; (with_reducible refine (laws_eqTermS.calls kj31 _ _ t206 _ _ t181 false _ ?side1 ?side2 ?side3 ?side4 A63.out).mono ?_); (case side1 => repeat (first | exact (Kd.R_reads' HO209.out).2.2 | (with_reducible refine Kd.C_alloc ?_ _) | (with_reducible refine Kd.C_drewN ?_ _) | (with_reducible refine Kd.C_drew ?_))); (case side2 => exact (Kd.R_reads' HO209.out).2.1); (case side3 => repeat (first | exact (Kd.R_reads' HO_8.out).2.2 | (with_reducible refine Kd.C_alloc ?_ _) | (with_reducible refine Kd.C_drewN ?_ _) | (with_reducible refine Kd.C_drew ?_))); (case side4 => exact (Kd.R_reads' HO_8.out).2.1); rintro e w70 ⟨rfl, hb⟩; refine ⟨_, rfl, ?_⟩; have n0_ := Aside0.mk (Kd.R_below (by (with_reducible repeat (first | apply Kd.R_alloc | apply Kd.R_drewN | apply Kd.R_drew)); exact HO_8.out) hb); have n1_ := Aside0.mk (Kd.R_below (by (with_reducible repeat (first | apply Kd.R_alloc | apply Kd.R_drewN | apply Kd.R_drew)); exact HO_11.out) hb); have n2_ := Aside0.mk (Kd.R_below (by (with_reducible repeat (first | apply Kd.R_alloc | apply Kd.R_drewN | apply Kd.R_drew)); exact HO205.out) hb); have n3_ := Aside0.mk (Kd.R_below (by (with_reducible repeat (first | apply Kd.R_alloc | apply Kd.R_drewN | apply Kd.R_drew)); exact HO209.out) hb); have n4_ := Aside0.mk (below_step (by repeat (first | (with_reducible first | exact HB.out | apply below_alloc | apply pw_below_drewN | apply below_drew1) | exact HB.out)) hb); clear HO_8; clear HO_11; clear HO205; clear HO209; clear HB; have HO_8 := n0_; have HO_11 := n1_; have HO205 := n2_; have HO209 := n3_; have HB := n4_; clear n0_ n1_ n2_ n3_ n4_; (try clear hb); (try clear hb2); (try clear hk); (try clear hi)))
                          go_meet
                          case rel => exact ⟨_, (true), (by first | rfl | (simp; done) | (simp [*]; done)), H', ⟨by have := HJ10.out; have := HJ31.out; first | omega | exact Nat.le_refl _⟩, ⟨by (with_reducible repeat (first | apply Kd.R_alloc | apply Kd.R_drewN | apply Kd.R_drew)); exact Kd.R_mono HO_11.out (fun _ hk => trivial)⟩, ⟨by repeat (first | (with_reducible first | exact HB.out | apply below_alloc | apply pw_below_drewN | apply below_drew1) | exact HB.out)⟩⟩
                      case rest =>
                        clear HC56
                        try clear c2
                        try clear p2
                        try clear c3
                        try clear c4
                        try clear c5
                        try clear c5b0
                        try clear c6
                        try clear c20
                        try clear c21
                        try clear c22
                        try clear c23
                        try clear c24
                        try clear c25
                        try clear c26
                        try clear c27
                        try clear c30
                        try clear c37
                        try clear c37b0
                        try clear c39
                        try clear c46
                        try clear c49
                        try clear c49b0
                        try clear c53
                        try clear c53b0
                        try clear c53b1
                        try clear c64
                        try clear p2
                        obtain ⟨kq, x97_55, rfl, HA, HJ55, HO_11, HB⟩ := hcut
                        have hl11_55 := (Kd.R_reads' HO_11.out).1
                        rw [hl11_55] at HO_11
                        (try simp only [hl11_55])
                        cases kq with
                        | zero => exact absurd HA.out (by simp [laws_FnExactInverseCoordinates.j2])
                        | succ kj55 =>
                          have H := HA.out
                          clear HA
                          simp only [laws_FnExactInverseCoordinates.j2] at H
                          by_cases c71 : x97_55 = true
                          · subst c71
                            have H1 : (some false) = some r := by rw [if_pos rfl] at H; exact H
                            clear H
                            have H := H1
                            clear H1
                            obtain rfl := Option.some.inj H
                            go_wp2
                            go_ret
                            exact ⟨by first | rfl | (simp [errW_none, errW_some] <;> rfl) | (simp [*, errW_none, errW_some] <;> rfl), by repeat (first | (with_reducible first | exact HB.out | apply below_alloc | apply pw_below_drewN | apply below_drew1) | exact HB.out)⟩
                          · replace c71 := Bool.eq_false_iff.mpr c71
                            subst c71
                            have H1 : ((laws_heldTermS.f kj55 t201 1).bind fun t211 => (if t211 < 0 then (some false) else (if t211 = t200 then (some true) else (some false)))) = some r := by rw [if_neg (show ¬ (false = true) by decide)] at H; exact H
                            clear H
                            have H := H1
                            clear H1
                            replace H := Option.bind_eq_some_iff.mp H
                            obtain ⟨t211, A720, H⟩ := H
                            replace H : (if t211 < 0 then (some false) else (if t211 = t200 then (some true) else (some false))) = some r := H
                            have A72 := Aside0.mk A720
                            clear A720
                            by_cases c73 : t211 < 0
                            · rw [if_pos c73] at H
                              have c73b0 : decide (t211 < 0) = true := decide_eq_true c73
                              clear c73
                              obtain rfl := Option.some.inj H
                              go_wp2_with (first | ((with_reducible refine gate_callee (f := 27) rfl ?_); refine goesL_ (some 100) rfl rfl Try.func27 (by kernel_rfl) rfl #[.slice Ao57 t201.length co57, .int .i64 1] rfl (by (try simp only [List.map_toArray, List.map_cons, List.map_nil]); first | done | rfl | (simp only [List.length_drop, List.length_take]; rfl)) ?_; (with_reducible refine (laws_heldTermS.calls kj55 _ _ t201 1 t211 _ ?side1 ?side2 A72.out).mono ?_); (case side1 => repeat (first | exact (Kd.R_reads' HO_11.out).2.2 | (with_reducible refine Kd.C_alloc ?_ _) | (with_reducible refine Kd.C_drewN ?_ _) | (with_reducible refine Kd.C_drew ?_))); (case side2 => exact (Kd.R_reads' HO_11.out).2.1); rintro e w74 ⟨rfl, hb⟩; refine ⟨_, rfl, ?_⟩; have n0_ := Aside0.mk (Kd.R_below (by (with_reducible repeat (first | apply Kd.R_alloc | apply Kd.R_drewN | apply Kd.R_drew)); exact HO_11.out) hb); have n1_ := Aside0.mk (below_step (by repeat (first | (with_reducible first | exact HB.out | apply below_alloc | apply pw_below_drewN | apply below_drew1) | exact HB.out)) hb); clear HO_11; clear HB; have HO_11 := n0_; have HB := n1_; clear n0_ n1_; (try clear hb); (try clear hb2); (try clear hk); (try clear hi)))
                              go_ret
                              exact ⟨by first | rfl | (simp [errW_none, errW_some] <;> rfl) | (simp [*, errW_none, errW_some] <;> rfl), by repeat (first | (with_reducible first | exact HB.out | apply below_alloc | apply pw_below_drewN | apply below_drew1) | exact HB.out)⟩
                            · rw [if_neg c73] at H
                              have c73b0 : decide (t211 < 0) = false := decide_eq_false c73
                              clear c73
                              by_cases c75 : t211 = t200
                              · rw [if_pos c75] at H
                                have c75b0 : (t211 == t200) = true := beq_iff_eq.mpr c75
                                have c75b1 : (t211 != t200) = false := bne_eq_false_iff_eq.mpr c75
                                clear c75
                                obtain rfl := Option.some.inj H
                                go_wp2_with (first | ((with_reducible refine gate_callee (f := 27) rfl ?_); refine goesL_ (some 100) rfl rfl Try.func27 (by kernel_rfl) rfl #[.slice Ao57 t201.length co57, .int .i64 1] rfl (by (try simp only [List.map_toArray, List.map_cons, List.map_nil]); first | done | rfl | (simp only [List.length_drop, List.length_take]; rfl)) ?_; (with_reducible refine (laws_heldTermS.calls kj55 _ _ t201 1 t211 _ ?side1 ?side2 A72.out).mono ?_); (case side1 => repeat (first | exact (Kd.R_reads' HO_11.out).2.2 | (with_reducible refine Kd.C_alloc ?_ _) | (with_reducible refine Kd.C_drewN ?_ _) | (with_reducible refine Kd.C_drew ?_))); (case side2 => exact (Kd.R_reads' HO_11.out).2.1); rintro e w76 ⟨rfl, hb⟩; refine ⟨_, rfl, ?_⟩; have n0_ := Aside0.mk (Kd.R_below (by (with_reducible repeat (first | apply Kd.R_alloc | apply Kd.R_drewN | apply Kd.R_drew)); exact HO_11.out) hb); have n1_ := Aside0.mk (below_step (by repeat (first | (with_reducible first | exact HB.out | apply below_alloc | apply pw_below_drewN | apply below_drew1) | exact HB.out)) hb); clear HO_11; clear HB; have HO_11 := n0_; have HB := n1_; clear n0_ n1_; (try clear hb); (try clear hb2); (try clear hk); (try clear hi)))
                                go_ret
                                exact ⟨by first | rfl | (simp [errW_none, errW_some] <;> rfl) | (simp [*, errW_none, errW_some] <;> rfl), by repeat (first | (with_reducible first | exact HB.out | apply below_alloc | apply pw_below_drewN | apply below_drew1) | exact HB.out)⟩
                              · rw [if_neg c75] at H
                                have c75b0 : (t211 == t200) = false := beq_eq_false_iff_ne.mpr c75
                                have c75b1 : (t211 != t200) = true := bne_iff_ne.mpr c75
                                obtain rfl := Option.some.inj H
                                go_wp2_with (first | ((with_reducible refine gate_callee (f := 27) rfl ?_); refine goesL_ (some 100) rfl rfl Try.func27 (by kernel_rfl) rfl #[.slice Ao57 t201.length co57, .int .i64 1] rfl (by (try simp only [List.map_toArray, List.map_cons, List.map_nil]); first | done | rfl | (simp only [List.length_drop, List.length_take]; rfl)) ?_; (with_reducible refine (laws_heldTermS.calls kj55 _ _ t201 1 t211 _ ?side1 ?side2 A72.out).mono ?_); (case side1 => repeat (first | exact (Kd.R_reads' HO_11.out).2.2 | (with_reducible refine Kd.C_alloc ?_ _) | (with_reducible refine Kd.C_drewN ?_ _) | (with_reducible refine Kd.C_drew ?_))); (case side2 => exact (Kd.R_reads' HO_11.out).2.1); rintro e w77 ⟨rfl, hb⟩; refine ⟨_, rfl, ?_⟩; have n0_ := Aside0.mk (Kd.R_below (by (with_reducible repeat (first | apply Kd.R_alloc | apply Kd.R_drewN | apply Kd.R_drew)); exact HO_11.out) hb); have n1_ := Aside0.mk (below_step (by repeat (first | (with_reducible first | exact HB.out | apply below_alloc | apply pw_below_drewN | apply below_drew1) | exact HB.out)) hb); clear HO_11; clear HB; have HO_11 := n0_; have HB := n1_; clear n0_ n1_; (try clear hb); (try clear hb2); (try clear hk); (try clear hi)))
                                go_ret
                                exact ⟨by first | rfl | (simp [errW_none, errW_some] <;> rfl) | (simp [*, errW_none, errW_some] <;> rfl), by repeat (first | (with_reducible first | exact HB.out | apply below_alloc | apply pw_below_drewN | apply below_drew1) | exact HB.out)⟩
                    · rw [if_neg c53] at H
                      have c53b0 : (t202 == t200) = false := beq_eq_false_iff_ne.mpr c53
                      have c53b1 : (t202 != t200) = true := bne_iff_ne.mpr c53
                      obtain rfl := Option.some.inj H
                      obtain ⟨Ao78, co78, eo78⟩ := Kd.R_slice HO_11.out
                      subst eo78
                      go_wp2_with (first | ((with_reducible refine gate_callee (f := 26) rfl ?_); refine goesL_ (some 72) rfl rfl Try.func26 (by kernel_rfl) rfl #[.slice Ao78 t188.length co78, .int .i64 1] rfl (by (try simp only [List.map_toArray, List.map_cons, List.map_nil]); first | done | rfl | (simp only [List.length_drop, List.length_take]; rfl)) ?_; (with_reducible refine (laws_markTermS.calls kj31 (fun k_ => some k_ = (.slice Ao78 t188.length co78 : Value).ownBlock) (.slice Ao78 t188.length co78) t188 1 t200 t201 w _ ?side1 ?side2 A47.out).mono ?_); (case side1 => repeat (first | (with_reducible first | exact HB.out | apply below_alloc | apply pw_below_drewN | apply below_drew1) | exact HB.out)); (case side2 => exact Kd.R_tight rfl HO_11.out); rintro e w79 ⟨rfl, hy0, hb, hkp⟩; refine ⟨_, rfl, ?_⟩; have n0_ := Aside0.mk (Kd.R_mono (ok' := fun k_ => some k_ ≠ (.slice Ao78 t188.length co78 : Value).ownBlock) (Kd.R_keptB (HO_8.out) hkp (fun k_ hk_ hs_ => (hk_) hs_)) (fun k_ hk_ => hk_.1)); have n1_ := Aside0.mk (Kd.R_reok rfl hy0 (fun k_ e_ => HO_11.out.1 k_ e_)); have n2_ := Aside0.mk (hb); clear HO_8; clear HO_11; clear HB; have HO_8 := n0_; have HO_11 := n1_; have HB := n2_; clear n0_ n1_ n2_; (try clear hb); (try clear hkp); (try clear hy0)) | ((with_reducible refine gate_callee (f := 27) rfl ?_); refine goesL_ (some 75) rfl rfl Try.func27 (by kernel_rfl) rfl #[.slice Ao78 t201.length co78, .int .i64 1] rfl (by (try simp only [List.map_toArray, List.map_cons, List.map_nil]); first | done | (rw [show t201.length = t188.length from (Kd.R_reads' HO_11.out).1.symm] <;> rfl) | rfl | (simp only [List.length_drop, List.length_take]; rfl)) ?_; (with_reducible refine (laws_heldTermS.calls kj31 _ _ t201 1 t202 _ ?side1 ?side2 A48.out).mono ?_); (case side1 => repeat (first | exact (Kd.R_reads' HO_11.out).2.2 | (with_reducible refine Kd.C_alloc ?_ _) | (with_reducible refine Kd.C_drewN ?_ _) | (with_reducible refine Kd.C_drew ?_))); (case side2 => rw [show t201.length = t188.length from (Kd.R_reads' HO_11.out).1.symm]; exact (Kd.R_reads' HO_11.out).2.1); rintro e w80 ⟨rfl, hb⟩; refine ⟨_, rfl, ?_⟩; have n0_ := Aside0.mk (Kd.R_below (by (with_reducible repeat (first | apply Kd.R_alloc | apply Kd.R_drewN | apply Kd.R_drew)); exact HO_8.out) hb); have n1_ := Aside0.mk (Kd.R_below (by (with_reducible repeat (first | apply Kd.R_alloc | apply Kd.R_drewN | apply Kd.R_drew)); exact HO_11.out) hb); have n2_ := Aside0.mk (below_step (by repeat (first | (with_reducible first | exact HB.out | apply below_alloc | apply pw_below_drewN | apply below_drew1) | exact HB.out)) hb); clear HO_8; clear HO_11; clear HB; have HO_8 := n0_; have HO_11 := n1_; have HB := n2_; clear n0_ n1_ n2_; (try clear hb); (try clear hb2); (try clear hk); (try clear hi)))
                      go_ret
                      exact ⟨by first | rfl | (simp [errW_none, errW_some] <;> rfl) | (simp [*, errW_none, errW_some] <;> rfl), by repeat (first | (with_reducible first | exact HB.out | apply below_alloc | apply pw_below_drewN | apply below_drew1) | exact HB.out)⟩
          · replace c30 := Bool.eq_false_iff.mpr c30
            subst c30
            have H1 : (some false) = some r := by rw [if_neg (show ¬ (false = true) by decide)] at H; exact H
            clear H
            have H := H1
            clear H1
            obtain rfl := Option.some.inj H
            go_wp2_with (first | ((with_reducible refine gate_callee (f := 23) rfl ?_); refine goesL_ (some 51) rfl rfl Try.func23 (by kernel_rfl) rfl #[.slice A2 l2.length c2] rfl (by (try simp only [List.map_toArray, List.map_cons, List.map_nil]); first | done | rfl | (simp only [List.length_drop, List.length_take]; rfl)) ?_; (with_reducible refine (laws_toTermS.calls kj10 _ _ l2 t193 _ ?side1 ?side2 A28.out).mono ?_); (case side1 => repeat (first | exact (Kd.C_below HR2.out HB.out) | (with_reducible refine Kd.C_alloc ?_ _) | (with_reducible refine Kd.C_drewN ?_ _) | (with_reducible refine Kd.C_drew ?_))); (case side2 => exact HC2.out); rintro e w81 ⟨v194, rfl, ho0, hb⟩; refine ⟨_, rfl, ?_⟩; have n0_ := Aside0.mk (Kd.R_elder' (by (with_reducible repeat (first | apply Kd.R_alloc | apply Kd.R_drewN | apply Kd.R_drew)); exact HO_8.out) (Kd.R_base ho0) hb); have n1_ := Aside0.mk (Kd.R_elder' (by (with_reducible repeat (first | apply Kd.R_alloc | apply Kd.R_drewN | apply Kd.R_drew)); exact HO_10.out) (Kd.R_base ho0) hb); have n2_ := Aside0.mk (Kd.R_elder' (by (with_reducible repeat (first | apply Kd.R_alloc | apply Kd.R_drewN | apply Kd.R_drew)); exact HO_11.out) (Kd.R_base ho0) hb); have n3_ := Aside0.mk (Kd.R_lower (Kd.R_new' (Kd.R_new' (Kd.R_new' ho0 (Kd.R_lt (by (with_reducible repeat (first | apply Kd.R_alloc | apply Kd.R_drewN | apply Kd.R_drew)); exact HO_8.out))) (Kd.R_lt (by (with_reducible repeat (first | apply Kd.R_alloc | apply Kd.R_drewN | apply Kd.R_drew)); exact HO_10.out))) (Kd.R_lt (by (with_reducible repeat (first | apply Kd.R_alloc | apply Kd.R_drewN | apply Kd.R_drew)); exact HO_11.out))) (below_size (by repeat (first | (with_reducible first | exact HB.out | apply below_alloc | apply pw_below_drewN | apply below_drew1) | exact HB.out)))); have n4_ := Aside0.mk (below_step (by repeat (first | (with_reducible first | exact HB.out | apply below_alloc | apply pw_below_drewN | apply below_drew1) | exact HB.out)) hb); clear HO_8; clear HO_10; clear HO_11; clear HB; have HO_8 := n0_; have HO_10 := n1_; have HO_11 := n2_; have HO195 := n3_; have HB := n4_; clear n0_ n1_ n2_ n3_ n4_; (try clear hb); (try clear hb2); (try clear hk); (try clear hi); (try clear ho0); obtain ⟨Ao82, co82, eo82⟩ := Kd.R_slice HO195.out; subst eo82) | ((with_reducible refine gate_callee (f := 25) rfl ?_); refine goesL_ (some 52) rfl rfl Try.func25 (by kernel_rfl) rfl #[.slice Ao17 t185.length co17, .slice Ao82 t193.length co82] rfl (by (try simp only [List.map_toArray, List.map_cons, List.map_nil]); first | done | rfl | (simp only [List.length_drop, List.length_take]; rfl)) ?_; (with_reducible refine (laws_eqTermS.calls kj10 _ _ t185 _ _ t193 false _ ?side1 ?side2 ?side3 ?side4 A29.out).mono ?_); (case side1 => repeat (first | exact (Kd.R_reads' HO_10.out).2.2 | (with_reducible refine Kd.C_alloc ?_ _) | (with_reducible refine Kd.C_drewN ?_ _) | (with_reducible refine Kd.C_drew ?_))); (case side2 => exact (Kd.R_reads' HO_10.out).2.1); (case side3 => repeat (first | exact (Kd.R_reads' HO195.out).2.2 | (with_reducible refine Kd.C_alloc ?_ _) | (with_reducible refine Kd.C_drewN ?_ _) | (with_reducible refine Kd.C_drew ?_))); (case side4 => exact (Kd.R_reads' HO195.out).2.1); rintro e w83 ⟨rfl, hb⟩; refine ⟨_, rfl, ?_⟩; have n0_ := Aside0.mk (Kd.R_below (by (with_reducible repeat (first | apply Kd.R_alloc | apply Kd.R_drewN | apply Kd.R_drew)); exact HO_8.out) hb); have n1_ := Aside0.mk (Kd.R_below (by (with_reducible repeat (first | apply Kd.R_alloc | apply Kd.R_drewN | apply Kd.R_drew)); exact HO_10.out) hb); have n2_ := Aside0.mk (Kd.R_below (by (with_reducible repeat (first | apply Kd.R_alloc | apply Kd.R_drewN | apply Kd.R_drew)); exact HO_11.out) hb); have n3_ := Aside0.mk (Kd.R_below (by (with_reducible repeat (first | apply Kd.R_alloc | apply Kd.R_drewN | apply Kd.R_drew)); exact HO195.out) hb); have n4_ := Aside0.mk (below_step (by repeat (first | (with_reducible first | exact HB.out | apply below_alloc | apply pw_below_drewN | apply below_drew1) | exact HB.out)) hb); clear HO_8; clear HO_10; clear HO_11; clear HO195; clear HB; have HO_8 := n0_; have HO_10 := n1_; have HO_11 := n2_; have HO195 := n3_; have HB := n4_; clear n0_ n1_ n2_ n3_ n4_; (try clear hb); (try clear hb2); (try clear hk); (try clear hi)))
            go_ret
            exact ⟨by first | rfl | (simp [errW_none, errW_some] <;> rfl) | (simp [*, errW_none, errW_some] <;> rfl), by repeat (first | (with_reducible first | exact HB.out | apply below_alloc | apply pw_below_drewN | apply below_drew1) | exact HB.out)⟩
end Go.Proofs.Ytaiefdhenikiiaa.Base
namespace Go.Proofs.Ytaiefdhenikiiaa.PFnExactInverseCoordinates
open Go.RowKit Go.Proofs.YtaiefdhenikiiaaW.PrintWords Go.Proofs.YtaiefdhenikiiaaO Go.Proofs.Ytaiefdhenikiiaa.Base
set_option linter.unusedVariables false
/-- What is known of such a value that came in. -/
def ok73 (x : S73) : Prop := (Lit.int .i64 x.f0).wf = true ∧ (Lit.int .i64 x.f1).wf = true
theorem opens73 : Opens Try.prog 73 k73 ok73 := opens_iso (fun x : S73 => (x.f0, x.f1)) (fun p => ⟨p.1, p.2⟩) (fun _ => rfl) (opens_two Try.underlying73 rfl rfl (by kernel_rfl) (opens_int Try.underlying2 (by kernel_rfl)) (opens_int Try.underlying2 (by kernel_rfl)))
/-- What is known of such a value that came in. -/
def ok75 (x : S75) : Prop := x.f0.size ≤ 9223372036854775807 ∧ ok73 x.f1
theorem opens75 : Opens Try.prog 75 k75 ok75 := opens_iso (fun x : S75 => (x.f0, x.f1)) (fun p => ⟨p.1, p.2⟩) (fun _ => rfl) (opens_two Try.underlying75 rfl rfl (by kernel_rfl) (opens_string Try.underlying9 (by kernel_rfl)) opens73)
def laws_FnExactInverseCoordinates.Pure : Prop := ∀ (a0 : Int) (a1 : Int) (l2 : List (S75)), (Lit.int .i64 a0).wf = true → (Lit.int .i64 a1).wf = true → (l2.length ≤ 9223372036854775807 ∧ ∀ a_ ∈ l2, ok75 a_) → ∃ k, laws_FnExactInverseCoordinates.f k a0 a1 l2 = some true
end Go.Proofs.Ytaiefdhenikiiaa.PFnExactInverseCoordinates
namespace Go.Proofs.Ytaiefdhenikiiaa.Pure
open Go.RowKit Go.Proofs.Ytaiefdhenikiiaa.Base Go.Proofs.Ytaiefdhenikiiaa.PFnExactInverseCoordinates Go.Proofs.YtaiefdhenikiiaaW.PrintWords Go.Proofs.YtaiefdhenikiiaaW.PrintLast
set_option linter.unusedSimpArgs false
set_option linter.unusedVariables false
theorem FnExactInverseCoordinates : laws_FnExactInverseCoordinates.Pure := by
  intro D N l _ _ hl
  obtain ⟨hn, hok⟩ := hl
  obtain ⟨v, hv, hsz⟩ := sz_is l hn (fun x hx => (hok x hx).1) 1048576 (by omega) (by omega)
  by_cases c : v < 0
  · refine Ev.rounds (r := true) ?_
    unfold laws_FnExactInverseCoordinates.f
    refine Ev.bind hv ?_
    simp only [c, if_true]
    exact Ev.now _
  · obtain ⟨h1, h2⟩ := hsz (by omega)
    have hT := toT_is l (by omega)
    obtain ⟨X, hX⟩ : ∃ X, X = l.map toX := ⟨_, rfl⟩
    rw [← hX] at hT
    have hXl : X.length = l.length := by rw [hX, List.length_map]
    have hXs : smallT X := ⟨by omega, fun x hx => by
      rw [hX] at hx
      obtain ⟨y, hy, rfl⟩ := List.mem_map.1 hx
      exact h2 y hy⟩
    have both : ∃ (R : List S79) (C : Int), R.length ≤ 2000000 ∧ Ev (fun k => impl_InverseCoordinates.f k D N X) (R, C) ∧ Ev (fun k => spec_InverseCoordinates.f k D N X) (R, C) := by
      have hi := co_impl D N X hXs
      have hs := co_spec D N X hXs
      unfold impl_InverseCoordinates.f spec_InverseCoordinates.f
      cases hc : coB D N X with
      | false =>
        rw [hc] at hi hs
        refine ⟨[], 2, by simp, Ev.bind hi ?_, Ev.bind hs ?_⟩ <;> simp only [Bool.false_eq_true, if_false] <;> exact Ev.now _
      | true =>
        rw [hc] at hi hs
        refine ⟨X.map negX, 0, by rw [List.length_map]; omega, Ev.bind hi ?_, Ev.bind hs ?_⟩
        · simp only [if_true]
          unfold impl_Term_79.f
          simp only [show X.length < 4398046511104 by omega, if_true, Option.bind_some]
          exact Ev.now _
        · simp only [if_true, show X.length < 4398046511104 by omega]
          exact Ev.now _
    obtain ⟨R, C, hR, hI, hS⟩ := both
    have eR := eqT_same R hR
    have eX := eqT_same X (by omega)
    obtain ⟨X', hXl', mX, _⟩ := marksT X (by omega)
    obtain ⟨R', hRl', mR, dR⟩ := marksT R hR
    refine Ev.rounds (r := true) ?_
    unfold laws_FnExactInverseCoordinates.f
    refine Ev.bind hv ?_
    simp only [c, if_false]
    refine Ev.bind hT (Ev.bind hS (Ev.bind hT (Ev.bind hI (Ev.bind eR ?_))))
    simp only [if_true, bne_self_eq_false]
    have j2 : Ev (fun k => laws_FnExactInverseCoordinates.j2 k R' ((1 + 3 * R.length : Nat) : Int) false) true := by
      refine Ev.step (f := fun k => (laws_heldTermS.f k R' 1).bind fun t => if t < 0 then some false else if t = ((1 + 3 * R.length : Nat) : Int) then some true else some false) (fun k => ?_) (Ev.bind dR ?_)
      · simp only [laws_FnExactInverseCoordinates.j2, Bool.false_eq_true, if_false]
      · simp only [show ¬ ((1 + 3 * R.length : Nat) : Int) < 0 by omega, if_false, if_true]
        exact Ev.now _
    have j1 : Ev (fun k => laws_FnExactInverseCoordinates.j1 k D N l R C R false) true := by
      refine Ev.step (f := fun k => (laws_markTermS.f k R 1).bind fun b => (laws_heldTermS.f k b.2 1).bind fun t => if t < 0 then some false else if t = b.1 then (laws_toTermS.f k l).bind fun t => (impl_InverseCoordinates.f k D N t).bind fun q => (laws_eqTermS.f k q.1 R).bind fun t => if t = true then laws_FnExactInverseCoordinates.j2 k b.2 b.1 (q.2 != C) else laws_FnExactInverseCoordinates.j2 k b.2 b.1 true else some false) (fun k => ?_) (Ev.bind mR (Ev.bind dR ?_))
      · simp only [laws_FnExactInverseCoordinates.j1, Bool.false_eq_true, if_false]
      · simp only [show ¬ ((1 + 3 * R.length : Nat) : Int) < 0 by omega, if_false, if_true]
        refine Ev.bind hT (Ev.bind hI (Ev.bind eR ?_))
        simp only [if_true, bne_self_eq_false]
        exact j2
    refine Ev.step (f := fun k => (laws_toTermS.f k l).bind fun t => (laws_eqTermS.f k X t).bind fun t => if t = true then (laws_markTermS.f k X 1).bind fun b => (if b.1 < 0 then laws_FnExactInverseCoordinates.j1 k D N l R C R true else (laws_eqTermS.f k R R).bind fun t => if t = true then laws_FnExactInverseCoordinates.j1 k D N l R C R (C != C) else laws_FnExactInverseCoordinates.j1 k D N l R C R true) else some false) (fun k => ?_) (Ev.bind hT (Ev.bind eX ?_))
    · simp only [laws_FnExactInverseCoordinates.j0, Bool.false_eq_true, if_false]
    · simp only [if_true]
      refine Ev.bind mX ?_
      simp only [show ¬ ((1 + 3 * X.length : Nat) : Int) < 0 by omega, if_false]
      refine Ev.bind eR ?_
      simp only [if_true, bne_self_eq_false]
      exact j1
end Go.Proofs.Ytaiefdhenikiiaa.Pure
