/- Texts that the proof of FnExactAreSignaturesEqual needs, part 11. No condition. -/
import Derived.Test.YtaiefdhenikiiaaMFnExactAreSignaturesEqual10
namespace Go.Proofs.Ytaiefdhenikiiaa.Base
open Go.RowKit Go.Proofs.YtaiefdhenikiiaaW.PrintWords Go.Proofs.YtaiefdhenikiiaaW.PrintLast Go.Proofs.YtaiefdhenikiiaaW.PrintMore
attribute [local go_sem] max2_int max_two
set_option linter.unusedVariables false
set_option linter.unusedSimpArgs false
abbrev FracsR (W : World) (base : Nat) (v : Value) (l : List S77) : Prop := Kd.R k77 77 W base (fun _ => True) v l
def expL (i : Nat) : List S77 := (List.range i).map expF
theorem expL_succ (i : Nat) : expL (i + 1) = expL i ++ [expF i] := by unfold expL; rw [List.range_succ, List.map_append]; rfl
theorem expL_len (i : Nat) : (expL i).length = i := by unfold expL; simp
theorem expL_at (m k : Nat) (h : k < (expL m).length) : (expL m)[k] = expF k := by simp only [expL, List.getElem_map, List.getElem_range]
def facB (i : Nat) : Nat := if i = 0 then 1 else factN (i - 1)
set_option maxHeartbeats 32000000 in
set_option maxRecDepth 100000 in
theorem expSp (w : World) (d n : Nat) (hs : Sz d n) {t : Tb} (ht : Like t (zeroT d n)) (hbt : t.bad = false) {A : Option Addr} {ca : Nat} (hA : TmsC w A ca (termsT t)) :
    Calls Try.prog 102 #[.agg #[.int .i64 (d : Int), .int .i64 (n : Int), .slice A (termsT t).length ca]] w (OutR w d n (outT (expT t (zeroT d n)))) := by
  have hu2 := Try.underlying38
  have hu3 := Try.underlying77
  have HSM := Aside0.mk (show ∀ W B cb, TmsC W A ca (termsT t) → Kd.C k77 W B (expL (n + 1)).length (expL (n + 1)) → Calls Try.prog 169 #[.agg #[.int .i64 (d : Int), .int .i64 (n : Int), .slice A (termsT t).length ca], .slice B (expL (n + 1)).length cb] W (OutR W d n (outT (expT t (zeroT d n)))) from fun W B cb h1 h2 => by
    refine sumSp W d n hs ht hbt h1 h2 0 expF (Nat.zero_le _) (expL_len _) (fun k h => ?_) (fun k hk _ => ⟨expF_ok k (by have := hs.n8; omega), by show (1 : Int) ≠ 0; decide⟩)
    rw [if_pos (Nat.zero_le _)]; exact expL_at _ _ h)
  have H8 := Aside0.mk hs.n8
  generalize outT (expT t (zeroT d n)) = R at HSM ⊢
  generalize termsT t = lt at hA HSM ⊢
  have HA := Aside0.mk hA
  clear hA hs ht hbt
  go_enter Try.func102, Try.ntmps102
  go_wp2_with ((with_reducible refine gate_dst (N := 9) rfl ?_); refine Kd.R_lit k77 _ 77 ?hg (N := 9) ?hd (xs := ([] : List S77)) (inner := []) (ok := fun _ => True) (okp := fun _ => True) ?hr ?hp (fun _ hk => hk) trivial (Below.refl _ _) (Nat.le_refl _) (by simp) ?_; (case hd => rfl); (case hg => rfl); (case hr => first | (go_simp; done) | (go_simp; rfl)); (case hp => exact (Reps.none _ _)); intro v3 w3 ho hb hg hnew; clear hg hnew; have HX3 := Aside0.mk (show SrAt w3 w.heap.size d n (.slice A lt.length ca) from blk_below (old_at (new_at rfl)) hb); have HR3 := Aside0.mk (show SrAt w3 (w.heap.size + 1) 0 0 (.slice none 0 0) from blk_below (new_at (by simp)) hb); have HB3 := Aside0.mk (show Below w.heap.size w w3 from below_step (below_alloc (below_alloc (Below.refl _ _) _) _) hb); have HV3 := Aside0.mk (show FracsR w3 w.heap.size v3 [] from Kd.R_lower ho (below_size (below_alloc (below_alloc (Below.refl w.heap.size w) _) _))); clear ho hb)
  go_loopg [4, 5, 6] (n + 1) (fun gg v4 v5 v6 wr => ∃ (i : Nat) (vs : Value), i ≤ n + 1 ∧ n + 1 - i ≤ gg ∧ v4 = vs ∧ v5 = .int .i64 (facB i : Int) ∧ v6 = .int .i64 i ∧ Aside0 (FracsR wr w.heap.size vs (expL i)) ∧ Aside0 (SrAt wr w.heap.size d n (.slice A lt.length ca)) ∧ Aside0 (SrAt wr (w.heap.size + 1) 0 0 (.slice none 0 0)) ∧ Aside0 (Below w.heap.size w wr))
  case atStart => exact ⟨0, _, Nat.zero_le _, by omega, rfl, rfl, rfl, HV3, HX3, HR3, HB3⟩
  case round =>
    clear HV3 HX3 HR3 HB3
    obtain ⟨i, vs, hi, hg, he4, rfl, rfl, HV, HX, HR, HB⟩ := hrel
    have he4' := he4.symm
    subst he4'
    have z1 := HX.out.c1
    by_cases hlt : i ≤ n
    · have hltz : (i : Int) ≤ (n : Int) := by omega
      have h8 : i ≤ 8 := by have := H8.out; omega
      obtain ⟨f, hf⟩ : ∃ f : Int, f = (facB i : Int) := ⟨_, rfl⟩
      obtain ⟨g, hgf⟩ : ∃ g : Int, g = (factN i : Int) := ⟨_, rfl⟩
      have hmul : wrap64 (f * (if (i : Int) < 1 then 1 else (i : Int))) = g := by
        have hfl := factN_le i h8
        have e : (facB i : Int) * (if (i : Int) < 1 then 1 else (i : Int)) = (factN i : Int) := by
          cases i with
          | zero => rfl
          | succ j =>
            rw [if_neg (by omega)]
            show ((factN j : Nat) : Int) * (((j + 1 : Nat)) : Int) = ((factN j * (j + 1) : Nat) : Int)
            rw [Int.natCast_mul]
        rw [hf, hgf, e, w64 (by omega) (by omega)]
      have hmul2 : IntKind.i64.wrap (f * (if (i : Int) < 1 then 1 else (i : Int))) = g := by rw [i64_w]; exact hmul
      have HGE := Aside0.mk (show (⟨1, g⟩ : S77) = expF i from by rw [hgf]; rfl)
      have HFB := Aside0.mk (show g = (facB (i + 1) : Int) from by rw [hgf]; unfold facB; rw [if_neg (by omega)]; rfl)
      rw [← hf]
      clear hf hgf
      go_wp2_with ((with_reducible refine gate_builtin (b := .append) (xs := #[.tmp 20, .tmp 23]) rfl ?_); at_builtin; refine Kd.R_append k77 (w0 := w) w.heap.size rfl (.tmp 20) (.tmp 23) 124 77 (.agg #[(.int .i64 0), (.int .i64 0)]) 16 rfl Try.underlying124 info77 rfl (by decide) (by omega) vs (expL i) ⟨1, g⟩ [.int .i64 1, .int .i64 g] (fun _ => True) (fun _ => False) rfl rfl ?aP (fun _ hk => hk.elim) ?aF ?aO ?aB ?aS ?aL ?_; (case aP => exact k77_mkM _ _ _ ⟨1, g⟩); (case aB => exact HB.out); (case aF => exact (fun _ _ => trivial)); (case aO => exact HV.out); (case aS => exact (below_size HB.out)); (case aL => have := H8.out; rw [expL_len]; omega); intro v7 w7 ho hb hg hat; have HX7 := Aside0.mk (HX.out.grown hg (Kd.R_ne HV.out HX.out (by decide))); have HR7 := Aside0.mk (HR.out.grown hg (Kd.R_ne HV.out HR.out (by decide))); have HB7 := Aside0.mk hb; have HV7 := Aside0.mk ho; clear ho hb hg hat)
      all_goals
        go_roundg (n + 1 - (i + 1))
        case measure => omega
        case rel =>
          refine ⟨i + 1, _, by omega, by omega, rfl, by rw [HFB.out], by have := H8.out; first | rfl | (rw [w64 (by omega) (by omega)]; rfl), ⟨?_⟩, HX7, HR7, HB7⟩
          rw [expL_succ, ← HGE.out]; exact HV7.out
    · have hltz : ¬ (i : Int) ≤ (n : Int) := by omega
      obtain rfl : i = n + 1 := by omega
      obtain ⟨Av, cv, rfl⟩ := Kd.R_slice HV.out
      have p0 := HX.out.c0
      have p2 := HX.out.c2
      have HRC := Aside0.mk (Kd.R_reads' HV.out).2.2
      have HAW := Aside0.mk (HA.out.below HB.out)
      go_wp2_with (go_at_call 169; refine (HSM.out _ _ _ HAW.out HRC.out).mono ?_; rintro e w8 h8; obtain ⟨D, N, Ax, cx, lr, ok, rfl, ho, hv, hb⟩ := h8.val; have HOX := Aside0.mk ho; have HVX := Aside0.mk (show TermsR w8 w.heap.size (.slice Ax lr.length cx) lr from Kd.R_lower hv HB.out.size); have HBX := Aside0.mk (below_step HB.out hb); have SR := HR.out.below hb; have x0 : (w8.alloc (.cells #[.int .i64 D, .int .i64 N, .slice Ax lr.length cx] 38)).cell? ⟨w.heap.size + 1, 0, none⟩ = some (.int .i64 0) := (SrAt.alloc SR _).c0; have f0 : (w8.alloc (.cells #[.int .i64 D, .int .i64 N, .slice Ax lr.length cx] 38)).frozen? ⟨w.heap.size + 1, 0, none⟩ = false := blk_frozen (SrAt.alloc SR (.cells #[.int .i64 D, .int .i64 N, .slice Ax lr.length cx] 38)) 0; have x1 : (w8.alloc (.cells #[.int .i64 D, .int .i64 N, .slice Ax lr.length cx] 38)).cell? ⟨w.heap.size + 1, 1, none⟩ = some (.int .i64 0) := (SrAt.alloc SR _).c1; have f1 : (w8.alloc (.cells #[.int .i64 D, .int .i64 N, .slice Ax lr.length cx] 38)).frozen? ⟨w.heap.size + 1, 1, none⟩ = false := blk_frozen (SrAt.alloc SR (.cells #[.int .i64 D, .int .i64 N, .slice Ax lr.length cx] 38)) 1; have x2 : (w8.alloc (.cells #[.int .i64 D, .int .i64 N, .slice Ax lr.length cx] 38)).cell? ⟨w.heap.size + 1, 2, none⟩ = some (.slice none 0 0) := (SrAt.alloc SR _).c2; have f2 : (w8.alloc (.cells #[.int .i64 D, .int .i64 N, .slice Ax lr.length cx] 38)).frozen? ⟨w.heap.size + 1, 2, none⟩ = false := blk_frozen (SrAt.alloc SR (.cells #[.int .i64 D, .int .i64 N, .slice Ax lr.length cx] 38)) 2; have HSRX := Aside0.mk SR; clear SR h8 ho hv hb)
      refine bodyPost_ret (results_ct rfl _ _ (w.heap.size + 1) 38 _ (0, 0) _ rfl (blk_set (blk_set (blk_set (HSRX.out.alloc _) 0 _) 1 _) 2 _) hu2 rfl (by kernel_rfl)) rfl ?_
      refine OutR.of HOX.out ?_ (((below_alloc HBX.out _).setCell (Nat.le_add_right _ 1) _).setCell (Nat.le_add_right _ 1) _ |>.setCell (Nat.le_add_right _ 1) _)
      exact R_box3 (Kd.R_alloc HVX.out _) (HSRX.out.alloc _) _ _ _
end Go.Proofs.Ytaiefdhenikiiaa.Base
namespace Go.Proofs.Ytaiefdhenikiiaa.Base
open Go.RowKit Go.Proofs.YtaiefdhenikiiaaW.PrintWords Go.Proofs.YtaiefdhenikiiaaW.PrintLast Go.Proofs.YtaiefdhenikiiaaW.PrintMore
set_option linter.unusedVariables false
set_option linter.unusedSimpArgs false
/-- The exponential of a step. -/
theorem stepExp (d n : Nat) (hs : Sz d n) (hn : 1 ≤ n) (row : List Int) (ho : okRow row) : ∀ W A c, TmsC W A c (termsT (stepT d n row)) → Calls Try.prog 102 #[.agg #[.int .i64 (d : Int), .int .i64 (n : Int), .slice A (termsT (stepT d n row)).length c]] W (OutR W d n (outT (stepSigT d n row))) := fun W A c h => expSp W d n hs (stepT_like hs ho) (stepN_good d n row row.length) h
set_option maxHeartbeats 32000000 in
set_option maxRecDepth 100000 in
theorem sigSp (w : World) (d n : Nat) (hs : Sz d n) (hn : 1 ≤ n) {A : Option Addr} {ca : Nat} {path : List (List Int)} (hA : Kd.C (Kd.slice 2 (Kd.int .i64)) w A path.length path) (hp : path.length ≤ 1000000) (hl : ∀ r ∈ path, r.length = d ∧ okRow r) :
    Calls Try.prog 115 #[.int .i64 (d : Int), .int .i64 (n : Int), .slice A path.length ca] w (OutR w d n (outT (sigT d n path))) := by
  have hu2 := Try.underlying38
  have hu3 := Try.underlying79
  have HA := Aside0.mk hA
  have HS := Aside0.mk hs
  have HL := Aside0.mk hl
  have HP := Aside0.mk hp
  have HN1 := Aside0.mk hn
  obtain ⟨R, hR⟩ : ∃ R, R = outT (sigT d n path) := ⟨_, rfl⟩
  rw [← hR]
  have HBad := Aside0.mk (show ∀ i, (sigT d n (path.take i)).bad = true → R = none from fun i h => by rw [hR]; exact outT_bad (sigT_bad i h))
  have HOwn := Aside0.mk (show ∀ i (h : i < path.length), (stepSigT d n path[i]).bad = true → R = none from fun i h hb => by rw [hR]; exact outT_bad (sigT_own h hb))
  have HEnd := Aside0.mk (show (sigT d n path).bad = false → R = some (termsT (sigT d n path)) from fun h => by rw [hR]; exact outT_good h)
  clear hA hs hl hR hp hn
  go_enter Try.func115, Try.ntmps115
  go_wp2_with (go_at_call 132; refine (unitS _ HS.out (nil_tms _)).mono ?_; rintro e w1 ⟨A1, c1, rfl, hv, hb⟩; have HB1 := Aside0.mk (show Below w.heap.size w w1 from below_step (below_alloc (Below.refl _ _) _) hb); have HSR := Aside0.mk (show SrAt w1 w.heap.size 0 0 (.slice none 0 0) from blk_below (new_at rfl) hb); have HV1 := Aside0.mk (show TermsR w1 w.heap.size (.slice A1 (termsT (unitT d n)).length c1) (termsT (unitT d n)) from Kd.R_lower hv (below_size (below_alloc (Below.refl w.heap.size w) _))); clear hv hb)
  generalize hW : World.alloc w1 _ = W1
  have HS6 := Aside0.mk (show SrAt W1 w1.heap.size d n (.slice A1 (termsT (sigT d n (path.take 0))).length c1) from by rw [← hW, List.take_zero]; exact new_at rfl)
  have HV6 := Aside0.mk (show TermsR W1 w.heap.size (.slice A1 (termsT (sigT d n (path.take 0))).length c1) (termsT (sigT d n (path.take 0))) from by rw [← hW, List.take_zero]; exact Kd.R_alloc HV1.out _)
  have HSR1 := Aside0.mk (show SrAt W1 w.heap.size 0 0 (.slice none 0 0) from by rw [← hW]; exact HSR.out.alloc _)
  have HB2 := Aside0.mk (show Below w.heap.size w W1 from by rw [← hW]; exact below_alloc HB1.out _)
  have HLO := Aside0.mk (show w.heap.size < w1.heap.size from HSR.out.lt)
  have HG0 := Aside0.mk (show (sigT d n (path.take 0)).bad = false from by rw [List.take_zero]; rfl)
  obtain ⟨b6, hb6⟩ : ∃ b, b = w1.heap.size := ⟨_, rfl⟩
  rw [← hb6] at HS6 HLO ⊢
  clear hW HV1 HSR HB1 hb6
  go_loopg [9] path.length (fun gg v9 wr => ∃ (i : Nat) (A6 : Option Addr) (c6 : Nat), i ≤ path.length ∧ path.length - i ≤ gg ∧ v9 = .int .i64 i ∧ Aside0 ((sigT d n (path.take i)).bad = false) ∧ Aside0 (SrAt wr b6 d n (.slice A6 (termsT (sigT d n (path.take i))).length c6)) ∧ Aside0 (TermsR wr w.heap.size (.slice A6 (termsT (sigT d n (path.take i))).length c6) (termsT (sigT d n (path.take i)))) ∧ Aside0 (SrAt wr w.heap.size 0 0 (.slice none 0 0)) ∧ Aside0 (Below w.heap.size w wr))
  case atStart => exact ⟨0, A1, c1, Nat.zero_le _, by omega, rfl, HG0, HS6, HV6, HSR1, HB2⟩
  case round =>
    clear HS6 HV6 HSR1 HB2 HG0
    obtain ⟨i, A6, c6, hi, hg, rfl, HG, HS6, HV6, HSR, HB⟩ := hrel
    by_cases hlt : i < path.length
    · have hltz : (i : Int) < (path.length : Int) := by omega
      obtain ⟨ad, A0, c0, rfl, x0, hc0, hK⟩ := rows_at (Kd.C_below HA.out HB.out) i hlt
      have e1 : path.getD i [] = path[i] := by rw [List.getD_eq_getElem?_getD, List.getElem?_eq_getElem hlt, Option.getD_some]
      obtain ⟨row, hrow⟩ : ∃ row, row = path[i] := ⟨_, rfl⟩
      rw [e1, ← hrow] at x0 hK hc0
      have hm : row ∈ path := by rw [hrow]; exact List.getElem_mem hlt
      obtain ⟨hm1, hm2⟩ := HL.out row hm
      have HST := Aside0.mk (show ∀ W, Below wr.heap.size wr W → Calls Try.prog 103 #[.int .i64 (d : Int), .int .i64 (n : Int), .slice A0 row.length c0] W fun e w' => ∃ v : Value, e = .returned (.agg #[.int .i64 (d : Int), .int .i64 (n : Int), v]) ∧ TermsR w' W.heap.size v (termsT (stepT d n row)) ∧ Below W.heap.size W w' from fun W hW => stepSp W d n HS.out HN1.out hm1 (Kd.C_below hK hW) hc0)
      have hEX := stepExp d n HS.out HN1.out row hm2
      have HSL := Aside0.mk (terms_len (stepT_like HS.out hm2) HS.out)
      obtain ⟨T, hT⟩ : ∃ T, T = sigT d n (path.take i) := ⟨_, rfl⟩
      obtain ⟨U, hU⟩ : ∃ U, U = stepSigT d n row := ⟨_, rfl⟩
      have HN := Aside0.mk (show sigT d n (path.take (i + 1)) = timesT T U from by rw [sigT_succ d n path hlt, ← hrow, hT, hU])
      have HTL := Aside0.mk (show Like T (zeroT d n) from by rw [hT]; exact sigT_like HS.out _)
      have HUL := Aside0.mk (show Like U (zeroT d n) from by rw [hU]; exact stepSigT_like HS.out _)
      have HOB := Aside0.mk (show U.bad = true → R = none from fun h => HOwn.out i hlt (by rw [← hrow, ← hU]; exact h))
      rw [← hT] at HG HS6 HV6
      rw [← hU] at hEX
      obtain ⟨ls, hls⟩ : ∃ ls, ls = termsT (stepT d n row) := ⟨_, rfl⟩
      rw [← hls] at HST hEX HSL
      clear hrow hm hm1 hm2 e1 hT hU hls hK hc0
      have y0 := HSL.out
      by_cases hub : U.bad = true
      · have HRN := Aside0.mk (HOB.out hub)
        rw [outT_bad hub] at hEX
        have HEX := Aside0.mk hEX
        clear hEX hub y0
        go_wp2_with (first
          | (go_at_call 103; refine (HST.out _ (Below.refl _ _)).mono ?_; rintro e w3 ⟨v, rfl, hv, hb⟩; obtain ⟨A3, c3, rfl⟩ := Kd.R_slice hv; have HB3 := Aside0.mk (show Below wr.heap.size wr w3 from hb); have HT3 := Aside0.mk (TmsC.of hv (by have := HSL.out; omega)).1; clear hv hb)
          | (go_at_call 102; refine (HEX.out _ _ _ HT3.out).mono ?_; rintro e w4 ⟨v, rfl, hv, hb⟩; obtain ⟨A4, c4, rfl⟩ := Kd.R_slice hv; have HB4 := Aside0.mk (show Below w.heap.size w w4 from below_step (below_step HB.out HB3.out) hb); have SR := (HSR.out.below HB3.out).below hb; have s0 : (w4.alloc (.cells #[.int .i64 0, .int .i64 0, .slice A4 0 c4] 38)).cell? ⟨w.heap.size, 0, none⟩ = some (.int .i64 0) := SrAt.c0 (SrAt.alloc SR _); have sf0 : (w4.alloc (.cells #[.int .i64 0, .int .i64 0, .slice A4 0 c4] 38)).frozen? ⟨w.heap.size, 0, none⟩ = false := blk_frozen (SrAt.alloc SR _) 0; have s1 : (w4.alloc (.cells #[.int .i64 0, .int .i64 0, .slice A4 0 c4] 38)).cell? ⟨w.heap.size, 1, none⟩ = some (.int .i64 0) := SrAt.c1 (SrAt.alloc SR _); have sf1 : (w4.alloc (.cells #[.int .i64 0, .int .i64 0, .slice A4 0 c4] 38)).frozen? ⟨w.heap.size, 1, none⟩ = false := blk_frozen (SrAt.alloc SR _) 1; have s2 : (w4.alloc (.cells #[.int .i64 0, .int .i64 0, .slice A4 0 c4] 38)).cell? ⟨w.heap.size, 2, none⟩ = some (.slice none 0 0) := SrAt.c2 (SrAt.alloc SR _); have sf2 : (w4.alloc (.cells #[.int .i64 0, .int .i64 0, .slice A4 0 c4] 38)).frozen? ⟨w.heap.size, 2, none⟩ = false := blk_frozen (SrAt.alloc SR _) 2; have HSR4 := Aside0.mk SR; clear SR hv hb))
        refine bodyPost_ret (results_ct rfl _ _ w.heap.size 38 _ (0, 0) _ rfl (blk_set (blk_set (blk_set (HSR4.out.alloc _) 0 _) 1 _) 2 _) hu2 rfl (by kernel_rfl)) rfl ?_
        rw [HRN.out]
        exact ⟨_, rfl, Kd.R_nil _ _ _ _ _, below_box3 (below_alloc HB4.out _) (Nat.le_refl _) _ _ _⟩
      · have hug : U.bad = false := by simpa using hub
        rw [outT_good hug] at hEX
        have HEX := Aside0.mk hEX
        have hTI : ∀ W B c C e, TmsC W B c (termsT T) → TmsC W C e (termsT U) → Calls Try.prog 133 #[.agg #[.int .i64 (d : Int), .int .i64 (n : Int), .slice B (termsT T).length c], .agg #[.int .i64 (d : Int), .int .i64 (n : Int), .slice C (termsT U).length e]] W (OutR W d n (outT (timesT T U))) := fun W B c C e h1 h2 => timesS W d n HS.out HTL.out HUL.out HG.out hug h1 h2
        have HT6 := Aside0.mk (show TmsC wr A6 c6 (termsT T) from (TmsC.of HV6.out (by have := terms_len HTL.out HS.out; omega)).1)
        have HTLL := Aside0.mk (terms_len HTL.out HS.out)
        have HULL := Aside0.mk (terms_len HUL.out HS.out)
        by_cases hpb : (timesT T U).bad = true
        · have HRN := Aside0.mk (HBad.out (i + 1) (by rw [HN.out]; exact hpb))
          rw [outT_bad hpb] at hTI
          have HTI := Aside0.mk hTI
          clear hTI hEX hub hug hpb y0
          generalize termsT T = lt at HTI HT6 HS6 HV6 HTLL
          generalize termsT U = lu at HTI HEX HULL
          go_wp2_with (first
            | (go_at_call 103; refine (HST.out _ (Below.refl _ _)).mono ?_; rintro e w3 ⟨v, rfl, hv, hb⟩; obtain ⟨A3, c3, rfl⟩ := Kd.R_slice hv; have HB3 := Aside0.mk (show Below wr.heap.size wr w3 from hb); have HT3 := Aside0.mk (TmsC.of hv (by have := HSL.out; omega)).1; clear hv hb)
            | (go_at_call 102; refine (HEX.out _ _ _ HT3.out).mono ?_; rintro e w4 ⟨v, rfl, hv, hb⟩; obtain ⟨A4, c4, rfl⟩ := Kd.R_slice hv; have HB4 := Aside0.mk (show Below wr.heap.size wr w4 from below_step HB3.out hb); have HC4 := Aside0.mk (TmsC.of hv (by have := HULL.out; omega)).1; have S6 := HS6.out.below HB4.out; have q0 : (w4.alloc (.cells #[.int .i64 (d : Int), .int .i64 (n : Int), .slice A4 lu.length c4] 38)).cell? ⟨b6, 0, none⟩ = some (.int .i64 (d : Int)) := SrAt.c0 (SrAt.alloc S6 _); have q1 : (w4.alloc (.cells #[.int .i64 (d : Int), .int .i64 (n : Int), .slice A4 lu.length c4] 38)).cell? ⟨b6, 1, none⟩ = some (.int .i64 (n : Int)) := SrAt.c1 (SrAt.alloc S6 _); have q2 : (w4.alloc (.cells #[.int .i64 (d : Int), .int .i64 (n : Int), .slice A4 lu.length c4] 38)).cell? ⟨b6, 2, none⟩ = some (.slice A6 lt.length c6) := SrAt.c2 (SrAt.alloc S6 _); have HS64 := Aside0.mk S6; clear S6 hv hb)
            | (go_at_call 133; refine (HTI.out _ _ _ _ _ (HT6.out.below (below_alloc HB4.out _)) (HC4.out.below (below_alloc (Below.refl _ _) _))).mono ?_; rintro e w5 ⟨v, rfl, hv, hb⟩; obtain ⟨A5, c5, rfl⟩ := Kd.R_slice hv; have HW5 := Aside0.mk (show Below wr.heap.size wr w5 from below_step (below_alloc HB4.out _) hb); have HB5 := Aside0.mk (show Below w.heap.size w w5 from below_step HB.out HW5.out); clear q0 q1 q2; have SR := HSR.out.below HW5.out; have s0 : (w5.alloc (.cells #[.int .i64 0, .int .i64 0, .slice A5 0 c5] 38)).cell? ⟨w.heap.size, 0, none⟩ = some (.int .i64 0) := SrAt.c0 (SrAt.alloc SR _); have sf0 : (w5.alloc (.cells #[.int .i64 0, .int .i64 0, .slice A5 0 c5] 38)).frozen? ⟨w.heap.size, 0, none⟩ = false := blk_frozen (SrAt.alloc SR _) 0; have s1 : (w5.alloc (.cells #[.int .i64 0, .int .i64 0, .slice A5 0 c5] 38)).cell? ⟨w.heap.size, 1, none⟩ = some (.int .i64 0) := SrAt.c1 (SrAt.alloc SR _); have sf1 : (w5.alloc (.cells #[.int .i64 0, .int .i64 0, .slice A5 0 c5] 38)).frozen? ⟨w.heap.size, 1, none⟩ = false := blk_frozen (SrAt.alloc SR _) 1; have s2 : (w5.alloc (.cells #[.int .i64 0, .int .i64 0, .slice A5 0 c5] 38)).cell? ⟨w.heap.size, 2, none⟩ = some (.slice none 0 0) := SrAt.c2 (SrAt.alloc SR _); have sf2 : (w5.alloc (.cells #[.int .i64 0, .int .i64 0, .slice A5 0 c5] 38)).frozen? ⟨w.heap.size, 2, none⟩ = false := blk_frozen (SrAt.alloc SR _) 2; have HSR5 := Aside0.mk SR; clear SR hv hb))
          refine bodyPost_ret (results_ct rfl _ _ w.heap.size 38 _ (0, 0) _ rfl (blk_set (blk_set (blk_set (HSR5.out.alloc _) 0 _) 1 _) 2 _) hu2 rfl (by kernel_rfl)) rfl ?_
          rw [HRN.out]
          exact ⟨_, rfl, Kd.R_nil _ _ _ _ _, below_box3 (below_alloc HB5.out _) (Nat.le_refl _) _ _ _⟩
        · have hpg : (timesT T U).bad = false := by simpa using hpb
          rw [outT_good hpg] at hTI
          have HTI := Aside0.mk hTI
          have HG2 := Aside0.mk (show (sigT d n (path.take (i + 1))).bad = false from by rw [HN.out]; exact hpg)
          obtain ⟨lp, hlp⟩ : ∃ l, l = termsT (timesT T U) := ⟨_, rfl⟩
          have HNP := Aside0.mk (show termsT (sigT d n (path.take (i + 1))) = lp from by rw [HN.out, hlp])
          rw [← hlp] at HTI
          clear hTI hEX hub hug hpb hpg y0 hlp
          generalize termsT T = lt at HTI HT6 HS6 HV6 HTLL
          generalize termsT U = lu at HTI HEX HULL
          go_wp2_with (first
            | (go_at_call 103; refine (HST.out _ (Below.refl _ _)).mono ?_; rintro e w3 ⟨v, rfl, hv, hb⟩; obtain ⟨A3, c3, rfl⟩ := Kd.R_slice hv; have HB3 := Aside0.mk (show Below wr.heap.size wr w3 from hb); have HT3 := Aside0.mk (TmsC.of hv (by have := HSL.out; omega)).1; clear hv hb)
            | (go_at_call 102; refine (HEX.out _ _ _ HT3.out).mono ?_; rintro e w4 ⟨v, rfl, hv, hb⟩; obtain ⟨A4, c4, rfl⟩ := Kd.R_slice hv; have HB4 := Aside0.mk (show Below wr.heap.size wr w4 from below_step HB3.out hb); have HC4 := Aside0.mk (TmsC.of hv (by have := HULL.out; omega)).1; have S6 := HS6.out.below HB4.out; have q0 : (w4.alloc (.cells #[.int .i64 (d : Int), .int .i64 (n : Int), .slice A4 lu.length c4] 38)).cell? ⟨b6, 0, none⟩ = some (.int .i64 (d : Int)) := SrAt.c0 (SrAt.alloc S6 _); have q1 : (w4.alloc (.cells #[.int .i64 (d : Int), .int .i64 (n : Int), .slice A4 lu.length c4] 38)).cell? ⟨b6, 1, none⟩ = some (.int .i64 (n : Int)) := SrAt.c1 (SrAt.alloc S6 _); have q2 : (w4.alloc (.cells #[.int .i64 (d : Int), .int .i64 (n : Int), .slice A4 lu.length c4] 38)).cell? ⟨b6, 2, none⟩ = some (.slice A6 lt.length c6) := SrAt.c2 (SrAt.alloc S6 _); have HS64 := Aside0.mk S6; clear S6 hv hb)
            | (go_at_call 133; refine (HTI.out _ _ _ _ _ (HT6.out.below (below_alloc HB4.out _)) (HC4.out.below (below_alloc (Below.refl _ _) _))).mono ?_; rintro e w5 ⟨v, rfl, hv, hb⟩; obtain ⟨A5, c5, rfl⟩ := Kd.R_slice hv; have HW5 := Aside0.mk (show Below wr.heap.size wr w5 from below_step (below_alloc HB4.out _) hb); have HB5 := Aside0.mk (show Below w.heap.size w w5 from below_step HB.out HW5.out); clear q0 q1 q2; have SR := HSR.out.below HW5.out; have HSR5 := Aside0.mk SR; have S6 := HS6.out.below HW5.out; have q0 : (w5.alloc (.cells #[.int .i64 (d : Int), .int .i64 (n : Int), .slice A5 lp.length c5] 38)).cell? ⟨b6, 0, none⟩ = some (.int .i64 (d : Int)) := SrAt.c0 (SrAt.alloc S6 _); have qf0 : (w5.alloc (.cells #[.int .i64 (d : Int), .int .i64 (n : Int), .slice A5 lp.length c5] 38)).frozen? ⟨b6, 0, none⟩ = false := blk_frozen (SrAt.alloc S6 _) 0; have q1 : (w5.alloc (.cells #[.int .i64 (d : Int), .int .i64 (n : Int), .slice A5 lp.length c5] 38)).cell? ⟨b6, 1, none⟩ = some (.int .i64 (n : Int)) := SrAt.c1 (SrAt.alloc S6 _); have qf1 : (w5.alloc (.cells #[.int .i64 (d : Int), .int .i64 (n : Int), .slice A5 lp.length c5] 38)).frozen? ⟨b6, 1, none⟩ = false := blk_frozen (SrAt.alloc S6 _) 1; have q2 : (w5.alloc (.cells #[.int .i64 (d : Int), .int .i64 (n : Int), .slice A5 lp.length c5] 38)).cell? ⟨b6, 2, none⟩ = some (.slice A6 lt.length c6) := SrAt.c2 (SrAt.alloc S6 _); have qf2 : (w5.alloc (.cells #[.int .i64 (d : Int), .int .i64 (n : Int), .slice A5 lp.length c5] 38)).frozen? ⟨b6, 2, none⟩ = false := blk_frozen (SrAt.alloc S6 _) 2; have HS65 := Aside0.mk S6; have HV5 := Aside0.mk (show TermsR w5 w.heap.size (.slice A5 lp.length c5) lp from Kd.R_lower hv (Nat.le_trans HB.out.size (below_size (below_alloc HB4.out _)))); clear SR S6 hv hb))
          go_roundg (path.length - (i + 1))
          case measure => omega
          case rel =>
            refine ⟨i + 1, A5, c5, by omega, by omega, by have := HP.out; first | rfl | (rw [w64 (by omega) (by omega)]; rfl), HG2, ⟨?_⟩, ⟨?_⟩, ⟨?_⟩, ⟨?_⟩⟩
            · rw [HNP.out]; exact (HS65.out.alloc _).box3
            · rw [HNP.out]; exact R_box3 (Kd.R_alloc HV5.out _) (HS65.out.alloc _) _ _ _
            · exact (HSR5.out.alloc _).far3 (by have := HLO.out; omega) _ _ _
            · exact below_box3 (below_alloc HB5.out _) (by have := HLO.out; omega) _ _ _
    · have hltz : ¬ (i : Int) < (path.length : Int) := by omega
      obtain rfl : i = path.length := by omega
      rw [List.take_length] at HG HS6 HV6
      have HRN := Aside0.mk (HEnd.out HG.out)
      have q0 : wr.cell? ⟨b6, 0, none⟩ = some (.int .i64 (d : Int)) := SrAt.c0 HS6.out
      have q1 : wr.cell? ⟨b6, 1, none⟩ = some (.int .i64 (n : Int)) := SrAt.c1 HS6.out
      have q2 : wr.cell? ⟨b6, 2, none⟩ = some (.slice A6 (termsT (sigT d n path)).length c6) := SrAt.c2 HS6.out
      have s0 : wr.cell? ⟨w.heap.size, 0, none⟩ = some (.int .i64 0) := SrAt.c0 HSR.out
      have sf0 : wr.frozen? ⟨w.heap.size, 0, none⟩ = false := blk_frozen HSR.out 0
      have s1 : wr.cell? ⟨w.heap.size, 1, none⟩ = some (.int .i64 0) := SrAt.c1 HSR.out
      have sf1 : wr.frozen? ⟨w.heap.size, 1, none⟩ = false := blk_frozen HSR.out 1
      have s2 : wr.cell? ⟨w.heap.size, 2, none⟩ = some (.slice none 0 0) := SrAt.c2 HSR.out
      have sf2 : wr.frozen? ⟨w.heap.size, 2, none⟩ = false := blk_frozen HSR.out 2
      go_wp2
      refine bodyPost_ret (results_ct rfl _ _ w.heap.size 38 _ (0, 0) _ rfl (blk_set (blk_set (blk_set HSR.out 0 _) 1 _) 2 _) hu2 rfl (by kernel_rfl)) rfl ?_
      rw [HRN.out]
      refine ⟨_, rfl, ?_, below_box3 HB.out (Nat.le_refl _) _ _ _⟩
      exact R_box3 HV6.out HSR.out _ _ _
end Go.Proofs.Ytaiefdhenikiiaa.Base
namespace Go.Proofs.Ytaiefdhenikiiaa.Base
open Go.RowKit Go.Proofs.YtaiefdhenikiiaaW.PrintWords Go.Proofs.YtaiefdhenikiiaaW.PrintLast Go.Proofs.YtaiefdhenikiiaaW.PrintMore
attribute [local go_sem] max2_int min2_int max_two min_two max_three min_three max_four min_four Go.Proofs.YtaiefdhenikiiaaZ.min2_string   -- for this text's walks alone
set_option linter.unusedVariables false
set_option linter.unusedSimpArgs false
def spec_AreSignaturesEqual.f (a0 : Int) (a1 : Int) (l2 : List (List Int)) (l3 : List (List Int)) : Option (Bool × Int) := if (l2.length ≤ 1048576 ∧ (∀ r ∈ l2, r.length ≤ 1048576)) ∧ (l3.length ≤ 1048576 ∧ (∀ r ∈ l3, r.length ≤ 1048576)) then some (eqP a0 a1 l2 l3) else none
set_option maxHeartbeats 8000000 in
set_option maxRecDepth 100000 in
theorem spec_AreSignaturesEqual.calls (a0 : Int) (a1 : Int) (A2 : Option Addr) (c2 : Nat) (l2 : List (List Int)) (A3 : Option Addr) (c3 : Nat) (l3 : List (List Int)) (r1 : Bool) (r2 : Int) (w : World) (hr2 : Kd.C (Kd.slice 2 (Kd.int .i64)) w A2 l2.length l2) (hc2 : l2.length ≤ c2) (hr3 : Kd.C (Kd.slice 2 (Kd.int .i64)) w A3 l3.length l3) (hc3 : l3.length ≤ c3) (h : spec_AreSignaturesEqual.f a0 a1 l2 l3 = some (r1, r2)) :
    Calls Try.prog 54 #[.int .i64 a0, .int .i64 a1, .slice A2 l2.length c2, .slice A3 l3.length c3] w fun e w' => e = .returned (.tuple #[.bool r1, .int .i64 r2]) ∧ Below w.heap.size w w' := by
  unfold spec_AreSignaturesEqual.f at h
  split at h
  rotate_left
  · cases h
  rename_i hsm
  have h := Option.some.inj h
  have hu := Try.underlying38
  obtain ⟨k, hk⟩ := (pcode_spec a0 a1 [l2, l3] (by simp) (fun p hp => by
    rcases List.mem_cons.1 hp with rfl | hp
    · exact hsm.1
    · rw [List.mem_singleton.1 hp]; exact hsm.2)).rounds
  rw [show [l2, l3].all (Go.Proofs.YtaiefdhenikiiaaC.isPath a0) = (Go.Proofs.YtaiefdhenikiiaaC.isPath a0 l2 && Go.Proofs.YtaiefdhenikiiaaC.isPath a0 l3) from by simp] at hk
  have HR := Aside0.mk hr2
  have HC := Aside0.mk hc2
  have HR3 := Aside0.mk hr3
  have HC3 := Aside0.mk hc3
  clear hr2 hc2 hr3 hc3
  unfold eqP at h
  obtain ⟨q, hq⟩ : ∃ q, q = codeP a0 a1 (Go.Proofs.YtaiefdhenikiiaaC.isPath a0 l2 && Go.Proofs.YtaiefdhenikiiaaC.isPath a0 l3) := ⟨_, rfl⟩
  rw [← hq] at h hk
  by_cases c : q = 0
  · rw [if_pos c] at h
    obtain ⟨hb_, d, n, rfl, rfl, hs, hn⟩ := codeP_good (hq.symm.trans c)
    rw [Bool.and_eq_true] at hb_
    obtain ⟨hpl, hok⟩ := okP hb_.1
    obtain ⟨hpl3, hok3⟩ := okP hb_.2
    rw [Int.toNat_natCast, Int.toNat_natCast] at h
    rw [c] at hk
    have HK := Aside0.mk hk
    obtain ⟨T, hT⟩ : ∃ T, T = sigT d n l2 := ⟨_, rfl⟩
    obtain ⟨U, hU⟩ : ∃ U, U = sigT d n l3 := ⟨_, rfl⟩
    rw [← hT, ← hU] at h
    have hs1 : ∀ W, Below w.heap.size w W → Calls Try.prog 115 #[.int .i64 (d : Int), .int .i64 (n : Int), .slice A2 l2.length c2] W (OutR W d n (outT T)) := fun W hW => by rw [hT]; exact sigSp W d n hs hn (Kd.C_below HR.out hW) (by omega) (fun r hr => ⟨by have := (hok r hr).1; omega, (hok r hr).2⟩)
    have hs2 : ∀ W, Below w.heap.size w W → Calls Try.prog 115 #[.int .i64 (d : Int), .int .i64 (n : Int), .slice A3 l3.length c3] W (OutR W d n (outT U)) := fun W hW => by rw [hU]; exact sigSp W d n hs hn (Kd.C_below HR3.out hW) (by omega) (fun r hr => ⟨by have := (hok3 r hr).1; omega, (hok3 r hr).2⟩)
    have HL1 := Aside0.mk (terms_len (show Like T (zeroT d n) from by rw [hT]; exact sigT_like hs l2) hs)
    have HL2 := Aside0.mk (terms_len (show Like U (zeroT d n) from by rw [hU]; exact sigT_like hs l3) hs)
    by_cases b1 : T.bad = true
    · rw [if_pos (Or.inl b1)] at h
      rw [outT_bad b1] at hs1
      simp only [Prod.mk.injEq] at h
      obtain ⟨rfl, rfl⟩ := h
      have HS1 := Aside0.mk hs1
      have HS2 := Aside0.mk hs2
      clear hk c hs hsm hT hU hs1 hs2 hb_ hok hpl hok3 hpl3 hn hq b1
      go_enter Try.func54, Try.ntmps54
      go_wp2_with (first
        | (go_at_call 101; refine (spec_l04Code.calls k _ _ _ _ [l2, l3] _ _ (lit2 HR.out HC.out HR3.out HC3.out rfl) (by simp) HK.out).mono ?_; rintro e w1 ⟨rfl, hd⟩; have HB1 := Aside0.mk (show Below w.heap.size w w1 from below_step (below_alloc (Below.refl _ _) _) hd.below); clear hd)
        | (go_at_call 115; (with_reducible refine (HS1.out _ HB1.out).mono ?_); rintro e w2 ⟨v, rfl, hv, hb⟩; obtain ⟨X1, c1_, rfl⟩ := Kd.R_slice hv; have HB2 := Aside0.mk (show Below w.heap.size w w2 from below_step HB1.out hb); have HD2 := Aside0.mk hb; clear hv hb)
        | (go_at_call 115; (with_reducible refine (HS2.out _ (below_alloc HB2.out _)).mono ?_); rintro e w3 h_; obtain ⟨D2, N2, X2, c2_, m2, ok2, rfl, ho, hv, hb⟩ := h_.val; have HB3 := Aside0.mk (show Below w.heap.size w w3 from below_step (below_alloc HB2.out _) hb); have HD3 := Aside0.mk hb; clear hv hb))
      go_returns
      exact ⟨rfl, below_alloc HB3.out _⟩
    · have g1 : T.bad = false := by simpa using b1
      rw [outT_good g1] at hs1
      by_cases b2 : U.bad = true
      · rw [if_pos (Or.inr b2)] at h
        rw [outT_bad b2] at hs2
        simp only [Prod.mk.injEq] at h
        obtain ⟨rfl, rfl⟩ := h
        have HS1 := Aside0.mk hs1
        have HS2 := Aside0.mk hs2
        clear hk c hs hsm hT hU hs1 hs2 hb_ hok hpl hok3 hpl3 hn hq b1 b2 g1
        generalize termsT T = lt at HS1 HL1
        go_enter Try.func54, Try.ntmps54
        go_wp2_with (first
          | (go_at_call 101; refine (spec_l04Code.calls k _ _ _ _ [l2, l3] _ _ (lit2 HR.out HC.out HR3.out HC3.out rfl) (by simp) HK.out).mono ?_; rintro e w1 ⟨rfl, hd⟩; have HB1 := Aside0.mk (show Below w.heap.size w w1 from below_step (below_alloc (Below.refl _ _) _) hd.below); clear hd)
          | (go_at_call 115; (with_reducible refine (HS1.out _ HB1.out).mono ?_); rintro e w2 ⟨v, rfl, hv, hb⟩; obtain ⟨X1, c1_, rfl⟩ := Kd.R_slice hv; have HT1 := Aside0.mk (TmsC.of hv (by have := HL1.out; omega)).1; have HB2 := Aside0.mk (show Below w.heap.size w w2 from below_step HB1.out hb); have HD2 := Aside0.mk hb; clear hv hb)
          | (go_at_call 115; (with_reducible refine (HS2.out _ (below_alloc HB2.out _)).mono ?_); rintro e w3 ⟨v, rfl, hv, hb⟩; obtain ⟨X2, c2_, rfl⟩ := Kd.R_slice hv; have HB3 := Aside0.mk (show Below w.heap.size w w3 from below_step (below_alloc HB2.out _) hb); have HD3 := Aside0.mk hb; clear hv hb))
        go_returns
        exact ⟨rfl, below_alloc HB3.out _⟩
      · have g2 : U.bad = false := by simpa using b2
        rw [outT_good g2] at hs2
        rw [if_neg (by rw [g1, g2]; simp)] at h
        simp only [Prod.mk.injEq] at h
        obtain ⟨rfl, rfl⟩ := h
        have HS1 := Aside0.mk hs1
        have HS2 := Aside0.mk hs2
        clear hk c hsm hT hU hs1 hs2 hb_ hok hpl hok3 hpl3 hn hq b1 b2 g1 g2
        obtain ⟨k2, hk2⟩ := (same_spec (termsT T) (termsT U) (by have := HL1.out; omega) d n d n).rounds
        obtain ⟨ans, hans⟩ : ∃ x, x = sameL (termsT T) (termsT U) := ⟨_, rfl⟩
        rw [← hans] at hk2 ⊢
        clear hans
        generalize termsT T = lt at HS1 HL1 hk2
        generalize termsT U = lu at HS2 HL2 hk2
        have HK2 := Aside0.mk hk2
        clear hk2 hs
        go_enter Try.func54, Try.ntmps54
        go_wp2_with (first
          | (go_at_call 101; refine (spec_l04Code.calls k _ _ _ _ [l2, l3] _ _ (lit2 HR.out HC.out HR3.out HC3.out rfl) (by simp) HK.out).mono ?_; rintro e w1 ⟨rfl, hd⟩; have HB1 := Aside0.mk (show Below w.heap.size w w1 from below_step (below_alloc (Below.refl _ _) _) hd.below); clear hd)
          | (go_at_call 115; (with_reducible refine (HS1.out _ HB1.out).mono ?_); rintro e w2 ⟨v, rfl, hv, hb⟩; obtain ⟨X1, c1_, rfl⟩ := Kd.R_slice hv; have HT1 := Aside0.mk (TmsC.of hv (by have := HL1.out; omega)).1; have HB2 := Aside0.mk (show Below w.heap.size w w2 from below_step HB1.out hb); have HD2 := Aside0.mk hb; clear hv hb)
          | (go_at_call 115; (with_reducible refine (HS2.out _ (below_alloc HB2.out _)).mono ?_); rintro e w3 ⟨v, rfl, hv, hb⟩; obtain ⟨X2, c2_, rfl⟩ := Kd.R_slice hv; have HT2 := Aside0.mk (TmsC.of hv (by have := HL2.out; omega)).1; have HB3 := Aside0.mk (show Below w.heap.size w w3 from below_step (below_alloc HB2.out _) hb); have HD3 := Aside0.mk hb; clear hv hb; have S := blk_below (new_at (W := w2) (cs := #[.int .i64 (d : Int), .int .i64 (n : Int), .slice X1 lt.length c1_]) (e := 38) rfl) HD3.out; have p0 : (w3.alloc (.cells #[.int .i64 (d : Int), .int .i64 (n : Int), .slice X2 lu.length c2_] 38)).cell? ⟨w2.heap.size, 0, none⟩ = some (.int .i64 (d : Int)) := blk_cell (old_at S) 0; have p1 : (w3.alloc (.cells #[.int .i64 (d : Int), .int .i64 (n : Int), .slice X2 lu.length c2_] 38)).cell? ⟨w2.heap.size, 1, none⟩ = some (.int .i64 (n : Int)) := blk_cell (old_at S) 1; have p2 : (w3.alloc (.cells #[.int .i64 (d : Int), .int .i64 (n : Int), .slice X2 lu.length c2_] 38)).cell? ⟨w2.heap.size, 2, none⟩ = some (.slice X1 lt.length c1_) := blk_cell (old_at S) 2; clear S)
          | (go_at_call 116; refine (spec_l04Same.calls k2 _ _ _ _ _ _ _ _ _ _ _ _ (((HT1.out.below (below_alloc (Below.refl _ _) _)).below HD3.out).below (below_alloc (Below.refl _ _) _)).row HT1.out.cap (HT2.out.below (below_alloc (Below.refl _ _) _)).row HT2.out.cap HK2.out).mono ?_; rintro e w5 ⟨rfl, hd⟩; have HB5 := Aside0.mk (below_step (below_alloc HB3.out _) hd); clear hd))
        go_returns
        exact ⟨rfl, HB5.out⟩
  · rw [if_neg c] at h
    simp only [Prod.mk.injEq] at h
    obtain ⟨rfl, rfl⟩ := h
    have HK := Aside0.mk hk
    clear hk hsm hq
    go_enter Try.func54, Try.ntmps54
    go_wp2_with (go_at_call 101; refine (spec_l04Code.calls k _ _ _ _ [l2, l3] _ _ (lit2 HR.out HC.out HR3.out HC3.out rfl) (by simp) HK.out).mono ?_; rintro e w1 ⟨rfl, hd⟩; have HB1 := Aside0.mk (show Below w.heap.size w w1 from below_step (below_alloc (Below.refl _ _) _) hd.below); clear hd)
    go_returns
    exact ⟨rfl, HB1.out⟩
end Go.Proofs.Ytaiefdhenikiiaa.Base
namespace Go.Proofs.Ytaiefdhenikiiaa.Base
open Go.RowKit Go.Proofs.YtaiefdhenikiiaaW.PrintWords Go.Proofs.YtaiefdhenikiiaaW.PrintLast Go.Proofs.YtaiefdhenikiiaaW.PrintMore
attribute [local go_sem] max2_int min2_int max_two min_two max_three min_three max_four min_four Go.Proofs.YtaiefdhenikiiaaZ.min2_string   -- for this text's walks alone
set_option linter.unusedVariables false
set_option linter.unusedSimpArgs false
def impl_SignatureOf.f (a0 : Int) (a1 : Int) (l2 : List (List Int)) : Option (Int × Int × (List S79) × Int) := if l2.length ≤ 1048576 ∧ (∀ r ∈ l2, r.length ≤ 1048576) then some (sigR a0 a1 l2) else none
set_option maxHeartbeats 8000000 in
set_option maxRecDepth 100000 in
theorem impl_SignatureOf.calls (a0 : Int) (a1 : Int) (A2 : Option Addr) (c2 : Nat) (l2 : List (List Int)) (r1 : Int) (r2 : Int) (r3 : List (S79)) (r4 : Int) (w : World) (hr2 : Kd.C (Kd.slice 2 (Kd.int .i64)) w A2 l2.length l2) (hc2 : l2.length ≤ c2) (h : impl_SignatureOf.f a0 a1 l2 = some (r1, r2, r3, r4)) :
    Calls Try.prog 64 #[.int .i64 a0, .int .i64 a1, .slice A2 l2.length c2] w fun e w' => ∃ v2_ : Value, e = .returned (.tuple #[.agg #[.int .i64 r1, .int .i64 r2, v2_], .int .i64 r4]) ∧ Kd.R k79 79 w' w.heap.size (fun _ => True) v2_ r3 ∧ Below w.heap.size w w' := by
  unfold impl_SignatureOf.f at h
  split at h
  rotate_left
  · cases h
  rename_i hsm
  have h := Option.some.inj h
  have hu := Try.underlying38
  have hk := pcode_impl a0 a1 l2
  have HR := Aside0.mk hr2
  have HC := Aside0.mk hc2
  clear hr2 hc2
  unfold sigR at h
  obtain ⟨q, hq⟩ : ∃ q, q = codeP a0 a1 (Go.Proofs.YtaiefdhenikiiaaC.isPath a0 l2) := ⟨_, rfl⟩
  rw [← hq] at h hk
  by_cases c : q = 0
  · rw [if_pos c] at h
    obtain ⟨hb_, d, n, rfl, rfl, hs, hn⟩ := codeP_good (hq.symm.trans c)
    obtain ⟨hpl, hok⟩ := okP hb_
    rw [Int.toNat_natCast, Int.toNat_natCast] at h
    rw [c] at hk
    have HK := Aside0.mk hk
    have HT := Aside0.mk (told_all (sigT_like hs l2) h)
    have HZ := Aside0.mk (zeroT_ok hs)
    have HL := Aside0.mk (show ∀ W, Below w.heap.size w W → Calls Try.prog 131 #[.int .i64 (d : Int), .int .i64 (n : Int), .slice A2 l2.length c2] W (NewT W (sigT d n l2) (zeroT d n)) from fun W hW => signature_ W d n A2 c2 l2 (Kd.C_below HR.out hW) hs hn (fun row hr => ⟨by have := (hok row hr).1; omega, (hok row hr).2⟩) (by omega))
    clear h hk c hs hsm hb_ hok hpl hn hq
    go_enter Try.func64, Try.ntmps64
    go_wp2_with (first
      | (go_at_call 104; refine (impl_pathCode.calls _ _ _ _ l2 _ _ (Kd.C_below HR.out (below_alloc (Below.refl _ _) _)) HC.out HK.out).mono ?_; rintro e w1 ⟨rfl, hd⟩; have HB1 := Aside0.mk (show Below w.heap.size w w1 from below_step (below_alloc (Below.refl _ _) _) hd); have S : SrAt w1 w.heap.size 0 0 (.slice none 0 0) := blk_below (new_at rfl) hd; have HS1 := Aside0.mk S; clear S hd)
      | (go_at_call 131; refine (HL.out _ HB1.out).mono ?_; rintro e w2 ⟨g2, k2, rfl, T, hg, hh, hb⟩; have HO2 := Aside0.mk T.tab; have HB2 := Aside0.mk (show Below w.heap.size w w2 from below_step HB1.out hb); have HS2 := Aside0.mk (HS1.out.below hb); clear T hg hh hb)
      | (go_at_call 96; refine (HT.out _ _ _ HO2.out).mono ?_; rintro e w3 ⟨v, rfl, hv, hb⟩; obtain ⟨A1, c1, rfl⟩ := Kd.R_slice hv; have HB3 := Aside0.mk (show Below w.heap.size w w3 from below_step HB2.out hb); have HV := Aside0.mk (Kd.R_lower hv HB2.out.size); have S := HS2.out.below hb; have x0 : w3.cell? ⟨w.heap.size, 0, none⟩ = some (.int .i64 0) := SrAt.c0 S; have xf0 : w3.frozen? ⟨w.heap.size, 0, none⟩ = false := blk_frozen S 0; have x1 : w3.cell? ⟨w.heap.size, 1, none⟩ = some (.int .i64 0) := SrAt.c1 S; have xf1 : w3.frozen? ⟨w.heap.size, 1, none⟩ = false := blk_frozen S 1; have x2 : w3.cell? ⟨w.heap.size, 2, none⟩ = some (.slice none 0 0) := SrAt.c2 S; have xf2 : w3.frozen? ⟨w.heap.size, 2, none⟩ = false := blk_frozen S 2; have HS3 := Aside0.mk S; clear S hv hb))
    refine bodyPost_ret (results_ct rfl _ _ w.heap.size 38 _ (0, 0) _ rfl (blk_set (blk_set (blk_set HS3.out 0 _) 1 _) 2 _) hu rfl (by kernel_rfl)) rfl ?_
    refine ⟨_, rfl, ?_, ((HB3.out.setCell (Nat.le_refl _) _).setCell (Nat.le_refl _) _).setCell (Nat.le_refl _) _⟩
    exact Kd.R_set (Kd.R_set (Kd.R_set HV.out HS3.out (by decide) 0 _) (blk_set HS3.out 0 _) (by decide) 1 _) (blk_set (blk_set HS3.out 0 _) 1 _) (by decide) 2 _
  · rw [if_neg c] at h
    simp only [Prod.mk.injEq] at h
    obtain ⟨rfl, rfl, rfl, rfl⟩ := h
    have HK := Aside0.mk hk
    clear hk hsm hq
    go_enter Try.func64, Try.ntmps64
    go_wp2_with (go_at_call 104; refine (impl_pathCode.calls _ _ _ _ l2 _ _ (Kd.C_below HR.out (below_alloc (Below.refl _ _) _)) HC.out HK.out).mono ?_; rintro e w1 ⟨rfl, hd⟩; have HB1 := Aside0.mk (show Below w.heap.size w w1 from below_step (below_alloc (Below.refl _ _) _) hd); have S : SrAt w1 w.heap.size 0 0 (.slice none 0 0) := blk_below (new_at rfl) hd; have x0 : w1.cell? ⟨w.heap.size, 0, none⟩ = some (.int .i64 0) := SrAt.c0 S; have xf0 : w1.frozen? ⟨w.heap.size, 0, none⟩ = false := blk_frozen S 0; have x1 : w1.cell? ⟨w.heap.size, 1, none⟩ = some (.int .i64 0) := SrAt.c1 S; have xf1 : w1.frozen? ⟨w.heap.size, 1, none⟩ = false := blk_frozen S 1; have x2 : w1.cell? ⟨w.heap.size, 2, none⟩ = some (.slice none 0 0) := SrAt.c2 S; have xf2 : w1.frozen? ⟨w.heap.size, 2, none⟩ = false := blk_frozen S 2; have HS1 := Aside0.mk S; clear S hd)
    refine bodyPost_ret (results_ct rfl _ _ w.heap.size 38 _ (0, 0) _ rfl (blk_set (blk_set (blk_set HS1.out 0 _) 1 _) 2 _) hu rfl (by kernel_rfl)) rfl ?_
    exact ⟨_, rfl, Kd.R_nil _ _ _ _ _, ((HB1.out.setCell (Nat.le_refl _) _).setCell (Nat.le_refl _) _).setCell (Nat.le_refl _) _⟩
end Go.Proofs.Ytaiefdhenikiiaa.Base
namespace Go.Proofs.Ytaiefdhenikiiaa.Base
open Go.RowKit Go.Proofs.YtaiefdhenikiiaaW.PrintWords Go.Proofs.YtaiefdhenikiiaaW.PrintLast Go.Proofs.YtaiefdhenikiiaaW.PrintMore
attribute [local go_sem] max2_int min2_int max_two min_two max_three min_three max_four min_four Go.Proofs.YtaiefdhenikiiaaZ.min2_string   -- for this text's walks alone
set_option linter.unusedVariables false
set_option linter.unusedSimpArgs false
def impl_AreSignaturesEqual.j0 : Nat → Int → Int → List (List Int) → List (List Int) → Bool → Option (Bool × Int)
  | 0, _, _, _, _, _ => none
  | k + 1, x0, x1, x2, x3, x22 => if x22 = true then (some (false, 1)) else ((impl_SignatureOf.f x0 x1 x2).bind fun bt1153 => (if bt1153.2.2.2 = 0 then ((impl_SignatureOf.f x0 x1 x3).bind fun bt1160 => (if bt1160.2.2.2 = 0 then ((impl_equalSeries.f k bt1153.1 bt1153.2.1 bt1153.2.2.1 bt1160.1 bt1160.2.1 bt1160.2.2.1).bind fun t1167 => (some (t1167, 0))) else (some (false, bt1160.2.2.2)))) else (some (false, bt1153.2.2.2))))
def impl_AreSignaturesEqual.f (k : Nat) (a0 : Int) (a1 : Int) (l2 : List (List Int)) (l3 : List (List Int)) : Option (Bool × Int) := (impl_IsPath.f a0 l2).bind fun t1151 => (if t1151 = true then ((impl_IsPath.f a0 l3).bind fun t1152 => (impl_AreSignaturesEqual.j0 k a0 a1 l2 l3 (!t1152))) else (impl_AreSignaturesEqual.j0 k a0 a1 l2 l3 true))
theorem impl_AreSignaturesEqual.mono_l : ∀ k, (∀ y0 y1 y2 y3 y4, LeO (impl_AreSignaturesEqual.j0 k y0 y1 y2 y3 y4) (impl_AreSignaturesEqual.j0 (k + 1) y0 y1 y2 y3 y4))
  | 0 => fun _ _ _ _ _ r h => by simp [impl_AreSignaturesEqual.j0] at h
  | k + 1 => by
    have ih0 := impl_AreSignaturesEqual.mono_l k
    · intro y0 y1 y2 y3 y4
      unfold impl_AreSignaturesEqual.j0
      repeat' first
      | (with_reducible exact ih0 _ _ _ _ _)
      | (with_reducible exact impl_equalSeries.mono _ _ _ _ _ _ _)
      | (with_reducible exact LeO.refl _)
      | (with_reducible exact LeO.none _)
      | (with_reducible refine LeO.ite ?_ ?_)
      | (with_reducible refine LeO.bind ?_ (fun _ => ?_))
      | exact ih0 _ _ _ _ _
      | exact impl_equalSeries.mono _ _ _ _ _ _ _
      | exact LeO.none _
      | refine LeO.ite ?_ ?_
      | refine LeO.bind ?_ (fun _ => ?_)
theorem impl_AreSignaturesEqual.mono : ∀ a0 a1 a2 a3 k, LeO (impl_AreSignaturesEqual.f k a0 a1 a2 a3) (impl_AreSignaturesEqual.f (k + 1) a0 a1 a2 a3) := by
  intro a0 a1 a2 a3 k
  have ih0 := impl_AreSignaturesEqual.mono_l k
  unfold impl_AreSignaturesEqual.f
  repeat' first
      | (with_reducible exact ih0 _ _ _ _ _)
      | (with_reducible exact impl_equalSeries.mono _ _ _ _ _ _ _)
      | (with_reducible exact LeO.refl _)
      | (with_reducible exact LeO.none _)
      | (with_reducible refine LeO.ite ?_ ?_)
      | (with_reducible refine LeO.bind ?_ (fun _ => ?_))
      | exact ih0 _ _ _ _ _
      | exact impl_equalSeries.mono _ _ _ _ _ _ _
      | exact LeO.none _
      | refine LeO.ite ?_ ?_
      | refine LeO.bind ?_ (fun _ => ?_)
set_option maxHeartbeats 8000000 in
set_option maxRecDepth 100000 in
theorem impl_AreSignaturesEqual.calls (k : Nat) (a0 : Int) (a1 : Int) (A2 : Option Addr) (c2 : Nat) (l2 : List (List Int)) (A3 : Option Addr) (c3 : Nat) (l3 : List (List Int)) (r1 : Bool) (r2 : Int) (w : World) (hr2 : Kd.C (Kd.slice 2 (Kd.int .i64)) w A2 l2.length l2) (hc2 : l2.length ≤ c2) (hr3 : Kd.C (Kd.slice 2 (Kd.int .i64)) w A3 l3.length l3) (hc3 : l3.length ≤ c3) (h : impl_AreSignaturesEqual.f k a0 a1 l2 l3 = some (r1, r2)) :
    Calls Try.prog 56 #[.int .i64 a0, .int .i64 a1, .slice A2 l2.length c2, .slice A3 l3.length c3] w fun e w' => e = .returned (.tuple #[.bool r1, .int .i64 r2]) ∧ Below w.heap.size w w' := by
  have hu38 := Try.underlying38
  have HR2 := Aside0.mk hr2
  have HC2 := Aside0.mk hc2
  clear hr2 hc2
  have HR3 := Aside0.mk hr3
  have HC3 := Aside0.mk hc3
  clear hr3 hc3
  have HB := Aside0.mk (Below.refl w.heap.size w)
  have H : ((impl_IsPath.f a0 l2).bind fun t1151 => (if t1151 = true then ((impl_IsPath.f a0 l3).bind fun t1152 => (impl_AreSignaturesEqual.j0 k a0 a1 l2 l3 (!t1152))) else (impl_AreSignaturesEqual.j0 k a0 a1 l2 l3 true))) = some (r1, r2) := h
  clear h
  have HC5 := Aside0.mk H
  clear H
  go_enter Try.func56, Try.ntmps56
  go_upto_region 1 with (fail)
  go_cut [22] (fun v22 wc => ∃ (kq : Nat) (x22_4 : Bool), v22 = .bool x22_4 ∧ Aside0 (impl_AreSignaturesEqual.j0 kq a0 a1 l2 l3 x22_4 = some (r1, r2)) ∧ Aside0 (kq ≤ k) ∧ Aside0 (Below w.heap.size w wc))
  case first =>
    have H := HC5.out
    clear HC5
    replace H := Option.bind_eq_some_iff.mp H
    obtain ⟨t1151, A60, H⟩ := H
    replace H : (if t1151 = true then ((impl_IsPath.f a0 l3).bind fun t1152 => (impl_AreSignaturesEqual.j0 k a0 a1 l2 l3 (!t1152))) else (impl_AreSignaturesEqual.j0 k a0 a1 l2 l3 true)) = some (r1, r2) := H
    have A6 := Aside0.mk A60
    clear A60
    by_cases c7 : t1151 = true
    · subst c7
      have H1 : ((impl_IsPath.f a0 l3).bind fun t1152 => (impl_AreSignaturesEqual.j0 k a0 a1 l2 l3 (!t1152))) = some (r1, r2) := by rw [if_pos rfl] at H; exact H
      clear H
      have H := H1
      clear H1
      replace H := Option.bind_eq_some_iff.mp H
      obtain ⟨t1152, A80, H⟩ := H
      replace H : (impl_AreSignaturesEqual.j0 k a0 a1 l2 l3 (!t1152)) = some (r1, r2) := H
      have A8 := Aside0.mk A80
      clear A80
      have H' := Aside0.mk H
      clear H
      go_wp2_with (first | ((with_reducible refine gate_callee (f := 117) rfl ?_); refine goesL_ (some 15) rfl rfl Try.func117 (by kernel_rfl) rfl #[.int .i64 a0, .slice A2 l2.length c2] rfl (by (try simp only [List.map_toArray, List.map_cons, List.map_nil]); first | done | rfl | (simp only [List.length_drop, List.length_take]; rfl)) ?_; (with_reducible refine (impl_IsPath.calls a0 _ _ l2 true _ ?side1 ?side2 A6.out).mono ?_); (case side1 => repeat (first | exact (Kd.C_below HR2.out HB.out) | (with_reducible refine Kd.C_alloc ?_ _) | (with_reducible refine Kd.C_drewN ?_ _) | (with_reducible refine Kd.C_drew ?_))); (case side2 => exact HC2.out); rintro e w9 ⟨rfl, hb⟩; refine ⟨_, rfl, ?_⟩; have n0_ := Aside0.mk (below_step (by repeat (first | (with_reducible first | exact HB.out | apply below_alloc | apply pw_below_drewN | apply below_drew1) | exact HB.out)) hb); clear HB; have HB := n0_; clear n0_; (try clear hb); (try clear hb2); (try clear hk); (try clear hi)) | (go_at_call 117; (with_reducible refine (impl_IsPath.calls a0 _ _ l3 t1152 _ ?side1 ?side2 A8.out).mono ?_); (case side1 => repeat (first | exact (Kd.C_below HR3.out HB.out) | (with_reducible refine Kd.C_alloc ?_ _) | (with_reducible refine Kd.C_drewN ?_ _) | (with_reducible refine Kd.C_drew ?_))); (case side2 => exact HC3.out); rintro e w10 ⟨rfl, hb⟩; have n0_ := Aside0.mk (below_step (by repeat (first | (with_reducible first | exact HB.out | apply below_alloc | apply pw_below_drewN | apply below_drew1) | exact HB.out)) hb); clear HB; have HB := n0_; clear n0_; (try clear hb); (try clear hb2); (try clear hk); (try clear hi)))
      go_meet
      case rel => exact ⟨_, (!t1152), (by first | rfl | (simp; done) | (simp [*]; done)), H', ⟨by first | omega | exact Nat.le_refl _⟩, ⟨by repeat (first | (with_reducible first | exact HB.out | apply below_alloc | apply pw_below_drewN | apply below_drew1) | exact HB.out)⟩⟩
    · replace c7 := Bool.eq_false_iff.mpr c7
      subst c7
      have H1 : (impl_AreSignaturesEqual.j0 k a0 a1 l2 l3 true) = some (r1, r2) := by rw [if_neg (show ¬ (false = true) by decide)] at H; exact H
      clear H
      have H := H1
      clear H1
      have H' := Aside0.mk H
      clear H
      go_wp2_with (first | ((with_reducible refine gate_callee (f := 117) rfl ?_); refine goesL_ (some 15) rfl rfl Try.func117 (by kernel_rfl) rfl #[.int .i64 a0, .slice A2 l2.length c2] rfl (by (try simp only [List.map_toArray, List.map_cons, List.map_nil]); first | done | rfl | (simp only [List.length_drop, List.length_take]; rfl)) ?_; (with_reducible refine (impl_IsPath.calls a0 _ _ l2 false _ ?side1 ?side2 A6.out).mono ?_); (case side1 => repeat (first | exact (Kd.C_below HR2.out HB.out) | (with_reducible refine Kd.C_alloc ?_ _) | (with_reducible refine Kd.C_drewN ?_ _) | (with_reducible refine Kd.C_drew ?_))); (case side2 => exact HC2.out); rintro e w11 ⟨rfl, hb⟩; refine ⟨_, rfl, ?_⟩; have n0_ := Aside0.mk (below_step (by repeat (first | (with_reducible first | exact HB.out | apply below_alloc | apply pw_below_drewN | apply below_drew1) | exact HB.out)) hb); clear HB; have HB := n0_; clear n0_; (try clear hb); (try clear hb2); (try clear hk); (try clear hi)))
      go_meet
      case rel => exact ⟨_, (true), (by first | rfl | (simp; done) | (simp [*]; done)), H', ⟨by first | omega | exact Nat.le_refl _⟩, ⟨by repeat (first | (with_reducible first | exact HB.out | apply below_alloc | apply pw_below_drewN | apply below_drew1) | exact HB.out)⟩⟩
  case rest =>
    clear HC5
    try clear c1
    try clear c2
    try clear p2
    try clear c3
    try clear c5
    try clear c7
    try clear c11
    obtain ⟨kq, x22_4, rfl, HA, HJ4, HB⟩ := hcut
    cases kq with
    | zero => exact absurd HA.out (by simp [impl_AreSignaturesEqual.j0])
    | succ kj4 =>
      have H := HA.out
      clear HA
      simp only [impl_AreSignaturesEqual.j0] at H
      by_cases c12 : x22_4 = true
      · subst c12
        have H1 : (some (false, 1)) = some (r1, r2) := by rw [if_pos rfl] at H; exact H
        clear H
        have H := H1
        clear H1
        simp only [Option.some.injEq, Prod.mk.injEq] at H
        obtain ⟨rfl, rfl⟩ := H
        go_wp2
        go_ret2
        exact ⟨by first | rfl | (simp [errW_none, errW_some] <;> rfl) | (simp [*, errW_none, errW_some] <;> rfl), by repeat (first | (with_reducible first | exact HB.out | apply below_alloc | apply pw_below_drewN | apply below_drew1) | exact HB.out)⟩
      · replace c12 := Bool.eq_false_iff.mpr c12
        subst c12
        have H1 : ((impl_SignatureOf.f a0 a1 l2).bind fun bt1153 => (if bt1153.2.2.2 = 0 then ((impl_SignatureOf.f a0 a1 l3).bind fun bt1160 => (if bt1160.2.2.2 = 0 then ((impl_equalSeries.f kj4 bt1153.1 bt1153.2.1 bt1153.2.2.1 bt1160.1 bt1160.2.1 bt1160.2.2.1).bind fun t1167 => (some (t1167, 0))) else (some (false, bt1160.2.2.2)))) else (some (false, bt1153.2.2.2)))) = some (r1, r2) := by rw [if_neg (show ¬ (false = true) by decide)] at H; exact H
        clear H
        have H := H1
        clear H1
        replace H := Option.bind_eq_some_iff.mp H
        obtain ⟨⟨t1153, t1154, t1155, t1158⟩, A130, H⟩ := H
        replace H : (if t1158 = 0 then ((impl_SignatureOf.f a0 a1 l3).bind fun bt1160 => (if bt1160.2.2.2 = 0 then ((impl_equalSeries.f kj4 t1153 t1154 t1155 bt1160.1 bt1160.2.1 bt1160.2.2.1).bind fun t1167 => (some (t1167, 0))) else (some (false, bt1160.2.2.2)))) else (some (false, t1158))) = some (r1, r2) := H
        have A13 := Aside0.mk A130
        clear A130
        by_cases c14 : t1158 = 0
        · rw [if_pos c14] at H
          have c14b0 : (t1158 == 0) = true := beq_iff_eq.mpr c14
          have c14b1 : (t1158 != 0) = false := bne_eq_false_iff_eq.mpr c14
          clear c14
          replace H := Option.bind_eq_some_iff.mp H
          obtain ⟨⟨t1160, t1161, t1162, t1165⟩, A150, H⟩ := H
          replace H : (if t1165 = 0 then ((impl_equalSeries.f kj4 t1153 t1154 t1155 t1160 t1161 t1162).bind fun t1167 => (some (t1167, 0))) else (some (false, t1165))) = some (r1, r2) := H
          have A15 := Aside0.mk A150
          clear A150
          by_cases c16 : t1165 = 0
          · rw [if_pos c16] at H
            have c16b0 : (t1165 == 0) = true := beq_iff_eq.mpr c16
            have c16b1 : (t1165 != 0) = false := bne_eq_false_iff_eq.mpr c16
            clear c16
            replace H := Option.bind_eq_some_iff.mp H
            obtain ⟨t1167, A170, H⟩ := H
            replace H : (some (t1167, 0)) = some (r1, r2) := H
            have A17 := Aside0.mk A170
            clear A170
            simp only [Option.some.injEq, Prod.mk.injEq] at H
            obtain ⟨rfl, rfl⟩ := H
            go_wp2_with (first | ((with_reducible refine gate_callee (f := 64) rfl ?_); refine goesL_ (some 27) rfl rfl Try.func64 (by kernel_rfl) rfl #[.int .i64 a0, .int .i64 a1, .slice A2 l2.length c2] rfl (by (try simp only [List.map_toArray, List.map_cons, List.map_nil]); first | done | rfl | (simp only [List.length_drop, List.length_take]; rfl)) ?_; (with_reducible refine (impl_SignatureOf.calls a0 a1 _ _ l2 t1153 t1154 t1155 t1158 _ ?side1 ?side2 A13.out).mono ?_); (case side1 => repeat (first | exact (Kd.C_below HR2.out HB.out) | (with_reducible refine Kd.C_alloc ?_ _) | (with_reducible refine Kd.C_drewN ?_ _) | (with_reducible refine Kd.C_drew ?_))); (case side2 => exact HC2.out); rintro e w18 ⟨v1156, rfl, ho0, hb⟩; refine ⟨_, rfl, ?_⟩; have n0_ := Aside0.mk (Kd.R_lower ho0 (below_size (by repeat (first | (with_reducible first | exact HB.out | apply below_alloc | apply pw_below_drewN | apply below_drew1) | exact HB.out)))); have n1_ := Aside0.mk (below_step (by repeat (first | (with_reducible first | exact HB.out | apply below_alloc | apply pw_below_drewN | apply below_drew1) | exact HB.out)) hb); clear HB; have HO1157 := n0_; have HB := n1_; clear n0_ n1_; (try clear hb); (try clear hb2); (try clear hk); (try clear hi); (try clear ho0)) | ((with_reducible refine gate_dst (N := 10) rfl ?_); refine box_event ?hg (N := 10) ?hd (cs := #[.int .i64 0, .int .i64 0, .slice none 0 0]) (t := 38) ?hr ?_; (case hd => rfl); (case hg => rfl); (case hr => first | (go_simp; done) | (go_simp; rfl)); intro gb1159 hg w19 hbox hb; have n0_ := Aside0.mk (Kd.R_below (by (with_reducible repeat (first | apply Kd.R_alloc | apply Kd.R_drewN | apply Kd.R_drew)); exact HO1157.out) hb); have n1_ := Aside0.mk (below_step (by repeat (first | (with_reducible first | exact HB.out | apply below_alloc | apply pw_below_drewN | apply below_drew1) | exact HB.out)) hb); have n2_ := Aside0.mk (hbox); have n3_ := Aside0.mk ((by rw [hg]; exact (below_size (by repeat (first | (with_reducible first | exact HB.out | apply below_alloc | apply pw_below_drewN | apply below_drew1) | exact HB.out))) : w.heap.size ≤ gb1159)); have n4_ := Aside0.mk ((by rw [hg]; exact (below_size (by repeat (first | (with_reducible first | exact HB.out | apply below_alloc | apply pw_below_drewN | apply below_drew1) | exact HB.out))) : w.heap.size ≤ gb1159)); clear HO1157; clear HB; have HO1157 := n0_; have HB := n1_; have BK1159 := n2_; have GW1159 := n3_; have GE1159 := n4_; clear n0_ n1_ n2_ n3_ n4_; clear hb hbox hg; have hcz20_0 : w19.cell? ⟨gb1159, 0, none⟩ = some (.int .i64 0) := (blk_cell BK1159.out 0).trans rfl; have hcz20_1 : w19.cell? ⟨gb1159, 1, none⟩ = some (.int .i64 0) := (blk_cell BK1159.out 1).trans rfl; have hcz20_2 : w19.cell? ⟨gb1159, 2, none⟩ = some (.slice none 0 0) := (blk_cell BK1159.out 2).trans rfl; have hfz20_0 := blk_frozen BK1159.out 0; have hfz20_1 := blk_frozen BK1159.out 1; have hfz20_2 := blk_frozen BK1159.out 2; obtain ⟨Ao21, co21, eo21⟩ := Kd.R_slice HO1157.out; subst eo21) | ((with_reducible refine gate_callee (f := 64) rfl ?_); refine goesL_ (some 37) rfl rfl Try.func64 (by kernel_rfl) rfl #[.int .i64 a0, .int .i64 a1, .slice A3 l3.length c3] rfl (by (try simp only [List.map_toArray, List.map_cons, List.map_nil]); first | done | rfl | (simp only [List.length_drop, List.length_take]; rfl)) ?_; (with_reducible refine (impl_SignatureOf.calls a0 a1 _ _ l3 t1160 t1161 t1162 t1165 _ ?side1 ?side2 A15.out).mono ?_); (case side1 => exact Kd.C_below HR3.out (by repeat (first | (with_reducible first | exact HB.out | apply below_alloc | apply pw_below_drewN | apply below_drew1 | refine below_set ?_ GE1159.out) | exact HB.out))); (case side2 => exact HC3.out); rintro e w22 ⟨v1163, rfl, ho0, hb⟩; refine ⟨_, rfl, ?_⟩; have n0_ := Aside0.mk (Kd.R_elder' (by (with_reducible repeat (first | apply Kd.R_alloc | apply Kd.R_drewN | apply Kd.R_drew)); exact (Kd.R_mono (Kd.R_far (p := ⟨gb1159, 2, none⟩) (Kd.R_far (p := ⟨gb1159, 1, none⟩) (Kd.R_far (p := ⟨gb1159, 0, none⟩) (Kd.R_types HO1157.out BK1159.out (by decide)) (fun _ hk => hk.2) (.int .i64 t1153)) (fun _ hk => hk.2) (.int .i64 t1154)) (fun _ hk => hk.2) (.slice Ao21 t1155.length co21)) (fun _ h_ => h_.1))) (Kd.R_base ho0) hb); have n1_ := Aside0.mk (Kd.R_lower (Kd.R_new' ho0 (Kd.R_lt (by (with_reducible repeat (first | apply Kd.R_alloc | apply Kd.R_drewN | apply Kd.R_drew)); exact (Kd.R_mono (Kd.R_far (p := ⟨gb1159, 2, none⟩) (Kd.R_far (p := ⟨gb1159, 1, none⟩) (Kd.R_far (p := ⟨gb1159, 0, none⟩) (Kd.R_types HO1157.out BK1159.out (by decide)) (fun _ hk => hk.2) (.int .i64 t1153)) (fun _ hk => hk.2) (.int .i64 t1154)) (fun _ hk => hk.2) (.slice Ao21 t1155.length co21)) (fun _ h_ => h_.1))))) (below_size (by repeat (first | (with_reducible first | exact HB.out | apply below_alloc | apply pw_below_drewN | apply below_drew1 | refine below_set ?_ GE1159.out) | exact HB.out)))); have n2_ := Aside0.mk (blk_below (g := gb1159) (o := .cells #[.int .i64 t1153, .int .i64 t1154, .slice Ao21 t1155.length co21] 38 (0, 0)) (by (with_reducible repeat (first | refine blk_drewN ?_ _ | refine blk_drew ?_ | refine blk_alloc ?_ _)); refine blk_put (cs := #[.int .i64 t1153, .int .i64 t1154, .slice none 0 0]) ?_ 2 _ rfl; (with_reducible repeat (first | refine blk_drewN ?_ _ | refine blk_drew ?_ | refine blk_alloc ?_ _)); refine blk_put (cs := #[.int .i64 t1153, .int .i64 0, .slice none 0 0]) ?_ 1 _ rfl; (with_reducible repeat (first | refine blk_drewN ?_ _ | refine blk_drew ?_ | refine blk_alloc ?_ _)); refine blk_put (cs := #[.int .i64 0, .int .i64 0, .slice none 0 0]) ?_ 0 _ rfl; (with_reducible repeat (first | refine blk_drewN ?_ _ | refine blk_drew ?_ | refine blk_alloc ?_ _)); exact BK1159.out) hb); have n3_ := Aside0.mk (below_step (by repeat (first | (with_reducible first | exact HB.out | apply below_alloc | apply pw_below_drewN | apply below_drew1 | refine below_set ?_ GE1159.out) | exact HB.out)) hb); clear HO1157; clear BK1159; clear HB; have HO1157 := n0_; have HO1164 := n1_; have BK1159 := n2_; have HB := n3_; clear n0_ n1_ n2_ n3_; (try clear hb); (try clear hb2); (try clear hk); (try clear hi); (try clear ho0)) | ((with_reducible refine gate_dst (N := 12) rfl ?_); refine box_event ?hg (N := 12) ?hd (cs := #[.int .i64 0, .int .i64 0, .slice none 0 0]) (t := 38) ?hr ?_; (case hd => rfl); (case hg => rfl); (case hr => first | (go_simp; done) | (go_simp; rfl)); intro gb1166 hg w23 hbox hb; have n0_ := Aside0.mk (Kd.R_below (by (with_reducible repeat (first | apply Kd.R_alloc | apply Kd.R_drewN | apply Kd.R_drew)); exact HO1157.out) hb); have n1_ := Aside0.mk (Kd.R_below (by (with_reducible repeat (first | apply Kd.R_alloc | apply Kd.R_drewN | apply Kd.R_drew)); exact HO1164.out) hb); have n2_ := Aside0.mk (blk_below (g := gb1159) (o := .cells #[.int .i64 t1153, .int .i64 t1154, .slice Ao21 t1155.length co21] 38 (0, 0)) (by (with_reducible repeat (first | refine blk_drewN ?_ _ | refine blk_drew ?_ | refine blk_alloc ?_ _)); exact BK1159.out) hb); have n3_ := Aside0.mk (below_step (by repeat (first | (with_reducible first | exact HB.out | apply below_alloc | apply pw_below_drewN | apply below_drew1 | refine below_set ?_ GE1159.out) | exact HB.out)) hb); have n4_ := Aside0.mk (hbox); have n5_ := Aside0.mk ((by rw [hg]; exact (below_size (by repeat (first | (with_reducible first | exact HB.out | apply below_alloc | apply pw_below_drewN | apply below_drew1 | refine below_set ?_ GE1159.out) | exact HB.out))) : w.heap.size ≤ gb1166)); have n6_ := Aside0.mk ((by rw [hg]; exact (below_size (by repeat (first | (with_reducible first | exact HB.out | apply below_alloc | apply pw_below_drewN | apply below_drew1 | refine below_set ?_ GE1159.out) | exact HB.out))) : w.heap.size ≤ gb1166)); have n7_ := Aside0.mk ((by rw [hg]; exact Nat.ne_of_lt (blk_lt (g := gb1159) (o := .cells #[.int .i64 t1153, .int .i64 t1154, .slice Ao21 t1155.length co21] 38 (0, 0)) (by (with_reducible repeat (first | refine blk_drewN ?_ _ | refine blk_drew ?_ | refine blk_alloc ?_ _)); exact BK1159.out)) : gb1159 ≠ gb1166)); have n8_ := Aside0.mk ((by rw [hg]; exact Nat.ne_of_gt (blk_lt (g := gb1159) (o := .cells #[.int .i64 t1153, .int .i64 t1154, .slice Ao21 t1155.length co21] 38 (0, 0)) (by (with_reducible repeat (first | refine blk_drewN ?_ _ | refine blk_drew ?_ | refine blk_alloc ?_ _)); exact BK1159.out)) : gb1166 ≠ gb1159)); clear HO1157; clear HO1164; clear BK1159; clear HB; have HO1157 := n0_; have HO1164 := n1_; have BK1159 := n2_; have HB := n3_; have BK1166 := n4_; have GW1166 := n5_; have GE1166 := n6_; have NB1159_1166 := n7_; have NB1166_1159 := n8_; clear n0_ n1_ n2_ n3_ n4_ n5_ n6_ n7_ n8_; clear hb hbox hg; have hnb24 := NB1166_1159.out; have hnc24 := NB1159_1166.out; have hcz25_0 : w23.cell? ⟨gb1166, 0, none⟩ = some (.int .i64 0) := (blk_cell BK1166.out 0).trans rfl; have hcz25_1 : w23.cell? ⟨gb1166, 1, none⟩ = some (.int .i64 0) := (blk_cell BK1166.out 1).trans rfl; have hcz25_2 : w23.cell? ⟨gb1166, 2, none⟩ = some (.slice none 0 0) := (blk_cell BK1166.out 2).trans rfl; have hfz25_0 := blk_frozen BK1166.out 0; have hfz25_1 := blk_frozen BK1166.out 1; have hfz25_2 := blk_frozen BK1166.out 2; obtain ⟨Ao26, co26, eo26⟩ := Kd.R_slice HO1164.out; subst eo26; have hcz27_0 : w23.cell? ⟨gb1159, 0, none⟩ = some (.int .i64 t1153) := (blk_cell BK1159.out 0).trans rfl; have hcz27_1 : w23.cell? ⟨gb1159, 1, none⟩ = some (.int .i64 t1154) := (blk_cell BK1159.out 1).trans rfl; have hcz27_2 : w23.cell? ⟨gb1159, 2, none⟩ = some (.slice Ao21 t1155.length co21) := (blk_cell BK1159.out 2).trans rfl; have hfz27_0 := blk_frozen BK1159.out 0; have hfz27_1 := blk_frozen BK1159.out 1; have hfz27_2 := blk_frozen BK1159.out 2) | ((with_reducible refine gate_callee (f := 118) rfl ?_); refine goesL_ (some 45) rfl rfl Try.func118 (by kernel_rfl) rfl #[.agg #[.int .i64 t1153, .int .i64 t1154, .slice Ao21 t1155.length co21], .agg #[.int .i64 t1160, .int .i64 t1161, .slice Ao26 t1162.length co26]] rfl (by (try simp only [List.map_toArray, List.map_cons, List.map_nil]); first | done | rfl | (simp only [List.length_drop, List.length_take]; rfl)) ?_; (with_reducible refine (impl_equalSeries.calls kj4 t1153 t1154 _ _ t1155 t1160 t1161 _ _ t1162 t1167 _ ?side1 ?side2 ?side3 ?side4 A17.out).mono ?_); (case side1 => refine (Kd.R_reads' (e := 79) (base := w.heap.size) (ok := fun k_ => (True ∧ some k_ ≠ (.slice Ao26 t1162.length co26 : Value).ownBlock)) (n := t1155.length) (c := co21) ?_).2.2; exact (by (with_reducible repeat (first | apply Kd.R_alloc | apply Kd.R_drewN | apply Kd.R_drew)); exact (Kd.R_mono (Kd.R_far (p := ⟨gb1166, 2, none⟩) (Kd.R_far (p := ⟨gb1166, 1, none⟩) (Kd.R_far (p := ⟨gb1166, 0, none⟩) (Kd.R_types HO1157.out BK1166.out (by decide)) (fun _ hk => hk.2) (.int .i64 t1160)) (fun _ hk => hk.2) (.int .i64 t1161)) (fun _ hk => hk.2) (.slice Ao26 t1162.length co26)) (fun _ h_ => h_.1)))); (case side2 => exact (Kd.R_reads' HO1157.out).2.1); (case side3 => refine (Kd.R_reads' (e := 79) (base := w.heap.size) (ok := fun k_ => (True ∧ some k_ ≠ (.slice Ao21 t1155.length co21 : Value).ownBlock)) (n := t1162.length) (c := co26) ?_).2.2; exact (by (with_reducible repeat (first | apply Kd.R_alloc | apply Kd.R_drewN | apply Kd.R_drew)); exact (Kd.R_mono (Kd.R_far (p := ⟨gb1166, 2, none⟩) (Kd.R_far (p := ⟨gb1166, 1, none⟩) (Kd.R_far (p := ⟨gb1166, 0, none⟩) (Kd.R_types HO1164.out BK1166.out (by decide)) (fun _ hk => hk.2) (.int .i64 t1160)) (fun _ hk => hk.2) (.int .i64 t1161)) (fun _ hk => hk.2) (.slice Ao26 t1162.length co26)) (fun _ h_ => h_.1)))); (case side4 => exact (Kd.R_reads' HO1164.out).2.1); rintro e w28 ⟨rfl, hb⟩; refine ⟨_, rfl, ?_⟩; have n0_ := Aside0.mk (Kd.R_below (by (with_reducible repeat (first | apply Kd.R_alloc | apply Kd.R_drewN | apply Kd.R_drew)); exact (Kd.R_mono (Kd.R_far (p := ⟨gb1166, 2, none⟩) (Kd.R_far (p := ⟨gb1166, 1, none⟩) (Kd.R_far (p := ⟨gb1166, 0, none⟩) (Kd.R_types HO1157.out BK1166.out (by decide)) (fun _ hk => hk.2) (.int .i64 t1160)) (fun _ hk => hk.2) (.int .i64 t1161)) (fun _ hk => hk.2) (.slice Ao26 t1162.length co26)) (fun _ h_ => h_.1))) hb); have n1_ := Aside0.mk (Kd.R_below (by (with_reducible repeat (first | apply Kd.R_alloc | apply Kd.R_drewN | apply Kd.R_drew)); exact (Kd.R_mono (Kd.R_far (p := ⟨gb1166, 2, none⟩) (Kd.R_far (p := ⟨gb1166, 1, none⟩) (Kd.R_far (p := ⟨gb1166, 0, none⟩) (Kd.R_types HO1164.out BK1166.out (by decide)) (fun _ hk => hk.2) (.int .i64 t1160)) (fun _ hk => hk.2) (.int .i64 t1161)) (fun _ hk => hk.2) (.slice Ao26 t1162.length co26)) (fun _ h_ => h_.1))) hb); have n2_ := Aside0.mk (blk_below (g := gb1159) (o := .cells #[.int .i64 t1153, .int .i64 t1154, .slice Ao21 t1155.length co21] 38 (0, 0)) (by (with_reducible repeat (first | refine blk_drewN ?_ _ | refine blk_drew ?_ | refine blk_alloc ?_ _)); refine blk_far ?_ NB1159_1166.out _; (with_reducible repeat (first | refine blk_drewN ?_ _ | refine blk_drew ?_ | refine blk_alloc ?_ _)); refine blk_far ?_ NB1159_1166.out _; (with_reducible repeat (first | refine blk_drewN ?_ _ | refine blk_drew ?_ | refine blk_alloc ?_ _)); refine blk_far ?_ NB1159_1166.out _; (with_reducible repeat (first | refine blk_drewN ?_ _ | refine blk_drew ?_ | refine blk_alloc ?_ _)); exact BK1159.out) hb); have n3_ := Aside0.mk (blk_below (g := gb1166) (o := .cells #[.int .i64 t1160, .int .i64 t1161, .slice Ao26 t1162.length co26] 38 (0, 0)) (by (with_reducible repeat (first | refine blk_drewN ?_ _ | refine blk_drew ?_ | refine blk_alloc ?_ _)); refine blk_put (cs := #[.int .i64 t1160, .int .i64 t1161, .slice none 0 0]) ?_ 2 _ rfl; (with_reducible repeat (first | refine blk_drewN ?_ _ | refine blk_drew ?_ | refine blk_alloc ?_ _)); refine blk_put (cs := #[.int .i64 t1160, .int .i64 0, .slice none 0 0]) ?_ 1 _ rfl; (with_reducible repeat (first | refine blk_drewN ?_ _ | refine blk_drew ?_ | refine blk_alloc ?_ _)); refine blk_put (cs := #[.int .i64 0, .int .i64 0, .slice none 0 0]) ?_ 0 _ rfl; (with_reducible repeat (first | refine blk_drewN ?_ _ | refine blk_drew ?_ | refine blk_alloc ?_ _)); exact BK1166.out) hb); have n4_ := Aside0.mk (below_step (by repeat (first | (with_reducible first | exact HB.out | apply below_alloc | apply pw_below_drewN | apply below_drew1 | refine below_set ?_ GE1159.out | refine below_set ?_ GE1166.out) | exact HB.out)) hb); clear HO1157; clear HO1164; clear BK1159; clear BK1166; clear HB; have HO1157 := n0_; have HO1164 := n1_; have BK1159 := n2_; have BK1166 := n3_; have HB := n4_; clear n0_ n1_ n2_ n3_ n4_; (try clear hb); (try clear hb2); (try clear hk); (try clear hi)))
            go_ret2
            exact ⟨by first | rfl | (simp [errW_none, errW_some] <;> rfl) | (simp [*, errW_none, errW_some] <;> rfl), by repeat (first | (with_reducible first | exact HB.out | apply below_alloc | apply pw_below_drewN | apply below_drew1 | refine below_set ?_ GE1159.out | refine below_set ?_ GE1166.out) | exact HB.out)⟩
          · rw [if_neg c16] at H
            have c16b0 : (t1165 == 0) = false := beq_eq_false_iff_ne.mpr c16
            have c16b1 : (t1165 != 0) = true := bne_iff_ne.mpr c16
            simp only [Option.some.injEq, Prod.mk.injEq] at H
            obtain ⟨rfl, rfl⟩ := H
            go_wp2_with (first | ((with_reducible refine gate_callee (f := 64) rfl ?_); refine goesL_ (some 27) rfl rfl Try.func64 (by kernel_rfl) rfl #[.int .i64 a0, .int .i64 a1, .slice A2 l2.length c2] rfl (by (try simp only [List.map_toArray, List.map_cons, List.map_nil]); first | done | rfl | (simp only [List.length_drop, List.length_take]; rfl)) ?_; (with_reducible refine (impl_SignatureOf.calls a0 a1 _ _ l2 t1153 t1154 t1155 t1158 _ ?side1 ?side2 A13.out).mono ?_); (case side1 => repeat (first | exact (Kd.C_below HR2.out HB.out) | (with_reducible refine Kd.C_alloc ?_ _) | (with_reducible refine Kd.C_drewN ?_ _) | (with_reducible refine Kd.C_drew ?_))); (case side2 => exact HC2.out); rintro e w29 ⟨v1156, rfl, ho0, hb⟩; refine ⟨_, rfl, ?_⟩; have n0_ := Aside0.mk (Kd.R_lower ho0 (below_size (by repeat (first | (with_reducible first | exact HB.out | apply below_alloc | apply pw_below_drewN | apply below_drew1) | exact HB.out)))); have n1_ := Aside0.mk (below_step (by repeat (first | (with_reducible first | exact HB.out | apply below_alloc | apply pw_below_drewN | apply below_drew1) | exact HB.out)) hb); clear HB; have HO1157 := n0_; have HB := n1_; clear n0_ n1_; (try clear hb); (try clear hb2); (try clear hk); (try clear hi); (try clear ho0)) | ((with_reducible refine gate_dst (N := 10) rfl ?_); refine box_event ?hg (N := 10) ?hd (cs := #[.int .i64 0, .int .i64 0, .slice none 0 0]) (t := 38) ?hr ?_; (case hd => rfl); (case hg => rfl); (case hr => first | (go_simp; done) | (go_simp; rfl)); intro gb1159 hg w30 hbox hb; have n0_ := Aside0.mk (Kd.R_below (by (with_reducible repeat (first | apply Kd.R_alloc | apply Kd.R_drewN | apply Kd.R_drew)); exact HO1157.out) hb); have n1_ := Aside0.mk (below_step (by repeat (first | (with_reducible first | exact HB.out | apply below_alloc | apply pw_below_drewN | apply below_drew1) | exact HB.out)) hb); have n2_ := Aside0.mk (hbox); have n3_ := Aside0.mk ((by rw [hg]; exact (below_size (by repeat (first | (with_reducible first | exact HB.out | apply below_alloc | apply pw_below_drewN | apply below_drew1) | exact HB.out))) : w.heap.size ≤ gb1159)); have n4_ := Aside0.mk ((by rw [hg]; exact (below_size (by repeat (first | (with_reducible first | exact HB.out | apply below_alloc | apply pw_below_drewN | apply below_drew1) | exact HB.out))) : w.heap.size ≤ gb1159)); clear HO1157; clear HB; have HO1157 := n0_; have HB := n1_; have BK1159 := n2_; have GW1159 := n3_; have GE1159 := n4_; clear n0_ n1_ n2_ n3_ n4_; clear hb hbox hg; have hcz31_0 : w30.cell? ⟨gb1159, 0, none⟩ = some (.int .i64 0) := (blk_cell BK1159.out 0).trans rfl; have hcz31_1 : w30.cell? ⟨gb1159, 1, none⟩ = some (.int .i64 0) := (blk_cell BK1159.out 1).trans rfl; have hcz31_2 : w30.cell? ⟨gb1159, 2, none⟩ = some (.slice none 0 0) := (blk_cell BK1159.out 2).trans rfl; have hfz31_0 := blk_frozen BK1159.out 0; have hfz31_1 := blk_frozen BK1159.out 1; have hfz31_2 := blk_frozen BK1159.out 2; obtain ⟨Ao32, co32, eo32⟩ := Kd.R_slice HO1157.out; subst eo32) | ((with_reducible refine gate_callee (f := 64) rfl ?_); refine goesL_ (some 37) rfl rfl Try.func64 (by kernel_rfl) rfl #[.int .i64 a0, .int .i64 a1, .slice A3 l3.length c3] rfl (by (try simp only [List.map_toArray, List.map_cons, List.map_nil]); first | done | rfl | (simp only [List.length_drop, List.length_take]; rfl)) ?_; (with_reducible refine (impl_SignatureOf.calls a0 a1 _ _ l3 t1160 t1161 t1162 t1165 _ ?side1 ?side2 A15.out).mono ?_); (case side1 => exact Kd.C_below HR3.out (by repeat (first | (with_reducible first | exact HB.out | apply below_alloc | apply pw_below_drewN | apply below_drew1 | refine below_set ?_ GE1159.out) | exact HB.out))); (case side2 => exact HC3.out); rintro e w33 ⟨v1163, rfl, ho0, hb⟩; refine ⟨_, rfl, ?_⟩; have n0_ := Aside0.mk (Kd.R_elder' (by (with_reducible repeat (first | apply Kd.R_alloc | apply Kd.R_drewN | apply Kd.R_drew)); exact (Kd.R_mono (Kd.R_far (p := ⟨gb1159, 2, none⟩) (Kd.R_far (p := ⟨gb1159, 1, none⟩) (Kd.R_far (p := ⟨gb1159, 0, none⟩) (Kd.R_types HO1157.out BK1159.out (by decide)) (fun _ hk => hk.2) (.int .i64 t1153)) (fun _ hk => hk.2) (.int .i64 t1154)) (fun _ hk => hk.2) (.slice Ao32 t1155.length co32)) (fun _ h_ => h_.1))) (Kd.R_base ho0) hb); have n1_ := Aside0.mk (Kd.R_lower (Kd.R_new' ho0 (Kd.R_lt (by (with_reducible repeat (first | apply Kd.R_alloc | apply Kd.R_drewN | apply Kd.R_drew)); exact (Kd.R_mono (Kd.R_far (p := ⟨gb1159, 2, none⟩) (Kd.R_far (p := ⟨gb1159, 1, none⟩) (Kd.R_far (p := ⟨gb1159, 0, none⟩) (Kd.R_types HO1157.out BK1159.out (by decide)) (fun _ hk => hk.2) (.int .i64 t1153)) (fun _ hk => hk.2) (.int .i64 t1154)) (fun _ hk => hk.2) (.slice Ao32 t1155.length co32)) (fun _ h_ => h_.1))))) (below_size (by repeat (first | (with_reducible first | exact HB.out | apply below_alloc | apply pw_below_drewN | apply below_drew1 | refine below_set ?_ GE1159.out) | exact HB.out)))); have n2_ := Aside0.mk (blk_below (g := gb1159) (o := .cells #[.int .i64 t1153, .int .i64 t1154, .slice Ao32 t1155.length co32] 38 (0, 0)) (by (with_reducible repeat (first | refine blk_drewN ?_ _ | refine blk_drew ?_ | refine blk_alloc ?_ _)); refine blk_put (cs := #[.int .i64 t1153, .int .i64 t1154, .slice none 0 0]) ?_ 2 _ rfl; (with_reducible repeat (first | refine blk_drewN ?_ _ | refine blk_drew ?_ | refine blk_alloc ?_ _)); refine blk_put (cs := #[.int .i64 t1153, .int .i64 0, .slice none 0 0]) ?_ 1 _ rfl; (with_reducible repeat (first | refine blk_drewN ?_ _ | refine blk_drew ?_ | refine blk_alloc ?_ _)); refine blk_put (cs := #[.int .i64 0, .int .i64 0, .slice none 0 0]) ?_ 0 _ rfl; (with_reducible repeat (first | refine blk_drewN ?_ _ | refine blk_drew ?_ | refine blk_alloc ?_ _)); exact BK1159.out) hb); have n3_ := Aside0.mk (below_step (by repeat (first | (with_reducible first | exact HB.out | apply below_alloc | apply pw_below_drewN | apply below_drew1 | refine below_set ?_ GE1159.out) | exact HB.out)) hb); clear HO1157; clear BK1159; clear HB; have HO1157 := n0_; have HO1164 := n1_; have BK1159 := n2_; have HB := n3_; clear n0_ n1_ n2_ n3_; (try clear hb); (try clear hb2); (try clear hk); (try clear hi); (try clear ho0)) | ((with_reducible refine gate_dst (N := 12) rfl ?_); refine box_event ?hg (N := 12) ?hd (cs := #[.int .i64 0, .int .i64 0, .slice none 0 0]) (t := 38) ?hr ?_; (case hd => rfl); (case hg => rfl); (case hr => first | (go_simp; done) | (go_simp; rfl)); intro gb1166 hg w34 hbox hb; have n0_ := Aside0.mk (Kd.R_below (by (with_reducible repeat (first | apply Kd.R_alloc | apply Kd.R_drewN | apply Kd.R_drew)); exact HO1157.out) hb); have n1_ := Aside0.mk (Kd.R_below (by (with_reducible repeat (first | apply Kd.R_alloc | apply Kd.R_drewN | apply Kd.R_drew)); exact HO1164.out) hb); have n2_ := Aside0.mk (blk_below (g := gb1159) (o := .cells #[.int .i64 t1153, .int .i64 t1154, .slice Ao32 t1155.length co32] 38 (0, 0)) (by (with_reducible repeat (first | refine blk_drewN ?_ _ | refine blk_drew ?_ | refine blk_alloc ?_ _)); exact BK1159.out) hb); have n3_ := Aside0.mk (below_step (by repeat (first | (with_reducible first | exact HB.out | apply below_alloc | apply pw_below_drewN | apply below_drew1 | refine below_set ?_ GE1159.out) | exact HB.out)) hb); have n4_ := Aside0.mk (hbox); have n5_ := Aside0.mk ((by rw [hg]; exact (below_size (by repeat (first | (with_reducible first | exact HB.out | apply below_alloc | apply pw_below_drewN | apply below_drew1 | refine below_set ?_ GE1159.out) | exact HB.out))) : w.heap.size ≤ gb1166)); have n6_ := Aside0.mk ((by rw [hg]; exact (below_size (by repeat (first | (with_reducible first | exact HB.out | apply below_alloc | apply pw_below_drewN | apply below_drew1 | refine below_set ?_ GE1159.out) | exact HB.out))) : w.heap.size ≤ gb1166)); have n7_ := Aside0.mk ((by rw [hg]; exact Nat.ne_of_lt (blk_lt (g := gb1159) (o := .cells #[.int .i64 t1153, .int .i64 t1154, .slice Ao32 t1155.length co32] 38 (0, 0)) (by (with_reducible repeat (first | refine blk_drewN ?_ _ | refine blk_drew ?_ | refine blk_alloc ?_ _)); exact BK1159.out)) : gb1159 ≠ gb1166)); have n8_ := Aside0.mk ((by rw [hg]; exact Nat.ne_of_gt (blk_lt (g := gb1159) (o := .cells #[.int .i64 t1153, .int .i64 t1154, .slice Ao32 t1155.length co32] 38 (0, 0)) (by (with_reducible repeat (first | refine blk_drewN ?_ _ | refine blk_drew ?_ | refine blk_alloc ?_ _)); exact BK1159.out)) : gb1166 ≠ gb1159)); clear HO1157; clear HO1164; clear BK1159; clear HB; have HO1157 := n0_; have HO1164 := n1_; have BK1159 := n2_; have HB := n3_; have BK1166 := n4_; have GW1166 := n5_; have GE1166 := n6_; have NB1159_1166 := n7_; have NB1166_1159 := n8_; clear n0_ n1_ n2_ n3_ n4_ n5_ n6_ n7_ n8_; clear hb hbox hg; have hnb35 := NB1166_1159.out; have hnc35 := NB1159_1166.out; have hcz36_0 : w34.cell? ⟨gb1166, 0, none⟩ = some (.int .i64 0) := (blk_cell BK1166.out 0).trans rfl; have hcz36_1 : w34.cell? ⟨gb1166, 1, none⟩ = some (.int .i64 0) := (blk_cell BK1166.out 1).trans rfl; have hcz36_2 : w34.cell? ⟨gb1166, 2, none⟩ = some (.slice none 0 0) := (blk_cell BK1166.out 2).trans rfl; have hfz36_0 := blk_frozen BK1166.out 0; have hfz36_1 := blk_frozen BK1166.out 1; have hfz36_2 := blk_frozen BK1166.out 2; obtain ⟨Ao37, co37, eo37⟩ := Kd.R_slice HO1164.out; subst eo37))
            go_ret2
            exact ⟨by first | rfl | (simp [errW_none, errW_some] <;> rfl) | (simp [*, errW_none, errW_some] <;> rfl), by repeat (first | (with_reducible first | exact HB.out | apply below_alloc | apply pw_below_drewN | apply below_drew1 | refine below_set ?_ GE1159.out | refine below_set ?_ GE1166.out) | exact HB.out)⟩
        · rw [if_neg c14] at H
          have c14b0 : (t1158 == 0) = false := beq_eq_false_iff_ne.mpr c14
          have c14b1 : (t1158 != 0) = true := bne_iff_ne.mpr c14
          simp only [Option.some.injEq, Prod.mk.injEq] at H
          obtain ⟨rfl, rfl⟩ := H
          go_wp2_with (first | ((with_reducible refine gate_callee (f := 64) rfl ?_); refine goesL_ (some 27) rfl rfl Try.func64 (by kernel_rfl) rfl #[.int .i64 a0, .int .i64 a1, .slice A2 l2.length c2] rfl (by (try simp only [List.map_toArray, List.map_cons, List.map_nil]); first | done | rfl | (simp only [List.length_drop, List.length_take]; rfl)) ?_; (with_reducible refine (impl_SignatureOf.calls a0 a1 _ _ l2 t1153 t1154 t1155 t1158 _ ?side1 ?side2 A13.out).mono ?_); (case side1 => repeat (first | exact (Kd.C_below HR2.out HB.out) | (with_reducible refine Kd.C_alloc ?_ _) | (with_reducible refine Kd.C_drewN ?_ _) | (with_reducible refine Kd.C_drew ?_))); (case side2 => exact HC2.out); rintro e w38 ⟨v1156, rfl, ho0, hb⟩; refine ⟨_, rfl, ?_⟩; have n0_ := Aside0.mk (Kd.R_lower ho0 (below_size (by repeat (first | (with_reducible first | exact HB.out | apply below_alloc | apply pw_below_drewN | apply below_drew1) | exact HB.out)))); have n1_ := Aside0.mk (below_step (by repeat (first | (with_reducible first | exact HB.out | apply below_alloc | apply pw_below_drewN | apply below_drew1) | exact HB.out)) hb); clear HB; have HO1157 := n0_; have HB := n1_; clear n0_ n1_; (try clear hb); (try clear hb2); (try clear hk); (try clear hi); (try clear ho0)) | ((with_reducible refine gate_dst (N := 10) rfl ?_); refine box_event ?hg (N := 10) ?hd (cs := #[.int .i64 0, .int .i64 0, .slice none 0 0]) (t := 38) ?hr ?_; (case hd => rfl); (case hg => rfl); (case hr => first | (go_simp; done) | (go_simp; rfl)); intro gb1159 hg w39 hbox hb; have n0_ := Aside0.mk (Kd.R_below (by (with_reducible repeat (first | apply Kd.R_alloc | apply Kd.R_drewN | apply Kd.R_drew)); exact HO1157.out) hb); have n1_ := Aside0.mk (below_step (by repeat (first | (with_reducible first | exact HB.out | apply below_alloc | apply pw_below_drewN | apply below_drew1) | exact HB.out)) hb); have n2_ := Aside0.mk (hbox); have n3_ := Aside0.mk ((by rw [hg]; exact (below_size (by repeat (first | (with_reducible first | exact HB.out | apply below_alloc | apply pw_below_drewN | apply below_drew1) | exact HB.out))) : w.heap.size ≤ gb1159)); have n4_ := Aside0.mk ((by rw [hg]; exact (below_size (by repeat (first | (with_reducible first | exact HB.out | apply below_alloc | apply pw_below_drewN | apply below_drew1) | exact HB.out))) : w.heap.size ≤ gb1159)); clear HO1157; clear HB; have HO1157 := n0_; have HB := n1_; have BK1159 := n2_; have GW1159 := n3_; have GE1159 := n4_; clear n0_ n1_ n2_ n3_ n4_; clear hb hbox hg; have hcz40_0 : w39.cell? ⟨gb1159, 0, none⟩ = some (.int .i64 0) := (blk_cell BK1159.out 0).trans rfl; have hcz40_1 : w39.cell? ⟨gb1159, 1, none⟩ = some (.int .i64 0) := (blk_cell BK1159.out 1).trans rfl; have hcz40_2 : w39.cell? ⟨gb1159, 2, none⟩ = some (.slice none 0 0) := (blk_cell BK1159.out 2).trans rfl; have hfz40_0 := blk_frozen BK1159.out 0; have hfz40_1 := blk_frozen BK1159.out 1; have hfz40_2 := blk_frozen BK1159.out 2; obtain ⟨Ao41, co41, eo41⟩ := Kd.R_slice HO1157.out; subst eo41))
          go_ret2
          exact ⟨by first | rfl | (simp [errW_none, errW_some] <;> rfl) | (simp [*, errW_none, errW_some] <;> rfl), by repeat (first | (with_reducible first | exact HB.out | apply below_alloc | apply pw_below_drewN | apply below_drew1 | refine below_set ?_ GE1159.out) | exact HB.out)⟩
end Go.Proofs.Ytaiefdhenikiiaa.Base
namespace Go.Proofs.Ytaiefdhenikiiaa.Base
open Go.RowKit Go.Proofs.YtaiefdhenikiiaaW.PrintWords Go.Proofs.YtaiefdhenikiiaaW.PrintLast Go.Proofs.YtaiefdhenikiiaaW.PrintMore
attribute [local go_sem] max2_int min2_int max_two min_two max_three min_three max_four min_four Go.Proofs.YtaiefdhenikiiaaZ.min2_string   -- for this text's walks alone
set_option linter.unusedVariables false
set_option linter.unusedSimpArgs false
def laws_FnExactAreSignaturesEqual.j0 : Nat → List (List Int) → List (List Int) → List (List Int) → List (List Int) → Bool → Option (Bool)
  | 0, _, _, _, _, _ => none
  | k + 1, x2, x3, x12, x13, x55 => if x55 = true then (some false) else ((laws_toInt64SS.f k x2).bind fun t1124 => ((laws_eqInt64SS.f k x12 t1124).bind fun t1127 => (if t1127 = true then ((laws_toInt64SS.f k x3).bind fun t1128 => ((laws_eqInt64SS.f k x13 t1128).bind fun t1131 => (if t1131 = true then (some true) else (some false)))) else (some false))))
def laws_FnExactAreSignaturesEqual.f (k : Nat) (a0 : Int) (a1 : Int) (l2 : List (List Int)) (l3 : List (List Int)) : Option (Bool) := (laws_szInt64SS.f k l2 1048576).bind fun t1106 => (if t1106 < 0 then (some true) else ((laws_szInt64SS.f k l3 t1106).bind fun t1107 => (if t1107 < 0 then (some true) else ((laws_toInt64SS.f k l2).bind fun t1108 => ((laws_toInt64SS.f k l3).bind fun t1111 => ((spec_AreSignaturesEqual.f a0 a1 t1108 t1111).bind fun bt1114 => ((laws_toInt64SS.f k l2).bind fun t1116 => ((laws_toInt64SS.f k l3).bind fun t1119 => ((impl_AreSignaturesEqual.f k a0 a1 t1116 t1119).bind fun bt1122 => (if (bt1122.1 != bt1114.1) = true then (laws_FnExactAreSignaturesEqual.j0 k l2 l3 t1116 t1119 true) else (laws_FnExactAreSignaturesEqual.j0 k l2 l3 t1116 t1119 (bt1122.2 != bt1114.2))))))))))))
theorem laws_FnExactAreSignaturesEqual.mono_l : ∀ k, (∀ y0 y1 y2 y3 y4, LeO (laws_FnExactAreSignaturesEqual.j0 k y0 y1 y2 y3 y4) (laws_FnExactAreSignaturesEqual.j0 (k + 1) y0 y1 y2 y3 y4))
  | 0 => fun _ _ _ _ _ r h => by simp [laws_FnExactAreSignaturesEqual.j0] at h
  | k + 1 => by
    have ih0 := laws_FnExactAreSignaturesEqual.mono_l k
    · intro y0 y1 y2 y3 y4
      unfold laws_FnExactAreSignaturesEqual.j0
      repeat' first
      | (with_reducible exact ih0 _ _ _ _ _)
      | (with_reducible exact impl_AreSignaturesEqual.mono _ _ _ _ _)
      | (with_reducible exact laws_eqInt64SS.mono _ _ _)
      | (with_reducible exact laws_szInt64SS.mono _ _ _)
      | (with_reducible exact laws_toInt64SS.mono _ _)
      | (with_reducible exact LeO.refl _)
      | (with_reducible exact LeO.none _)
      | (with_reducible refine LeO.ite ?_ ?_)
      | (with_reducible refine LeO.bind ?_ (fun _ => ?_))
      | exact ih0 _ _ _ _ _
      | exact impl_AreSignaturesEqual.mono _ _ _ _ _
      | exact laws_eqInt64SS.mono _ _ _
      | exact laws_szInt64SS.mono _ _ _
      | exact laws_toInt64SS.mono _ _
      | exact LeO.none _
      | refine LeO.ite ?_ ?_
      | refine LeO.bind ?_ (fun _ => ?_)
theorem laws_FnExactAreSignaturesEqual.mono : ∀ a0 a1 a2 a3 k, LeO (laws_FnExactAreSignaturesEqual.f k a0 a1 a2 a3) (laws_FnExactAreSignaturesEqual.f (k + 1) a0 a1 a2 a3) := by
  intro a0 a1 a2 a3 k
  have ih0 := laws_FnExactAreSignaturesEqual.mono_l k
  unfold laws_FnExactAreSignaturesEqual.f
  repeat' first
      | (with_reducible exact ih0 _ _ _ _ _)
      | (with_reducible exact impl_AreSignaturesEqual.mono _ _ _ _ _)
      | (with_reducible exact laws_eqInt64SS.mono _ _ _)
      | (with_reducible exact laws_szInt64SS.mono _ _ _)
      | (with_reducible exact laws_toInt64SS.mono _ _)
      | (with_reducible exact LeO.refl _)
      | (with_reducible exact LeO.none _)
      | (with_reducible refine LeO.ite ?_ ?_)
      | (with_reducible refine LeO.bind ?_ (fun _ => ?_))
      | exact ih0 _ _ _ _ _
      | exact impl_AreSignaturesEqual.mono _ _ _ _ _
      | exact laws_eqInt64SS.mono _ _ _
      | exact laws_szInt64SS.mono _ _ _
      | exact laws_toInt64SS.mono _ _
      | exact LeO.none _
      | refine LeO.ite ?_ ?_
      | refine LeO.bind ?_ (fun _ => ?_)
set_option maxHeartbeats 8000000 in
set_option maxRecDepth 100000 in
theorem laws_FnExactAreSignaturesEqual.calls (k : Nat) (a0 : Int) (a1 : Int) (A2 : Option Addr) (c2 : Nat) (l2 : List (List Int)) (A3 : Option Addr) (c3 : Nat) (l3 : List (List Int)) (r : Bool) (w : World) (hr2 : Kd.C (Kd.slice 2 (Kd.int .i64)) w A2 l2.length l2) (hc2 : l2.length ≤ c2) (hr3 : Kd.C (Kd.slice 2 (Kd.int .i64)) w A3 l3.length l3) (hc3 : l3.length ≤ c3) (h : laws_FnExactAreSignaturesEqual.f k a0 a1 l2 l3 = some r) :
    Calls Try.prog 11 #[.int .i64 a0, .int .i64 a1, .slice A2 l2.length c2, .slice A3 l3.length c3] w fun e w' => e = .returned (.bool r) ∧ Below w.heap.size w w' := by
  have HR2 := Aside0.mk hr2
  have HC2 := Aside0.mk hc2
  clear hr2 hc2
  have HR3 := Aside0.mk hr3
  have HC3 := Aside0.mk hc3
  clear hr3 hc3
  have HB := Aside0.mk (Below.refl w.heap.size w)
  have H : ((laws_szInt64SS.f k l2 1048576).bind fun t1106 => (if t1106 < 0 then (some true) else ((laws_szInt64SS.f k l3 t1106).bind fun t1107 => (if t1107 < 0 then (some true) else ((laws_toInt64SS.f k l2).bind fun t1108 => ((laws_toInt64SS.f k l3).bind fun t1111 => ((spec_AreSignaturesEqual.f a0 a1 t1108 t1111).bind fun bt1114 => ((laws_toInt64SS.f k l2).bind fun t1116 => ((laws_toInt64SS.f k l3).bind fun t1119 => ((impl_AreSignaturesEqual.f k a0 a1 t1116 t1119).bind fun bt1122 => (if (bt1122.1 != bt1114.1) = true then (laws_FnExactAreSignaturesEqual.j0 k l2 l3 t1116 t1119 true) else (laws_FnExactAreSignaturesEqual.j0 k l2 l3 t1116 t1119 (bt1122.2 != bt1114.2))))))))))))) = some r := h
  clear h
  replace H := Option.bind_eq_some_iff.mp H
  obtain ⟨t1106, A50, H⟩ := H
  replace H : (if t1106 < 0 then (some true) else ((laws_szInt64SS.f k l3 t1106).bind fun t1107 => (if t1107 < 0 then (some true) else ((laws_toInt64SS.f k l2).bind fun t1108 => ((laws_toInt64SS.f k l3).bind fun t1111 => ((spec_AreSignaturesEqual.f a0 a1 t1108 t1111).bind fun bt1114 => ((laws_toInt64SS.f k l2).bind fun t1116 => ((laws_toInt64SS.f k l3).bind fun t1119 => ((impl_AreSignaturesEqual.f k a0 a1 t1116 t1119).bind fun bt1122 => (if (bt1122.1 != bt1114.1) = true then (laws_FnExactAreSignaturesEqual.j0 k l2 l3 t1116 t1119 true) else (laws_FnExactAreSignaturesEqual.j0 k l2 l3 t1116 t1119 (bt1122.2 != bt1114.2)))))))))))) = some r := H
  have A5 := Aside0.mk A50
  clear A50
  by_cases c6 : t1106 < 0
  · rw [if_pos c6] at H
    have c6b0 : decide (t1106 < 0) = true := decide_eq_true c6
    clear c6
    obtain rfl := Option.some.inj H
    go_enter Try.func11, Try.ntmps11
    go_wp2_with (first | ((with_reducible refine gate_callee (f := 53) rfl ?_); refine goesL_ (some 18) rfl rfl Try.func53 (by kernel_rfl) rfl #[.slice A2 l2.length c2, .int .i64 1048576] rfl (by (try simp only [List.map_toArray, List.map_cons, List.map_nil]); first | done | rfl | (simp only [List.length_drop, List.length_take]; rfl)) ?_; (with_reducible refine (laws_szInt64SS.calls k _ _ l2 1048576 t1106 _ ?side1 ?side2 A5.out).mono ?_); (case side1 => repeat (first | exact HR2.out | (with_reducible refine Kd.C_alloc ?_ _) | (with_reducible refine Kd.C_drewN ?_ _) | (with_reducible refine Kd.C_drew ?_))); (case side2 => exact HC2.out); rintro e w' ⟨rfl, ⟨nd, rfl⟩⟩; refine ⟨_, rfl, ?_⟩))
    go_ret
    exact ⟨by first | rfl | (simp [errW_none, errW_some] <;> rfl) | (simp [*, errW_none, errW_some] <;> rfl), by repeat (first | (with_reducible first | exact HB.out | apply below_alloc | apply pw_below_drewN | apply below_drew1) | exact HB.out)⟩
  · rw [if_neg c6] at H
    have c6b0 : decide (t1106 < 0) = false := decide_eq_false c6
    clear c6
    replace H := Option.bind_eq_some_iff.mp H
    obtain ⟨t1107, A70, H⟩ := H
    replace H : (if t1107 < 0 then (some true) else ((laws_toInt64SS.f k l2).bind fun t1108 => ((laws_toInt64SS.f k l3).bind fun t1111 => ((spec_AreSignaturesEqual.f a0 a1 t1108 t1111).bind fun bt1114 => ((laws_toInt64SS.f k l2).bind fun t1116 => ((laws_toInt64SS.f k l3).bind fun t1119 => ((impl_AreSignaturesEqual.f k a0 a1 t1116 t1119).bind fun bt1122 => (if (bt1122.1 != bt1114.1) = true then (laws_FnExactAreSignaturesEqual.j0 k l2 l3 t1116 t1119 true) else (laws_FnExactAreSignaturesEqual.j0 k l2 l3 t1116 t1119 (bt1122.2 != bt1114.2)))))))))) = some r := H
    have A7 := Aside0.mk A70
    clear A70
    by_cases c8 : t1107 < 0
    · rw [if_pos c8] at H
      have c8b0 : decide (t1107 < 0) = true := decide_eq_true c8
      clear c8
      obtain rfl := Option.some.inj H
      go_enter Try.func11, Try.ntmps11
      go_wp2_with (first | ((with_reducible refine gate_callee (f := 53) rfl ?_); refine goesL_ (some 18) rfl rfl Try.func53 (by kernel_rfl) rfl #[.slice A2 l2.length c2, .int .i64 1048576] rfl (by (try simp only [List.map_toArray, List.map_cons, List.map_nil]); first | done | rfl | (simp only [List.length_drop, List.length_take]; rfl)) ?_; (with_reducible refine (laws_szInt64SS.calls k _ _ l2 1048576 t1106 _ ?side1 ?side2 A5.out).mono ?_); (case side1 => repeat (first | exact HR2.out | (with_reducible refine Kd.C_alloc ?_ _) | (with_reducible refine Kd.C_drewN ?_ _) | (with_reducible refine Kd.C_drew ?_))); (case side2 => exact HC2.out); rintro e w' ⟨rfl, ⟨nd, rfl⟩⟩; refine ⟨_, rfl, ?_⟩) | ((with_reducible refine gate_callee (f := 53) rfl ?_); refine goesL_ (some 23) rfl rfl Try.func53 (by kernel_rfl) rfl #[.slice A3 l3.length c3, .int .i64 t1106] rfl (by (try simp only [List.map_toArray, List.map_cons, List.map_nil]); first | done | rfl | (simp only [List.length_drop, List.length_take]; rfl)) ?_; (with_reducible refine (laws_szInt64SS.calls k _ _ l3 t1106 t1107 _ ?side1 ?side2 A7.out).mono ?_); (case side1 => repeat (first | exact HR3.out | (with_reducible refine Kd.C_alloc ?_ _) | (with_reducible refine Kd.C_drewN ?_ _) | (with_reducible refine Kd.C_drew ?_))); (case side2 => exact HC3.out); rintro e w' ⟨rfl, ⟨nd, rfl⟩⟩; refine ⟨_, rfl, ?_⟩))
      go_ret
      exact ⟨by first | rfl | (simp [errW_none, errW_some] <;> rfl) | (simp [*, errW_none, errW_some] <;> rfl), by repeat (first | (with_reducible first | exact HB.out | apply below_alloc | apply pw_below_drewN | apply below_drew1) | exact HB.out)⟩
    · rw [if_neg c8] at H
      have c8b0 : decide (t1107 < 0) = false := decide_eq_false c8
      clear c8
      replace H := Option.bind_eq_some_iff.mp H
      obtain ⟨t1108, A90, H⟩ := H
      replace H : ((laws_toInt64SS.f k l3).bind fun t1111 => ((spec_AreSignaturesEqual.f a0 a1 t1108 t1111).bind fun bt1114 => ((laws_toInt64SS.f k l2).bind fun t1116 => ((laws_toInt64SS.f k l3).bind fun t1119 => ((impl_AreSignaturesEqual.f k a0 a1 t1116 t1119).bind fun bt1122 => (if (bt1122.1 != bt1114.1) = true then (laws_FnExactAreSignaturesEqual.j0 k l2 l3 t1116 t1119 true) else (laws_FnExactAreSignaturesEqual.j0 k l2 l3 t1116 t1119 (bt1122.2 != bt1114.2)))))))) = some r := H
      have A9 := Aside0.mk A90
      clear A90
      replace H := Option.bind_eq_some_iff.mp H
      obtain ⟨t1111, A100, H⟩ := H
      replace H : ((spec_AreSignaturesEqual.f a0 a1 t1108 t1111).bind fun bt1114 => ((laws_toInt64SS.f k l2).bind fun t1116 => ((laws_toInt64SS.f k l3).bind fun t1119 => ((impl_AreSignaturesEqual.f k a0 a1 t1116 t1119).bind fun bt1122 => (if (bt1122.1 != bt1114.1) = true then (laws_FnExactAreSignaturesEqual.j0 k l2 l3 t1116 t1119 true) else (laws_FnExactAreSignaturesEqual.j0 k l2 l3 t1116 t1119 (bt1122.2 != bt1114.2))))))) = some r := H
      have A10 := Aside0.mk A100
      clear A100
      replace H := Option.bind_eq_some_iff.mp H
      obtain ⟨⟨t1114, t1115⟩, A110, H⟩ := H
      replace H : ((laws_toInt64SS.f k l2).bind fun t1116 => ((laws_toInt64SS.f k l3).bind fun t1119 => ((impl_AreSignaturesEqual.f k a0 a1 t1116 t1119).bind fun bt1122 => (if (bt1122.1 != t1114) = true then (laws_FnExactAreSignaturesEqual.j0 k l2 l3 t1116 t1119 true) else (laws_FnExactAreSignaturesEqual.j0 k l2 l3 t1116 t1119 (bt1122.2 != t1115)))))) = some r := H
      have A11 := Aside0.mk A110
      clear A110
      replace H := Option.bind_eq_some_iff.mp H
      obtain ⟨t1116, A120, H⟩ := H
      replace H : ((laws_toInt64SS.f k l3).bind fun t1119 => ((impl_AreSignaturesEqual.f k a0 a1 t1116 t1119).bind fun bt1122 => (if (bt1122.1 != t1114) = true then (laws_FnExactAreSignaturesEqual.j0 k l2 l3 t1116 t1119 true) else (laws_FnExactAreSignaturesEqual.j0 k l2 l3 t1116 t1119 (bt1122.2 != t1115))))) = some r := H
      have A12 := Aside0.mk A120
      clear A120
      replace H := Option.bind_eq_some_iff.mp H
      obtain ⟨t1119, A130, H⟩ := H
      replace H : ((impl_AreSignaturesEqual.f k a0 a1 t1116 t1119).bind fun bt1122 => (if (bt1122.1 != t1114) = true then (laws_FnExactAreSignaturesEqual.j0 k l2 l3 t1116 t1119 true) else (laws_FnExactAreSignaturesEqual.j0 k l2 l3 t1116 t1119 (bt1122.2 != t1115)))) = some r := H
      have A13 := Aside0.mk A130
      clear A130
      replace H := Option.bind_eq_some_iff.mp H
      obtain ⟨⟨t1122, t1123⟩, A140, H⟩ := H
      replace H : (if (t1122 != t1114) = true then (laws_FnExactAreSignaturesEqual.j0 k l2 l3 t1116 t1119 true) else (laws_FnExactAreSignaturesEqual.j0 k l2 l3 t1116 t1119 (t1123 != t1115))) = some r := H
      have A14 := Aside0.mk A140
      clear A140
      have HC15 := Aside0.mk H
      clear H
      go_enter Try.func11, Try.ntmps11
      go_upto_region 12 with (first | ((with_reducible refine gate_callee (f := 53) rfl ?_); refine goesL_ (some 18) rfl rfl Try.func53 (by kernel_rfl) rfl #[.slice A2 l2.length c2, .int .i64 1048576] rfl (by (try simp only [List.map_toArray, List.map_cons, List.map_nil]); first | done | rfl | (simp only [List.length_drop, List.length_take]; rfl)) ?_; (with_reducible refine (laws_szInt64SS.calls k _ _ l2 1048576 t1106 _ ?side1 ?side2 A5.out).mono ?_); (case side1 => repeat (first | exact HR2.out | (with_reducible refine Kd.C_alloc ?_ _) | (with_reducible refine Kd.C_drewN ?_ _) | (with_reducible refine Kd.C_drew ?_))); (case side2 => exact HC2.out); rintro e w' ⟨rfl, ⟨nd, rfl⟩⟩; refine ⟨_, rfl, ?_⟩) | ((with_reducible refine gate_callee (f := 53) rfl ?_); refine goesL_ (some 23) rfl rfl Try.func53 (by kernel_rfl) rfl #[.slice A3 l3.length c3, .int .i64 t1106] rfl (by (try simp only [List.map_toArray, List.map_cons, List.map_nil]); first | done | rfl | (simp only [List.length_drop, List.length_take]; rfl)) ?_; (with_reducible refine (laws_szInt64SS.calls k _ _ l3 t1106 t1107 _ ?side1 ?side2 A7.out).mono ?_); (case side1 => repeat (first | exact HR3.out | (with_reducible refine Kd.C_alloc ?_ _) | (with_reducible refine Kd.C_drewN ?_ _) | (with_reducible refine Kd.C_drew ?_))); (case side2 => exact HC3.out); rintro e w' ⟨rfl, ⟨nd, rfl⟩⟩; refine ⟨_, rfl, ?_⟩) | ((with_reducible refine gate_callee (f := 55) rfl ?_); refine goesL_ (some 30) rfl rfl Try.func55 (by kernel_rfl) rfl #[.slice A2 l2.length c2] rfl (by (try simp only [List.map_toArray, List.map_cons, List.map_nil]); first | done | rfl | (simp only [List.length_drop, List.length_take]; rfl)) ?_; (with_reducible refine (laws_toInt64SS.calls k _ _ l2 t1108 _ ?side1 ?side2 A9.out).mono ?_); (case side1 => repeat (first | exact HR2.out | (with_reducible refine Kd.C_alloc ?_ _) | (with_reducible refine Kd.C_drewN ?_ _) | (with_reducible refine Kd.C_drew ?_))); (case side2 => exact HC2.out); rintro e w16 ⟨v1109, rfl, ho0, hb⟩; refine ⟨_, rfl, ?_⟩; have n0_ := Aside0.mk (Kd.S_lower ho0 (below_size (by repeat (first | (with_reducible first | exact HB.out | apply below_alloc | apply pw_below_drewN | apply below_drew1) | exact HB.out)))); have n1_ := Aside0.mk (below_step (by repeat (first | (with_reducible first | exact HB.out | apply below_alloc | apply pw_below_drewN | apply below_drew1) | exact HB.out)) hb); clear HB; have HO1110 := n0_; have HB := n1_; clear n0_ n1_; (try clear hb); (try clear hb2); (try clear hk); (try clear hi); (try clear ho0)) | ((with_reducible refine gate_callee (f := 55) rfl ?_); refine goesL_ (some 32) rfl rfl Try.func55 (by kernel_rfl) rfl #[.slice A3 l3.length c3] rfl (by (try simp only [List.map_toArray, List.map_cons, List.map_nil]); first | done | rfl | (simp only [List.length_drop, List.length_take]; rfl)) ?_; (with_reducible refine (laws_toInt64SS.calls k _ _ l3 t1111 _ ?side1 ?side2 A10.out).mono ?_); (case side1 => repeat (first | exact (Kd.C_below HR3.out HB.out) | (with_reducible refine Kd.C_alloc ?_ _) | (with_reducible refine Kd.C_drewN ?_ _) | (with_reducible refine Kd.C_drew ?_))); (case side2 => exact HC3.out); rintro e w17 ⟨v1112, rfl, ho0, hb⟩; refine ⟨_, rfl, ?_⟩; have n0_ := Aside0.mk (Kd.S_elder' (by (with_reducible repeat (first | apply Kd.S_alloc | apply Kd.S_drewN | apply Kd.S_drew)); exact HO1110.out) (Kd.S_base ho0) hb); have n1_ := Aside0.mk (Kd.S_lower (Kd.S_new' ho0 (Kd.S_lt (by (with_reducible repeat (first | apply Kd.S_alloc | apply Kd.S_drewN | apply Kd.S_drew)); exact HO1110.out))) (below_size (by repeat (first | (with_reducible first | exact HB.out | apply below_alloc | apply pw_below_drewN | apply below_drew1) | exact HB.out)))); have n2_ := Aside0.mk (below_step (by repeat (first | (with_reducible first | exact HB.out | apply below_alloc | apply pw_below_drewN | apply below_drew1) | exact HB.out)) hb); clear HO1110; clear HB; have HO1110 := n0_; have HO1113 := n1_; have HB := n2_; clear n0_ n1_ n2_; (try clear hb); (try clear hb2); (try clear hk); (try clear hi); (try clear ho0); obtain ⟨Ao18, co18, eo18⟩ := Kd.S_slice HO1110.out; subst eo18; obtain ⟨Ao19, co19, eo19⟩ := Kd.S_slice HO1113.out; subst eo19) | ((with_reducible refine gate_callee (f := 54) rfl ?_); refine goesL_ (some 33) rfl rfl Try.func54 (by kernel_rfl) rfl #[.int .i64 a0, .int .i64 a1, .slice Ao18 t1108.length co18, .slice Ao19 t1111.length co19] rfl (by (try simp only [List.map_toArray, List.map_cons, List.map_nil]); first | done | rfl | (simp only [List.length_drop, List.length_take]; rfl)) ?_; (with_reducible refine (spec_AreSignaturesEqual.calls a0 a1 _ _ t1108 _ _ t1111 t1114 t1115 _ ?side1 ?side2 ?side3 ?side4 A11.out).mono ?_); (case side1 => repeat (first | exact (Kd.S_reads' HO1110.out).2.2 | (with_reducible refine Kd.C_alloc ?_ _) | (with_reducible refine Kd.C_drewN ?_ _) | (with_reducible refine Kd.C_drew ?_))); (case side2 => exact (Kd.S_reads' HO1110.out).2.1); (case side3 => repeat (first | exact (Kd.S_reads' HO1113.out).2.2 | (with_reducible refine Kd.C_alloc ?_ _) | (with_reducible refine Kd.C_drewN ?_ _) | (with_reducible refine Kd.C_drew ?_))); (case side4 => exact (Kd.S_reads' HO1113.out).2.1); rintro e w20 ⟨rfl, hb⟩; refine ⟨_, rfl, ?_⟩; have n0_ := Aside0.mk (Kd.S_below (by (with_reducible repeat (first | apply Kd.S_alloc | apply Kd.S_drewN | apply Kd.S_drew)); exact HO1110.out) hb); have n1_ := Aside0.mk (Kd.S_below (by (with_reducible repeat (first | apply Kd.S_alloc | apply Kd.S_drewN | apply Kd.S_drew)); exact HO1113.out) hb); have n2_ := Aside0.mk (below_step (by repeat (first | (with_reducible first | exact HB.out | apply below_alloc | apply pw_below_drewN | apply below_drew1) | exact HB.out)) hb); clear HO1110; clear HO1113; clear HB; have HO1110 := n0_; have HO1113 := n1_; have HB := n2_; clear n0_ n1_ n2_; (try clear hb); (try clear hb2); (try clear hk); (try clear hi)) | ((with_reducible refine gate_callee (f := 55) rfl ?_); refine goesL_ (some 37) rfl rfl Try.func55 (by kernel_rfl) rfl #[.slice A2 l2.length c2] rfl (by (try simp only [List.map_toArray, List.map_cons, List.map_nil]); first | done | rfl | (simp only [List.length_drop, List.length_take]; rfl)) ?_; (with_reducible refine (laws_toInt64SS.calls k _ _ l2 t1116 _ ?side1 ?side2 A12.out).mono ?_); (case side1 => repeat (first | exact (Kd.C_below HR2.out HB.out) | (with_reducible refine Kd.C_alloc ?_ _) | (with_reducible refine Kd.C_drewN ?_ _) | (with_reducible refine Kd.C_drew ?_))); (case side2 => exact HC2.out); rintro e w21 ⟨v1117, rfl, ho0, hb⟩; refine ⟨_, rfl, ?_⟩; have n0_ := Aside0.mk (Kd.S_elder' (by (with_reducible repeat (first | apply Kd.S_alloc | apply Kd.S_drewN | apply Kd.S_drew)); exact HO1110.out) (Kd.S_base ho0) hb); have n1_ := Aside0.mk (Kd.S_elder' (by (with_reducible repeat (first | apply Kd.S_alloc | apply Kd.S_drewN | apply Kd.S_drew)); exact HO1113.out) (Kd.S_base ho0) hb); have n2_ := Aside0.mk (Kd.S_lower (Kd.S_new' (Kd.S_new' ho0 (Kd.S_lt (by (with_reducible repeat (first | apply Kd.S_alloc | apply Kd.S_drewN | apply Kd.S_drew)); exact HO1110.out))) (Kd.S_lt (by (with_reducible repeat (first | apply Kd.S_alloc | apply Kd.S_drewN | apply Kd.S_drew)); exact HO1113.out))) (below_size (by repeat (first | (with_reducible first | exact HB.out | apply below_alloc | apply pw_below_drewN | apply below_drew1) | exact HB.out)))); have n3_ := Aside0.mk (below_step (by repeat (first | (with_reducible first | exact HB.out | apply below_alloc | apply pw_below_drewN | apply below_drew1) | exact HB.out)) hb); clear HO1110; clear HO1113; clear HB; have HO1110 := n0_; have HO1113 := n1_; have HO1118 := n2_; have HB := n3_; clear n0_ n1_ n2_ n3_; (try clear hb); (try clear hb2); (try clear hk); (try clear hi); (try clear ho0)) | ((with_reducible refine gate_callee (f := 55) rfl ?_); refine goesL_ (some 39) rfl rfl Try.func55 (by kernel_rfl) rfl #[.slice A3 l3.length c3] rfl (by (try simp only [List.map_toArray, List.map_cons, List.map_nil]); first | done | rfl | (simp only [List.length_drop, List.length_take]; rfl)) ?_; (with_reducible refine (laws_toInt64SS.calls k _ _ l3 t1119 _ ?side1 ?side2 A13.out).mono ?_); (case side1 => repeat (first | exact (Kd.C_below HR3.out HB.out) | (with_reducible refine Kd.C_alloc ?_ _) | (with_reducible refine Kd.C_drewN ?_ _) | (with_reducible refine Kd.C_drew ?_))); (case side2 => exact HC3.out); rintro e w22 ⟨v1120, rfl, ho0, hb⟩; refine ⟨_, rfl, ?_⟩; have n0_ := Aside0.mk (Kd.S_elder' (by (with_reducible repeat (first | apply Kd.S_alloc | apply Kd.S_drewN | apply Kd.S_drew)); exact HO1110.out) (Kd.S_base ho0) hb); have n1_ := Aside0.mk (Kd.S_elder' (by (with_reducible repeat (first | apply Kd.S_alloc | apply Kd.S_drewN | apply Kd.S_drew)); exact HO1113.out) (Kd.S_base ho0) hb); have n2_ := Aside0.mk (Kd.S_elder' (by (with_reducible repeat (first | apply Kd.S_alloc | apply Kd.S_drewN | apply Kd.S_drew)); exact HO1118.out) (Kd.S_base ho0) hb); have n3_ := Aside0.mk (Kd.S_lower (Kd.S_new' (Kd.S_new' (Kd.S_new' ho0 (Kd.S_lt (by (with_reducible repeat (first | apply Kd.S_alloc | apply Kd.S_drewN | apply Kd.S_drew)); exact HO1110.out))) (Kd.S_lt (by (with_reducible repeat (first | apply Kd.S_alloc | apply Kd.S_drewN | apply Kd.S_drew)); exact HO1113.out))) (Kd.S_lt (by (with_reducible repeat (first | apply Kd.S_alloc | apply Kd.S_drewN | apply Kd.S_drew)); exact HO1118.out))) (below_size (by repeat (first | (with_reducible first | exact HB.out | apply below_alloc | apply pw_below_drewN | apply below_drew1) | exact HB.out)))); have n4_ := Aside0.mk (below_step (by repeat (first | (with_reducible first | exact HB.out | apply below_alloc | apply pw_below_drewN | apply below_drew1) | exact HB.out)) hb); clear HO1110; clear HO1113; clear HO1118; clear HB; have HO1110 := n0_; have HO1113 := n1_; have HO1118 := n2_; have HO1121 := n3_; have HB := n4_; clear n0_ n1_ n2_ n3_ n4_; (try clear hb); (try clear hb2); (try clear hk); (try clear hi); (try clear ho0); obtain ⟨Ao23, co23, eo23⟩ := Kd.S_slice HO1118.out; subst eo23; obtain ⟨Ao24, co24, eo24⟩ := Kd.S_slice HO1121.out; subst eo24) | ((with_reducible refine gate_callee (f := 56) rfl ?_); refine goesL_ (some 45) rfl rfl Try.func56 (by kernel_rfl) rfl #[.int .i64 a0, .int .i64 a1, .slice Ao23 t1116.length co23, .slice Ao24 t1119.length co24] rfl (by (try simp only [List.map_toArray, List.map_cons, List.map_nil]); first | done | rfl | (simp only [List.length_drop, List.length_take]; rfl)) ?_; (with_reducible refine (impl_AreSignaturesEqual.calls k a0 a1 _ _ t1116 _ _ t1119 t1122 t1123 _ ?side1 ?side2 ?side3 ?side4 A14.out).mono ?_); (case side1 => repeat (first | exact (Kd.S_reads' HO1118.out).2.2 | (with_reducible refine Kd.C_alloc ?_ _) | (with_reducible refine Kd.C_drewN ?_ _) | (with_reducible refine Kd.C_drew ?_))); (case side2 => exact (Kd.S_reads' HO1118.out).2.1); (case side3 => repeat (first | exact (Kd.S_reads' HO1121.out).2.2 | (with_reducible refine Kd.C_alloc ?_ _) | (with_reducible refine Kd.C_drewN ?_ _) | (with_reducible refine Kd.C_drew ?_))); (case side4 => exact (Kd.S_reads' HO1121.out).2.1); rintro e w25 ⟨rfl, hb⟩; refine ⟨_, rfl, ?_⟩; have n0_ := Aside0.mk (Kd.S_below (by (with_reducible repeat (first | apply Kd.S_alloc | apply Kd.S_drewN | apply Kd.S_drew)); exact HO1110.out) hb); have n1_ := Aside0.mk (Kd.S_below (by (with_reducible repeat (first | apply Kd.S_alloc | apply Kd.S_drewN | apply Kd.S_drew)); exact HO1113.out) hb); have n2_ := Aside0.mk (Kd.S_below (by (with_reducible repeat (first | apply Kd.S_alloc | apply Kd.S_drewN | apply Kd.S_drew)); exact HO1118.out) hb); have n3_ := Aside0.mk (Kd.S_below (by (with_reducible repeat (first | apply Kd.S_alloc | apply Kd.S_drewN | apply Kd.S_drew)); exact HO1121.out) hb); have n4_ := Aside0.mk (below_step (by repeat (first | (with_reducible first | exact HB.out | apply below_alloc | apply pw_below_drewN | apply below_drew1) | exact HB.out)) hb); clear HO1110; clear HO1113; clear HO1118; clear HO1121; clear HB; have HO1110 := n0_; have HO1113 := n1_; have HO1118 := n2_; have HO1121 := n3_; have HB := n4_; clear n0_ n1_ n2_ n3_ n4_; (try clear hb); (try clear hb2); (try clear hk); (try clear hi)))
      (try simp only [Act.put, List.setIfInBounds_toArray, List.set_cons_zero, List.set_cons_succ])
      go_cut [55] (fun v55 wc => ∃ (kq : Nat) (x55_14 : Bool), v55 = .bool x55_14 ∧ Aside0 (laws_FnExactAreSignaturesEqual.j0 kq l2 l3 t1116 t1119 x55_14 = some r) ∧ Aside0 (kq ≤ k) ∧ Aside0 (Kd.S (Kd.slice 2 (Kd.int .i64)) 50 wc w.heap.size (fun k_ => some k_ ≠ ((.slice Ao24 t1119.length co24) : Value).ownBlock) (.slice Ao23 t1116.length co23) t1116) ∧ Aside0 (Kd.S (Kd.slice 2 (Kd.int .i64)) 50 wc w.heap.size (fun k_ => some k_ ≠ ((.slice Ao23 t1116.length co23) : Value).ownBlock) (.slice Ao24 t1119.length co24) t1119) ∧ Aside0 (Below w.heap.size w wc))
      case first =>
        have H := HC15.out
        clear HC15
        by_cases c26 : (t1122 != t1114) = true
        · rw [if_pos c26] at H
          have c26b0 : (t1122 != t1114) = true := c26
          (try (have c26b1 : decide (t1122 = t1114) = false := by simpa using c26))
          (try (have c26b2 : (t1122 == t1114) = false := by simpa using c26))
          (try (have c26b3 : ¬ (t1122 = t1114) := by simpa using c26))
          clear c26
          (first | rw [c26b0] | (simp only [i64_w, i32_w]; rw [c26b0]) | skip)
          have H' := Aside0.mk H
          clear H
          go_wp2
          go_meet
          case rel => exact ⟨_, (true), (by first | rfl | (simp; done) | (simp [*]; done)), H', ⟨by first | omega | exact Nat.le_refl _⟩, ⟨by (with_reducible repeat (first | apply Kd.S_alloc | apply Kd.S_drewN | apply Kd.S_drew)); exact Kd.S_mono HO1118.out (fun _ hk => hk.2)⟩, ⟨by (with_reducible repeat (first | apply Kd.S_alloc | apply Kd.S_drewN | apply Kd.S_drew)); exact Kd.S_mono HO1121.out (fun _ hk => hk.2)⟩, ⟨by repeat (first | (with_reducible first | exact HB.out | apply below_alloc | apply pw_below_drewN | apply below_drew1) | exact HB.out)⟩⟩
        · rw [if_neg c26] at H
          have c26b0 : (t1122 != t1114) = false := by simpa using c26
          (try (have c26b1 : decide (t1122 = t1114) = true := by simpa using c26))
          (try (have c26b2 : (t1122 == t1114) = true := by simpa using c26))
          clear c26
          (first | rw [c26b0] | (simp only [i64_w, i32_w]; rw [c26b0]) | skip)
          have H' := Aside0.mk H
          clear H
          go_wp2
          go_meet
          case rel => exact ⟨_, ((t1123 != t1115)), (by first | rfl | (simp; done) | (simp [*]; done)), H', ⟨by first | omega | exact Nat.le_refl _⟩, ⟨by (with_reducible repeat (first | apply Kd.S_alloc | apply Kd.S_drewN | apply Kd.S_drew)); exact Kd.S_mono HO1118.out (fun _ hk => hk.2)⟩, ⟨by (with_reducible repeat (first | apply Kd.S_alloc | apply Kd.S_drewN | apply Kd.S_drew)); exact Kd.S_mono HO1121.out (fun _ hk => hk.2)⟩, ⟨by repeat (first | (with_reducible first | exact HB.out | apply below_alloc | apply pw_below_drewN | apply below_drew1) | exact HB.out)⟩⟩
      case rest =>
        clear HC15
        try clear c1
        try clear c2
        try clear p2
        try clear c3
        try clear c5
        try clear c6
        try clear c6b0
        try clear c8
        try clear c8b0
        try clear c11
        try clear c26
        try clear c26b0
        try clear c26b1
        try clear c26b2
        obtain ⟨kq, x55_14, rfl, HA, HJ14, HO_12, HO_13, HB⟩ := hcut
        cases kq with
        | zero => exact absurd HA.out (by simp [laws_FnExactAreSignaturesEqual.j0])
        | succ kj14 =>
          have H := HA.out
          clear HA
          simp only [laws_FnExactAreSignaturesEqual.j0] at H
          by_cases c27 : x55_14 = true
          · subst c27
            have H1 : (some false) = some r := by rw [if_pos rfl] at H; exact H
            clear H
            have H := H1
            clear H1
            obtain rfl := Option.some.inj H
            go_wp2
            go_ret
            exact ⟨by first | rfl | (simp [errW_none, errW_some] <;> rfl) | (simp [*, errW_none, errW_some] <;> rfl), by repeat (first | (with_reducible first | exact HB.out | apply below_alloc | apply pw_below_drewN | apply below_drew1) | exact HB.out)⟩
          · replace c27 := Bool.eq_false_iff.mpr c27
            subst c27
            have H1 : ((laws_toInt64SS.f kj14 l2).bind fun t1124 => ((laws_eqInt64SS.f kj14 t1116 t1124).bind fun t1127 => (if t1127 = true then ((laws_toInt64SS.f kj14 l3).bind fun t1128 => ((laws_eqInt64SS.f kj14 t1119 t1128).bind fun t1131 => (if t1131 = true then (some true) else (some false)))) else (some false)))) = some r := by rw [if_neg (show ¬ (false = true) by decide)] at H; exact H
            clear H
            have H := H1
            clear H1
            replace H := Option.bind_eq_some_iff.mp H
            obtain ⟨t1124, A280, H⟩ := H
            replace H : ((laws_eqInt64SS.f kj14 t1116 t1124).bind fun t1127 => (if t1127 = true then ((laws_toInt64SS.f kj14 l3).bind fun t1128 => ((laws_eqInt64SS.f kj14 t1119 t1128).bind fun t1131 => (if t1131 = true then (some true) else (some false)))) else (some false))) = some r := H
            have A28 := Aside0.mk A280
            clear A280
            replace H := Option.bind_eq_some_iff.mp H
            obtain ⟨t1127, A290, H⟩ := H
            replace H : (if t1127 = true then ((laws_toInt64SS.f kj14 l3).bind fun t1128 => ((laws_eqInt64SS.f kj14 t1119 t1128).bind fun t1131 => (if t1131 = true then (some true) else (some false)))) else (some false)) = some r := H
            have A29 := Aside0.mk A290
            clear A290
            by_cases c30 : t1127 = true
            · subst c30
              have H1 : ((laws_toInt64SS.f kj14 l3).bind fun t1128 => ((laws_eqInt64SS.f kj14 t1119 t1128).bind fun t1131 => (if t1131 = true then (some true) else (some false)))) = some r := by rw [if_pos rfl] at H; exact H
              clear H
              have H := H1
              clear H1
              replace H := Option.bind_eq_some_iff.mp H
              obtain ⟨t1128, A310, H⟩ := H
              replace H : ((laws_eqInt64SS.f kj14 t1119 t1128).bind fun t1131 => (if t1131 = true then (some true) else (some false))) = some r := H
              have A31 := Aside0.mk A310
              clear A310
              replace H := Option.bind_eq_some_iff.mp H
              obtain ⟨t1131, A320, H⟩ := H
              replace H : (if t1131 = true then (some true) else (some false)) = some r := H
              have A32 := Aside0.mk A320
              clear A320
              by_cases c33 : t1131 = true
              · subst c33
                have H1 : (some true) = some r := by rw [if_pos rfl] at H; exact H
                clear H
                have H := H1
                clear H1
                obtain rfl := Option.some.inj H
                go_wp2_with (first | ((with_reducible refine gate_callee (f := 55) rfl ?_); refine goesL_ (some 58) rfl rfl Try.func55 (by kernel_rfl) rfl #[.slice A2 l2.length c2] rfl (by (try simp only [List.map_toArray, List.map_cons, List.map_nil]); first | done | rfl | (simp only [List.length_drop, List.length_take]; rfl)) ?_; (with_reducible refine (laws_toInt64SS.calls kj14 _ _ l2 t1124 _ ?side1 ?side2 A28.out).mono ?_); (case side1 => repeat (first | exact (Kd.C_below HR2.out HB.out) | (with_reducible refine Kd.C_alloc ?_ _) | (with_reducible refine Kd.C_drewN ?_ _) | (with_reducible refine Kd.C_drew ?_))); (case side2 => exact HC2.out); rintro e w34 ⟨v1125, rfl, ho0, hb⟩; refine ⟨_, rfl, ?_⟩; have n0_ := Aside0.mk (Kd.S_elder' (by (with_reducible repeat (first | apply Kd.S_alloc | apply Kd.S_drewN | apply Kd.S_drew)); exact HO_12.out) (Kd.S_base ho0) hb); have n1_ := Aside0.mk (Kd.S_elder' (by (with_reducible repeat (first | apply Kd.S_alloc | apply Kd.S_drewN | apply Kd.S_drew)); exact HO_13.out) (Kd.S_base ho0) hb); have n2_ := Aside0.mk (Kd.S_lower (Kd.S_new' (Kd.S_new' ho0 (Kd.S_lt (by (with_reducible repeat (first | apply Kd.S_alloc | apply Kd.S_drewN | apply Kd.S_drew)); exact HO_12.out))) (Kd.S_lt (by (with_reducible repeat (first | apply Kd.S_alloc | apply Kd.S_drewN | apply Kd.S_drew)); exact HO_13.out))) (below_size (by repeat (first | (with_reducible first | exact HB.out | apply below_alloc | apply pw_below_drewN | apply below_drew1) | exact HB.out)))); have n3_ := Aside0.mk (below_step (by repeat (first | (with_reducible first | exact HB.out | apply below_alloc | apply pw_below_drewN | apply below_drew1) | exact HB.out)) hb); clear HO_12; clear HO_13; clear HB; have HO_12 := n0_; have HO_13 := n1_; have HO1126 := n2_; have HB := n3_; clear n0_ n1_ n2_ n3_; (try clear hb); (try clear hb2); (try clear hk); (try clear hi); (try clear ho0); obtain ⟨Ao35, co35, eo35⟩ := Kd.S_slice HO1126.out; subst eo35) | ((with_reducible refine gate_callee (f := 32) rfl ?_); refine goesL_ (some 59) rfl rfl Try.func32 (by kernel_rfl) rfl #[.slice Ao23 t1116.length co23, .slice Ao35 t1124.length co35] rfl (by (try simp only [List.map_toArray, List.map_cons, List.map_nil]); first | done | rfl | (simp only [List.length_drop, List.length_take]; rfl)) ?_; (with_reducible refine (laws_eqInt64SS.calls kj14 _ _ t1116 _ _ t1124 true _ ?side1 ?side2 ?side3 ?side4 A29.out).mono ?_); (case side1 => repeat (first | exact (Kd.S_reads' HO_12.out).2.2 | (with_reducible refine Kd.C_alloc ?_ _) | (with_reducible refine Kd.C_drewN ?_ _) | (with_reducible refine Kd.C_drew ?_))); (case side2 => exact (Kd.S_reads' HO_12.out).2.1); (case side3 => repeat (first | exact (Kd.S_reads' HO1126.out).2.2 | (with_reducible refine Kd.C_alloc ?_ _) | (with_reducible refine Kd.C_drewN ?_ _) | (with_reducible refine Kd.C_drew ?_))); (case side4 => exact (Kd.S_reads' HO1126.out).2.1); rintro e w' ⟨rfl, ⟨nd, rfl⟩⟩; refine ⟨_, rfl, ?_⟩) | ((with_reducible refine gate_callee (f := 55) rfl ?_); refine goesL_ (some 63) rfl rfl Try.func55 (by kernel_rfl) rfl #[.slice A3 l3.length c3] rfl (by (try simp only [List.map_toArray, List.map_cons, List.map_nil]); first | done | rfl | (simp only [List.length_drop, List.length_take]; rfl)) ?_; (with_reducible refine (laws_toInt64SS.calls kj14 _ _ l3 t1128 _ ?side1 ?side2 A31.out).mono ?_); (case side1 => repeat (first | exact (Kd.C_below HR3.out (by repeat (first | (with_reducible first | exact HB.out | apply below_alloc | apply pw_below_drewN | apply below_drew1) | exact HB.out))) | (with_reducible refine Kd.C_alloc ?_ _) | (with_reducible refine Kd.C_drewN ?_ _) | (with_reducible refine Kd.C_drew ?_))); (case side2 => exact HC3.out); rintro e w36 ⟨v1129, rfl, ho0, hb⟩; refine ⟨_, rfl, ?_⟩; have n0_ := Aside0.mk (Kd.S_elder' (by (with_reducible repeat (first | apply Kd.S_alloc | apply Kd.S_drewN | apply Kd.S_drew)); exact HO_12.out) (Kd.S_base ho0) hb); have n1_ := Aside0.mk (Kd.S_elder' (by (with_reducible repeat (first | apply Kd.S_alloc | apply Kd.S_drewN | apply Kd.S_drew)); exact HO_13.out) (Kd.S_base ho0) hb); have n2_ := Aside0.mk (Kd.S_elder' (by (with_reducible repeat (first | apply Kd.S_alloc | apply Kd.S_drewN | apply Kd.S_drew)); exact HO1126.out) (Kd.S_base ho0) hb); have n3_ := Aside0.mk (Kd.S_lower (Kd.S_new' (Kd.S_new' (Kd.S_new' ho0 (Kd.S_lt (by (with_reducible repeat (first | apply Kd.S_alloc | apply Kd.S_drewN | apply Kd.S_drew)); exact HO_12.out))) (Kd.S_lt (by (with_reducible repeat (first | apply Kd.S_alloc | apply Kd.S_drewN | apply Kd.S_drew)); exact HO_13.out))) (Kd.S_lt (by (with_reducible repeat (first | apply Kd.S_alloc | apply Kd.S_drewN | apply Kd.S_drew)); exact HO1126.out))) (below_size (by repeat (first | (with_reducible first | exact HB.out | apply below_alloc | apply pw_below_drewN | apply below_drew1) | exact HB.out)))); have n4_ := Aside0.mk (below_step (by repeat (first | (with_reducible first | exact HB.out | apply below_alloc | apply pw_below_drewN | apply below_drew1) | exact HB.out)) hb); clear HO_12; clear HO_13; clear HO1126; clear HB; have HO_12 := n0_; have HO_13 := n1_; have HO1126 := n2_; have HO1130 := n3_; have HB := n4_; clear n0_ n1_ n2_ n3_ n4_; (try clear hb); (try clear hb2); (try clear hk); (try clear hi); (try clear ho0); obtain ⟨Ao37, co37, eo37⟩ := Kd.S_slice HO1130.out; subst eo37) | ((with_reducible refine gate_callee (f := 32) rfl ?_); refine goesL_ (some 64) rfl rfl Try.func32 (by kernel_rfl) rfl #[.slice Ao24 t1119.length co24, .slice Ao37 t1128.length co37] rfl (by (try simp only [List.map_toArray, List.map_cons, List.map_nil]); first | done | rfl | (simp only [List.length_drop, List.length_take]; rfl)) ?_; (with_reducible refine (laws_eqInt64SS.calls kj14 _ _ t1119 _ _ t1128 true _ ?side1 ?side2 ?side3 ?side4 A32.out).mono ?_); (case side1 => repeat (first | exact (Kd.S_reads' HO_13.out).2.2 | (with_reducible refine Kd.C_alloc ?_ _) | (with_reducible refine Kd.C_drewN ?_ _) | (with_reducible refine Kd.C_drew ?_))); (case side2 => exact (Kd.S_reads' HO_13.out).2.1); (case side3 => repeat (first | exact (Kd.S_reads' HO1130.out).2.2 | (with_reducible refine Kd.C_alloc ?_ _) | (with_reducible refine Kd.C_drewN ?_ _) | (with_reducible refine Kd.C_drew ?_))); (case side4 => exact (Kd.S_reads' HO1130.out).2.1); rintro e w' ⟨rfl, ⟨nd, rfl⟩⟩; refine ⟨_, rfl, ?_⟩))
                go_ret
                exact ⟨by first | rfl | (simp [errW_none, errW_some] <;> rfl) | (simp [*, errW_none, errW_some] <;> rfl), by repeat (first | (with_reducible first | exact HB.out | apply below_alloc | apply pw_below_drewN | apply below_drew1) | exact HB.out)⟩
              · replace c33 := Bool.eq_false_iff.mpr c33
                subst c33
                have H1 : (some false) = some r := by rw [if_neg (show ¬ (false = true) by decide)] at H; exact H
                clear H
                have H := H1
                clear H1
                obtain rfl := Option.some.inj H
                go_wp2_with (first | ((with_reducible refine gate_callee (f := 55) rfl ?_); refine goesL_ (some 58) rfl rfl Try.func55 (by kernel_rfl) rfl #[.slice A2 l2.length c2] rfl (by (try simp only [List.map_toArray, List.map_cons, List.map_nil]); first | done | rfl | (simp only [List.length_drop, List.length_take]; rfl)) ?_; (with_reducible refine (laws_toInt64SS.calls kj14 _ _ l2 t1124 _ ?side1 ?side2 A28.out).mono ?_); (case side1 => repeat (first | exact (Kd.C_below HR2.out HB.out) | (with_reducible refine Kd.C_alloc ?_ _) | (with_reducible refine Kd.C_drewN ?_ _) | (with_reducible refine Kd.C_drew ?_))); (case side2 => exact HC2.out); rintro e w38 ⟨v1125, rfl, ho0, hb⟩; refine ⟨_, rfl, ?_⟩; have n0_ := Aside0.mk (Kd.S_elder' (by (with_reducible repeat (first | apply Kd.S_alloc | apply Kd.S_drewN | apply Kd.S_drew)); exact HO_12.out) (Kd.S_base ho0) hb); have n1_ := Aside0.mk (Kd.S_elder' (by (with_reducible repeat (first | apply Kd.S_alloc | apply Kd.S_drewN | apply Kd.S_drew)); exact HO_13.out) (Kd.S_base ho0) hb); have n2_ := Aside0.mk (Kd.S_lower (Kd.S_new' (Kd.S_new' ho0 (Kd.S_lt (by (with_reducible repeat (first | apply Kd.S_alloc | apply Kd.S_drewN | apply Kd.S_drew)); exact HO_12.out))) (Kd.S_lt (by (with_reducible repeat (first | apply Kd.S_alloc | apply Kd.S_drewN | apply Kd.S_drew)); exact HO_13.out))) (below_size (by repeat (first | (with_reducible first | exact HB.out | apply below_alloc | apply pw_below_drewN | apply below_drew1) | exact HB.out)))); have n3_ := Aside0.mk (below_step (by repeat (first | (with_reducible first | exact HB.out | apply below_alloc | apply pw_below_drewN | apply below_drew1) | exact HB.out)) hb); clear HO_12; clear HO_13; clear HB; have HO_12 := n0_; have HO_13 := n1_; have HO1126 := n2_; have HB := n3_; clear n0_ n1_ n2_ n3_; (try clear hb); (try clear hb2); (try clear hk); (try clear hi); (try clear ho0); obtain ⟨Ao39, co39, eo39⟩ := Kd.S_slice HO1126.out; subst eo39) | ((with_reducible refine gate_callee (f := 32) rfl ?_); refine goesL_ (some 59) rfl rfl Try.func32 (by kernel_rfl) rfl #[.slice Ao23 t1116.length co23, .slice Ao39 t1124.length co39] rfl (by (try simp only [List.map_toArray, List.map_cons, List.map_nil]); first | done | rfl | (simp only [List.length_drop, List.length_take]; rfl)) ?_; (with_reducible refine (laws_eqInt64SS.calls kj14 _ _ t1116 _ _ t1124 true _ ?side1 ?side2 ?side3 ?side4 A29.out).mono ?_); (case side1 => repeat (first | exact (Kd.S_reads' HO_12.out).2.2 | (with_reducible refine Kd.C_alloc ?_ _) | (with_reducible refine Kd.C_drewN ?_ _) | (with_reducible refine Kd.C_drew ?_))); (case side2 => exact (Kd.S_reads' HO_12.out).2.1); (case side3 => repeat (first | exact (Kd.S_reads' HO1126.out).2.2 | (with_reducible refine Kd.C_alloc ?_ _) | (with_reducible refine Kd.C_drewN ?_ _) | (with_reducible refine Kd.C_drew ?_))); (case side4 => exact (Kd.S_reads' HO1126.out).2.1); rintro e w' ⟨rfl, ⟨nd, rfl⟩⟩; refine ⟨_, rfl, ?_⟩) | ((with_reducible refine gate_callee (f := 55) rfl ?_); refine goesL_ (some 63) rfl rfl Try.func55 (by kernel_rfl) rfl #[.slice A3 l3.length c3] rfl (by (try simp only [List.map_toArray, List.map_cons, List.map_nil]); first | done | rfl | (simp only [List.length_drop, List.length_take]; rfl)) ?_; (with_reducible refine (laws_toInt64SS.calls kj14 _ _ l3 t1128 _ ?side1 ?side2 A31.out).mono ?_); (case side1 => repeat (first | exact (Kd.C_below HR3.out (by repeat (first | (with_reducible first | exact HB.out | apply below_alloc | apply pw_below_drewN | apply below_drew1) | exact HB.out))) | (with_reducible refine Kd.C_alloc ?_ _) | (with_reducible refine Kd.C_drewN ?_ _) | (with_reducible refine Kd.C_drew ?_))); (case side2 => exact HC3.out); rintro e w40 ⟨v1129, rfl, ho0, hb⟩; refine ⟨_, rfl, ?_⟩; have n0_ := Aside0.mk (Kd.S_elder' (by (with_reducible repeat (first | apply Kd.S_alloc | apply Kd.S_drewN | apply Kd.S_drew)); exact HO_12.out) (Kd.S_base ho0) hb); have n1_ := Aside0.mk (Kd.S_elder' (by (with_reducible repeat (first | apply Kd.S_alloc | apply Kd.S_drewN | apply Kd.S_drew)); exact HO_13.out) (Kd.S_base ho0) hb); have n2_ := Aside0.mk (Kd.S_elder' (by (with_reducible repeat (first | apply Kd.S_alloc | apply Kd.S_drewN | apply Kd.S_drew)); exact HO1126.out) (Kd.S_base ho0) hb); have n3_ := Aside0.mk (Kd.S_lower (Kd.S_new' (Kd.S_new' (Kd.S_new' ho0 (Kd.S_lt (by (with_reducible repeat (first | apply Kd.S_alloc | apply Kd.S_drewN | apply Kd.S_drew)); exact HO_12.out))) (Kd.S_lt (by (with_reducible repeat (first | apply Kd.S_alloc | apply Kd.S_drewN | apply Kd.S_drew)); exact HO_13.out))) (Kd.S_lt (by (with_reducible repeat (first | apply Kd.S_alloc | apply Kd.S_drewN | apply Kd.S_drew)); exact HO1126.out))) (below_size (by repeat (first | (with_reducible first | exact HB.out | apply below_alloc | apply pw_below_drewN | apply below_drew1) | exact HB.out)))); have n4_ := Aside0.mk (below_step (by repeat (first | (with_reducible first | exact HB.out | apply below_alloc | apply pw_below_drewN | apply below_drew1) | exact HB.out)) hb); clear HO_12; clear HO_13; clear HO1126; clear HB; have HO_12 := n0_; have HO_13 := n1_; have HO1126 := n2_; have HO1130 := n3_; have HB := n4_; clear n0_ n1_ n2_ n3_ n4_; (try clear hb); (try clear hb2); (try clear hk); (try clear hi); (try clear ho0); obtain ⟨Ao41, co41, eo41⟩ := Kd.S_slice HO1130.out; subst eo41) | ((with_reducible refine gate_callee (f := 32) rfl ?_); refine goesL_ (some 64) rfl rfl Try.func32 (by kernel_rfl) rfl #[.slice Ao24 t1119.length co24, .slice Ao41 t1128.length co41] rfl (by (try simp only [List.map_toArray, List.map_cons, List.map_nil]); first | done | rfl | (simp only [List.length_drop, List.length_take]; rfl)) ?_; (with_reducible refine (laws_eqInt64SS.calls kj14 _ _ t1119 _ _ t1128 false _ ?side1 ?side2 ?side3 ?side4 A32.out).mono ?_); (case side1 => repeat (first | exact (Kd.S_reads' HO_13.out).2.2 | (with_reducible refine Kd.C_alloc ?_ _) | (with_reducible refine Kd.C_drewN ?_ _) | (with_reducible refine Kd.C_drew ?_))); (case side2 => exact (Kd.S_reads' HO_13.out).2.1); (case side3 => repeat (first | exact (Kd.S_reads' HO1130.out).2.2 | (with_reducible refine Kd.C_alloc ?_ _) | (with_reducible refine Kd.C_drewN ?_ _) | (with_reducible refine Kd.C_drew ?_))); (case side4 => exact (Kd.S_reads' HO1130.out).2.1); rintro e w' ⟨rfl, ⟨nd, rfl⟩⟩; refine ⟨_, rfl, ?_⟩))
                go_ret
                exact ⟨by first | rfl | (simp [errW_none, errW_some] <;> rfl) | (simp [*, errW_none, errW_some] <;> rfl), by repeat (first | (with_reducible first | exact HB.out | apply below_alloc | apply pw_below_drewN | apply below_drew1) | exact HB.out)⟩
            · replace c30 := Bool.eq_false_iff.mpr c30
              subst c30
              have H1 : (some false) = some r := by rw [if_neg (show ¬ (false = true) by decide)] at H; exact H
              clear H
              have H := H1
              clear H1
              obtain rfl := Option.some.inj H
              go_wp2_with (first | ((with_reducible refine gate_callee (f := 55) rfl ?_); refine goesL_ (some 58) rfl rfl Try.func55 (by kernel_rfl) rfl #[.slice A2 l2.length c2] rfl (by (try simp only [List.map_toArray, List.map_cons, List.map_nil]); first | done | rfl | (simp only [List.length_drop, List.length_take]; rfl)) ?_; (with_reducible refine (laws_toInt64SS.calls kj14 _ _ l2 t1124 _ ?side1 ?side2 A28.out).mono ?_); (case side1 => repeat (first | exact (Kd.C_below HR2.out HB.out) | (with_reducible refine Kd.C_alloc ?_ _) | (with_reducible refine Kd.C_drewN ?_ _) | (with_reducible refine Kd.C_drew ?_))); (case side2 => exact HC2.out); rintro e w42 ⟨v1125, rfl, ho0, hb⟩; refine ⟨_, rfl, ?_⟩; have n0_ := Aside0.mk (Kd.S_elder' (by (with_reducible repeat (first | apply Kd.S_alloc | apply Kd.S_drewN | apply Kd.S_drew)); exact HO_12.out) (Kd.S_base ho0) hb); have n1_ := Aside0.mk (Kd.S_elder' (by (with_reducible repeat (first | apply Kd.S_alloc | apply Kd.S_drewN | apply Kd.S_drew)); exact HO_13.out) (Kd.S_base ho0) hb); have n2_ := Aside0.mk (Kd.S_lower (Kd.S_new' (Kd.S_new' ho0 (Kd.S_lt (by (with_reducible repeat (first | apply Kd.S_alloc | apply Kd.S_drewN | apply Kd.S_drew)); exact HO_12.out))) (Kd.S_lt (by (with_reducible repeat (first | apply Kd.S_alloc | apply Kd.S_drewN | apply Kd.S_drew)); exact HO_13.out))) (below_size (by repeat (first | (with_reducible first | exact HB.out | apply below_alloc | apply pw_below_drewN | apply below_drew1) | exact HB.out)))); have n3_ := Aside0.mk (below_step (by repeat (first | (with_reducible first | exact HB.out | apply below_alloc | apply pw_below_drewN | apply below_drew1) | exact HB.out)) hb); clear HO_12; clear HO_13; clear HB; have HO_12 := n0_; have HO_13 := n1_; have HO1126 := n2_; have HB := n3_; clear n0_ n1_ n2_ n3_; (try clear hb); (try clear hb2); (try clear hk); (try clear hi); (try clear ho0); obtain ⟨Ao43, co43, eo43⟩ := Kd.S_slice HO1126.out; subst eo43) | ((with_reducible refine gate_callee (f := 32) rfl ?_); refine goesL_ (some 59) rfl rfl Try.func32 (by kernel_rfl) rfl #[.slice Ao23 t1116.length co23, .slice Ao43 t1124.length co43] rfl (by (try simp only [List.map_toArray, List.map_cons, List.map_nil]); first | done | rfl | (simp only [List.length_drop, List.length_take]; rfl)) ?_; (with_reducible refine (laws_eqInt64SS.calls kj14 _ _ t1116 _ _ t1124 false _ ?side1 ?side2 ?side3 ?side4 A29.out).mono ?_); (case side1 => repeat (first | exact (Kd.S_reads' HO_12.out).2.2 | (with_reducible refine Kd.C_alloc ?_ _) | (with_reducible refine Kd.C_drewN ?_ _) | (with_reducible refine Kd.C_drew ?_))); (case side2 => exact (Kd.S_reads' HO_12.out).2.1); (case side3 => repeat (first | exact (Kd.S_reads' HO1126.out).2.2 | (with_reducible refine Kd.C_alloc ?_ _) | (with_reducible refine Kd.C_drewN ?_ _) | (with_reducible refine Kd.C_drew ?_))); (case side4 => exact (Kd.S_reads' HO1126.out).2.1); rintro e w' ⟨rfl, ⟨nd, rfl⟩⟩; refine ⟨_, rfl, ?_⟩))
              go_ret
              exact ⟨by first | rfl | (simp [errW_none, errW_some] <;> rfl) | (simp [*, errW_none, errW_some] <;> rfl), by repeat (first | (with_reducible first | exact HB.out | apply below_alloc | apply pw_below_drewN | apply below_drew1) | exact HB.out)⟩
end Go.Proofs.Ytaiefdhenikiiaa.Base
namespace Go.Proofs.Ytaiefdhenikiiaa.PFnExactAreSignaturesEqual
open Go.RowKit Go.Proofs.YtaiefdhenikiiaaW.PrintWords Go.Proofs.YtaiefdhenikiiaaO Go.Proofs.Ytaiefdhenikiiaa.Base
set_option linter.unusedVariables false
def laws_FnExactAreSignaturesEqual.Pure : Prop := ∀ (a0 : Int) (a1 : Int) (l2 : List (List Int)) (l3 : List (List Int)), (Lit.int .i64 a0).wf = true → (Lit.int .i64 a1).wf = true → (l2.length ≤ 9223372036854775807 ∧ ∀ a_ ∈ l2, (a_.length ≤ 9223372036854775807 ∧ ∀ a__ ∈ a_, (Lit.int .i64 a__).wf = true)) → (l3.length ≤ 9223372036854775807 ∧ ∀ a_ ∈ l3, (a_.length ≤ 9223372036854775807 ∧ ∀ a__ ∈ a_, (Lit.int .i64 a__).wf = true)) → ∃ k, laws_FnExactAreSignaturesEqual.f k a0 a1 l2 l3 = some true
end Go.Proofs.Ytaiefdhenikiiaa.PFnExactAreSignaturesEqual
namespace Go.Proofs.Ytaiefdhenikiiaa.Pure
open Go.RowKit Go.Proofs.Ytaiefdhenikiiaa.Base Go.Proofs.Ytaiefdhenikiiaa.PFnExactAreSignaturesEqual Go.Proofs.YtaiefdhenikiiaaW.PrintWords Go.Proofs.YtaiefdhenikiiaaW.PrintLast
set_option linter.unusedSimpArgs false
set_option linter.unusedVariables false
theorem impl_eq (D N : Int) (a b : List (List Int)) (ha : a.length ≤ 1048576 ∧ (∀ r ∈ a, r.length ≤ 1048576)) (hb : b.length ≤ 1048576 ∧ (∀ r ∈ b, r.length ≤ 1048576)) : Ev (fun k => impl_AreSignaturesEqual.f k D N a b) (eqP D N a b) := by
  have hA : impl_SignatureOf.f D N a = some (sigR D N a) := by unfold impl_SignatureOf.f; rw [if_pos ha]
  have hB : impl_SignatureOf.f D N b = some (sigR D N b) := by unfold impl_SignatureOf.f; rw [if_pos hb]
  unfold impl_AreSignaturesEqual.f impl_IsPath.f
  simp only [Option.bind_some]
  have key : ∀ x : Bool, (Go.Proofs.YtaiefdhenikiiaaC.isPath D a && Go.Proofs.YtaiefdhenikiiaaC.isPath D b) = !x → Ev (fun k => impl_AreSignaturesEqual.j0 k D N a b x) (eqP D N a b) := by
    intro x hx
    cases x with
    | true =>
      refine Ev.step (f := fun _ => some (eqP D N a b)) (fun k => ?_) (Ev.now _)
      simp only [impl_AreSignaturesEqual.j0, if_true]
      unfold eqP
      rw [hx]; rfl
    | false =>
      rw [Bool.not_false, Bool.and_eq_true] at hx
      obtain ⟨pa, pb⟩ := hx
      by_cases hl : lvlB D N = true
      · have hc : codeP D N true = 0 := by unfold codeP; rw [if_pos rfl, if_pos hl]
        obtain ⟨d, n, rfl, rfl, hd, hn⟩ := lvl_nat hl
        have hs : Sz d n := ⟨hd.1, hd.2, by omega⟩
        have e1 : sigR (d : Int) (n : Int) a = serR (sigT d n a) := by unfold sigR; rw [pa, if_pos hc, Int.toNat_natCast, Int.toNat_natCast]
        have e2 : sigR (d : Int) (n : Int) b = serR (sigT d n b) := by unfold sigR; rw [pb, if_pos hc, Int.toNat_natCast, Int.toNat_natCast]
        have e3 : eqP (d : Int) (n : Int) a b = if (sigT d n a).bad = true ∨ (sigT d n b).bad = true then (false, 3) else (sameL (termsT (sigT d n a)) (termsT (sigT d n b)), 0) := by unfold eqP; rw [pa, pb, Bool.and_true, if_pos hc, Int.toNat_natCast, Int.toNat_natCast]
        have la := sigT_like hs a
        have lb := sigT_like hs b
        rw [e3]
        refine Ev.step (f := fun k => (some (serR (sigT d n a))).bind fun t => if t.2.2.2 = 0 then ((some (serR (sigT d n b))).bind fun u => if u.2.2.2 = 0 then ((impl_equalSeries.f k t.1 t.2.1 t.2.2.1 u.1 u.2.1 u.2.2.1).bind fun x => some (x, 0)) else some (false, u.2.2.2)) else some (false, t.2.2.2)) (fun k => ?_) ?_
        · simp only [impl_AreSignaturesEqual.j0, Bool.false_eq_true, if_false, hA, hB, e1, e2]
        · simp only [Option.bind_some]
          by_cases b1 : (sigT d n a).bad = true
          · rw [if_pos (Or.inl b1)]
            have : serR (sigT d n a) = (0, 0, [], 3) := by unfold serR; rw [if_pos b1]
            simp only [this]
            exact Ev.now _
          · have s1 : serR (sigT d n a) = ((d : Int), (n : Int), termsT (sigT d n a), 0) := by unfold serR; rw [if_neg b1, la.1, la.2.1]; rfl
            by_cases b2 : (sigT d n b).bad = true
            · rw [if_pos (Or.inr b2)]
              have : serR (sigT d n b) = (0, 0, [], 3) := by unfold serR; rw [if_pos b2]
              simp only [s1, this, if_true]
              exact Ev.now _
            · have s2 : serR (sigT d n b) = ((d : Int), (n : Int), termsT (sigT d n b), 0) := by unfold serR; rw [if_neg b2, lb.1, lb.2.1]; rfl
              rw [if_neg (by rintro (h | h); exact b1 h; exact b2 h)]
              simp only [s1, s2, if_true]
              have z := same_impl (d : Int) (n : Int) (termsT (sigT d n a)) (termsT (sigT d n b)) (by have := terms_len la hs; omega)
              exact Ev.bind z (Ev.now _)
      · have hc : codeP D N true = 2 := by unfold codeP; rw [if_pos rfl, if_neg hl]
        have e1 : sigR D N a = (0, 0, [], 2) := by unfold sigR; rw [pa, hc, if_neg (by decide)]
        have e3 : eqP D N a b = (false, 2) := by unfold eqP; rw [pa, pb, Bool.and_true, hc, if_neg (by decide)]
        rw [e3]
        refine Ev.step (f := fun _ => some (false, 2)) (fun k => ?_) (Ev.now _)
        simp only [impl_AreSignaturesEqual.j0, Bool.false_eq_true, if_false, hA, e1, Option.bind_some]
        rfl
  cases pa : Go.Proofs.YtaiefdhenikiiaaC.isPath D a with
  | false =>
    simp only [Bool.false_eq_true, if_false]
    exact key true (by rw [pa]; rfl)
  | true =>
    simp only [if_true]
    exact key _ (by rw [pa]; simp)
theorem FnExactAreSignaturesEqual : laws_FnExactAreSignaturesEqual.Pure := by
  intro D N a b _ _ hla hlb
  obtain ⟨hn, hr⟩ := hla
  obtain ⟨hm, hq⟩ := hlb
  obtain ⟨v, hs, hc⟩ := sz_any a 1048576 (by omega) (by omega) hn (fun r h => (hr r h).1)
  unfold laws_FnExactAreSignaturesEqual.f
  refine Ev.rounds (Ev.bind hs ?_)
  by_cases c : v < 0
  · simp only [c, if_true]; exact Ev.now _
  · simp only [c, if_false]
    have hv : v = 1048576 - a.length - total a := by rcases hc with hc | hc; exact absurd hc c; exact hc
    obtain ⟨u, hs2, hc2⟩ := sz_any b v (by omega) (by omega) hm (fun r h => (hq r h).1)
    refine Ev.bind hs2 ?_
    by_cases c2 : u < 0
    · simp only [c2, if_true]; exact Ev.now _
    · simp only [c2, if_false]
      have hu : u = v - b.length - total b := by rcases hc2 with hc2 | hc2; exact absurd hc2 c2; exact hc2
      have h1 : a.length ≤ 1048576 ∧ ∀ r ∈ a, r.length ≤ 1048576 := ⟨by omega, fun r h => by have := total_mem h; omega⟩
      have h2 : b.length ≤ 1048576 ∧ ∀ r ∈ b, r.length ≤ 1048576 := ⟨by omega, fun r h => by have := total_mem h; omega⟩
      have ca := copy_rows a h1.1 h1.2
      have cb := copy_rows b h2.1 h2.2
      have sa := same_rows a h1.1 h1.2
      have sb := same_rows b h2.1 h2.2
      have hI := impl_eq D N a b h1 h2
      have hS : spec_AreSignaturesEqual.f D N a b = some (eqP D N a b) := by unfold spec_AreSignaturesEqual.f; rw [if_pos ⟨h1, h2⟩]
      refine Ev.bind ca (Ev.bind cb ?_)
      simp only [hS, Option.bind_some]
      refine Ev.bind ca (Ev.bind cb (Ev.bind hI ?_))
      simp only [bne_self_eq_false, Bool.false_eq_true, if_false]
      refine Ev.step (f := fun k => (laws_toInt64SS.f k a).bind fun t => (laws_eqInt64SS.f k a t).bind fun t => if t = true then (laws_toInt64SS.f k b).bind fun t => (laws_eqInt64SS.f k b t).bind fun t => if t = true then some true else some false else some false) (fun k => ?_) (Ev.bind ca (Ev.bind sa ?_))
      · simp only [laws_FnExactAreSignaturesEqual.j0, Bool.false_eq_true, if_false]
      · simp only [if_true]
        refine Ev.bind cb (Ev.bind sb ?_)
        simp only [if_true]
        exact Ev.now _
end Go.Proofs.Ytaiefdhenikiiaa.Pure
