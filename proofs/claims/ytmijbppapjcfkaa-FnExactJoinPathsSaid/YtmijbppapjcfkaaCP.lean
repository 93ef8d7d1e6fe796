/- impl.IsPath: the letters, at most twelve steps, each step a row of that length with small numbers. -/
import Derived.Test.YtmijbppapjcfkaaC
namespace Go.Proofs.YtmijbppapjcfkaaC
open Go.RowKit Go.Proofs.YtmijbppapjcfkaaW.PrintWords Go.Proofs.YtmijbppapjcfkaaW.PrintLast Go.Proofs.YtmijbppapjcfkaaW.PrintMore
set_option linter.unusedVariables false
set_option linter.unusedSimpArgs false
set_option maxHeartbeats 1000000 in
theorem path_row_fn (e : Int) (B : Nat) (A0 : Option Addr) (c0 : Nat) (row : List Int) (V : World) (hc : V.cell? ⟨B, 0, none⟩ = some (.int .i64 e)) (hr : Kd.C (Kd.int .i64) V A0 row.length row) :
    Calls Try.prog 104 #[.slice A0 row.length c0, .pointer (some ⟨B, 0, none⟩)] V fun e' w' => e' = .returned (.bool (!rowOk e 100 row)) ∧ Below V.heap.size V w' := by
  by_cases h : (row.length : Int) = e
  · have hall := allUpTo_any A0 c0 row 100 V hr
    have hz : rowOk e 100 row = allUpTo row 100 := by simp [rowOk, h]
    have HZ := Aside0.mk hz
    have h1 : ((row.length : Int) == e) = true := beq_iff_eq.2 h
    have h2 : ((row.length : Int) != e) = false := by rw [bne_eq_false_iff_eq]; exact h
    clear h hz hr
    go_enter Try.func104, Try.ntmps104
    go_wp2_with (go_at_call 96; refine hall.mono ?_; rintro e w' ⟨rfl, hb⟩; have HB := Aside0.mk hb; clear hb)
    go_ret
    exact ⟨by rw [HZ.out]; rfl, HB.out⟩
  · have hz : rowOk e 100 row = false := by simp [rowOk, h]
    have HZ := Aside0.mk hz
    have h1 : ((row.length : Int) == e) = false := beq_eq_false_iff_ne.2 h
    have h2 : ((row.length : Int) != e) = true := by rw [bne_iff_ne]; exact h
    clear h hz hr
    go_enter Try.func104, Try.ntmps104
    go_wp2
    go_ret
    exact ⟨by rw [HZ.out]; rfl, Below.refl _ _⟩
def isPath (e : Int) (l : List (List Int)) : Bool := letters e && decide ((l.length : Int) ≤ 12) && l.all (rowOk e 100)
set_option maxHeartbeats 2000000 in
theorem isPath_any (e : Int) (A2 : Option Addr) (c2 : Nat) (l2 : List (List Int)) (w : World) (hr2 : Kd.C (Kd.slice 2 (Kd.int .i64)) w A2 l2.length l2) :
    Calls Try.prog 64 #[.int .i64 e, .slice A2 l2.length c2] w fun e' w' => e' = .returned (.bool (isPath e l2)) ∧ Below w.heap.size w w' := by
  have eg : ∀ args w, (callFunc 104 args).run Try.prog w = .ok (.enter 104 args) w := enters_of Try.func104 (by kernel_rfl) rfl
  have hba : Below w.heap.size w (w.alloc (.cells #[.int .i64 e] 2)) := below_alloc (Below.refl _ _) _
  have hcon := contains_rows 104 #[.pointer (some ⟨w.heap.size, 0, none⟩)] (cellOf w A2) (fun j => !rowOk e 100 (l2.getD j [])) A2 l2.length c2 (w.alloc (.cells #[.int .i64 e] 2)) eg hr2.2.1
    (fun hp => by
      obtain ⟨ad, _, _, rfl, _⟩ := row_at hr2 0 hp
      refine ⟨ad, rfl, fun j hj => ?_⟩
      obtain ⟨ad', A0, c0, e0, hx, _, _⟩ := row_at hr2 j hj
      cases e0
      rw [show cellOf w (some ad) j = .slice A0 (l2.getD j []).length c0 by simp [cellOf, hx]]
      exact (World.cell?_alloc_lt _ _ _ (World.block_lt_of_cell? _ _ hx)).trans hx)
    (row_test 104 100 e w.heap.size w _ (by simp) A2 l2.length l2 hba hr2 (fun A0 c0 row V hc hr => path_row_fn e w.heap.size A0 c0 row V hc hr))
  have hz : (!anyN (fun j => !rowOk e 100 (l2.getD j [])) l2.length) = l2.all (rowOk e 100) := any_rows l2 (rowOk e 100)
  have hle := letters_any e
  have hdef : isPath e l2 = (letters e && decide ((l2.length : Int) ≤ 12) && !anyN (fun j => !rowOk e 100 (l2.getD j [])) l2.length) := by rw [hz]; rfl
  have HD := Aside0.mk hdef
  clear hz hdef hr2
  generalize anyN (fun j => !rowOk e 100 (l2.getD j [])) l2.length = b at hcon HD
  generalize isPath e l2 = res at HD
  have HBA := Aside0.mk hba
  clear hba
  cases he : letters e with
  | false =>
    rw [he] at hle HD
    clear he hcon
    go_enter Try.func64, Try.ntmps64
    go_wp2_with (go_at_call 53; refine (hle _).mono ?_; rintro e w' ⟨rfl, rfl⟩)
    go_ret
    exact ⟨by rw [HD.out]; rfl, HBA.out⟩
  | true =>
    rw [he] at hle HD
    clear he
    by_cases h : (l2.length : Int) ≤ 12
    · have h1 : decide ((l2.length : Int) ≤ 12) = true := decide_eq_true h
      have HH := Aside0.mk h1
      go_enter Try.func64, Try.ntmps64
      go_wp2_with (first | (go_at_call 53; with_reducible refine (hle _).mono ?_; rintro e w' ⟨rfl, rfl⟩) | (go_at_call 103; refine hcon.mono ?_; rintro e w' ⟨rfl, hb⟩; have HB := Aside0.mk hb; clear hb))
      go_ret
      exact ⟨by rw [HD.out, HH.out]; rfl, below_then HBA.out HBA.out.size HB.out⟩
    · have h1 : decide ((l2.length : Int) ≤ 12) = false := decide_eq_false h
      have HH := Aside0.mk h1
      clear hcon
      go_enter Try.func64, Try.ntmps64
      go_wp2_with (go_at_call 53; with_reducible refine (hle _).mono ?_; rintro e w' ⟨rfl, rfl⟩)
      go_ret
      exact ⟨by rw [HD.out, HH.out]; rfl, HBA.out⟩
end Go.Proofs.YtmijbppapjcfkaaC
