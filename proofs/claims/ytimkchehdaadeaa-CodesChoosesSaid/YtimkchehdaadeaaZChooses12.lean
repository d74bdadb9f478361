/- Part 12 of a proof: the statement CodesChooses: for every input its law returns true (its texts without what nothing here names). -/
import Derived.Test.YtimkchehdaadeaaZChooses9
import Derived.Test.YtimkchehdaadeaaZChooses10
import Derived.Test.YtimkchehdaadeaaZChooses11

namespace Go.Proofs.Ytimkchehdaadeaa.P
open Go.RowKit Go.Proofs.YtimkchehdaadeaaW.PrintWords Go.Proofs.YtimkchehdaadeaaW.PrintLast Go.Proofs.YtimkchehdaadeaaW.PrintMore
theorem wrap_next {i n : Nat} (h : i < n) (hn : n ≤ 9223372036854775807) : wrap64 ((i : Int) + 1) = ((i + 1 : Nat) : Int) := by unfold wrap64; omega
theorem rd_get (l : List Int) (i : Nat) (h : i < l.length) : rd l i = l[i] := by simp [rd, List.getD_eq_getElem?_getD, List.getElem?_eq_getElem h]
theorem SameInts_l0 (x0 x1 : List Int) (hl : x0.length = x1.length) (hn : x0.length ≤ 9223372036854775807) (d : Nat) : ∀ i : Nat, i ≤ x0.length → x0.length - i = d → Ev (fun k => padlockref01_SameInts.l0 k x0 x1 i) (decide (x0.drop i = x1.drop i)) := by
  induction d with
  | zero =>
    intro i hi hd
    refine Ev.step (f := fun _ => some true) (fun k => by simp only [padlockref01_SameInts.l0]; rw [if_neg (by omega)]) ?_
    rw [List.drop_of_length_le (by omega), List.drop_of_length_le (by omega)]
    exact Ev.now _
  | succ d ih =>
    intro i hi hd
    have h0 : i < x0.length := by omega
    have h1 : i < x1.length := by omega
    rw [List.drop_eq_getElem_cons h0, List.drop_eq_getElem_cons h1]
    by_cases he : rd x0 i = rd x1 i
    · refine Ev.step (f := fun k => padlockref01_SameInts.l0 k x0 x1 ((i + 1 : Nat) : Int)) (fun k => by
        simp only [padlockref01_SameInts.l0]
        rw [if_pos (by omega), if_pos (by omega), if_pos (by omega), if_pos he, wrap_next h0 hn]) ?_
      have := ih (i + 1) (by omega) (by omega)
      rw [rd_get _ _ h0, rd_get _ _ h1] at he
      rw [show decide (x0[i] :: x0.drop (i + 1) = x1[i] :: x1.drop (i + 1)) = decide (x0.drop (i + 1) = x1.drop (i + 1)) from decide_eq_decide.mpr ⟨fun h => (List.cons.inj h).2, fun h => by rw [he, h]⟩]
      exact this
    · refine Ev.step (f := fun _ => some false) (fun k => by
        simp only [padlockref01_SameInts.l0]
        rw [if_pos (by omega), if_pos (by omega), if_pos (by omega), if_neg he]) ?_
      rw [rd_get _ _ h0, rd_get _ _ h1] at he
      rw [decide_eq_false (fun h => he (List.cons.inj h).1)]
      exact Ev.now _
theorem SameInts_ev (x0 x1 : List Int) (hn : x0.length ≤ 9223372036854775807) : Ev (fun k => padlockref01_SameInts.f k x0 x1) (decide (x0 = x1)) := by
  by_cases hl : x0.length = x1.length
  · refine Ev.congr (f := fun k => padlockref01_SameInts.l0 k x0 x1 ((0 : Nat) : Int)) (fun k => by unfold padlockref01_SameInts.f; rw [if_pos (by omega)]; rfl) ?_
    simpa using SameInts_l0 x0 x1 hl hn _ 0 (by omega) rfl
  · refine Ev.congr (f := fun _ => some false) (fun k => by unfold padlockref01_SameInts.f; rw [if_neg (by omega)]) ?_
    rw [decide_eq_false (fun h => hl (by rw [h]))]
    exact Ev.now _
theorem SameClue_ev (a0 a1 a2 a3 a4 : Int) (a5 : List Int) (a6 : Bool) (b0 b1 b2 b3 b4 : Int) (b5 : List Int) (b6 : Bool) (hn : a5.length ≤ 9223372036854775807) :
    Ev (fun k => padlockref01_SameClue.f k a0 a1 a2 a3 a4 a5 a6 b0 b1 b2 b3 b4 b5 b6) (decide (a0 = b0) && (decide (a1 = b1) && (decide (a2 = b2) && (decide (a3 = b3) && (decide (a4 = b4) && ((a6 == b6) && decide (a5 = b5))))))) := by
  have hs := SameInts_ev a5 b5 hn
  unfold padlockref01_SameClue.f
  by_cases h0 : a0 = b0
  · by_cases h1 : a1 = b1
    · by_cases h2 : a2 = b2
      · by_cases h3 : a3 = b3
        · by_cases h4 : a4 = b4
          · by_cases h6 : (a6 == b6) = true
            · simp only [h0, h1, h2, h3, h4, h6, if_true, decide_true, Bool.true_and]
              exact Ev.bind hs (Ev.now _)
            · simp only [h0, h1, h2, h3, h4, h6, if_true, if_false, decide_true, Bool.true_and, Bool.false_eq_true, Bool.false_and]; exact Ev.now _
          · simp only [h0, h1, h2, h3, h4, if_true, if_false, decide_true, decide_false, Bool.true_and, Bool.false_and]; exact Ev.now _
        · simp only [h0, h1, h2, h3, if_true, if_false, decide_true, decide_false, Bool.true_and, Bool.false_and]; exact Ev.now _
      · simp only [h0, h1, h2, if_true, if_false, decide_true, decide_false, Bool.true_and, Bool.false_and]; exact Ev.now _
    · simp only [h0, h1, if_true, if_false, decide_true, decide_false, Bool.true_and, Bool.false_and]; exact Ev.now _
  · simp only [h0, if_false, decide_false, Bool.false_and]; exact Ev.now _
theorem Within_eq (a lo hi : Int) : padlockref01_Within.f a lo hi = some (inRange lo hi a) := by
  unfold padlockref01_Within.f inRange
  by_cases h : a ≥ lo
  · rw [if_pos h]; simp [show lo ≤ a from h]
  · rw [if_neg h]; simp [show ¬ lo ≤ a from h]
theorem RCheck_eq (W S : Int) : padlockref01_Check.f W S = some (if okLock W S then 0 else 10) := by
  unfold padlockref01_Check.f
  simp only [Within_eq, Option.bind_some]
  by_cases h : okLock W S
  · obtain ⟨a, b, c, d⟩ := h
    simp [inRange, okLock, a, b, c, d]
  · rw [if_neg h]
    by_cases h1 : inRange 1 4 W = true
    · rw [if_pos h1]
      by_cases h2 : inRange 2 10 S = true
      · exact absurd ⟨(inRange_iff.1 h1).1, (inRange_iff.1 h1).2, (inRange_iff.1 h2).1, (inRange_iff.1 h2).2⟩ h
      · rw [if_neg h2]
    · rw [if_neg h1]
theorem isCode_l0 (W S : Int) (hl : okLock W S) (l : List Int) (hn : l.length ≤ 9223372036854775807) (d : Nat) : ∀ i : Nat, i ≤ l.length → l.length - i = d → Ev (fun k => padlockref01_isCode.l0 k l i W S) ((l.drop i).all (inRange 0 (S - 1))) := by
  obtain ⟨a, b, c, e⟩ := hl
  induction d with
  | zero =>
    intro i hi hd
    refine Ev.step (f := fun _ => some true) (fun k => by simp only [padlockref01_isCode.l0]; rw [if_neg (by omega)]) ?_
    rw [List.drop_of_length_le (by omega)]
    exact Ev.now _
  | succ d ih =>
    intro i hi hd
    have h0 : i < l.length := by omega
    rw [List.drop_eq_getElem_cons h0, List.all_cons]
    by_cases he : inRange 0 (S - 1) (rd l i) = true
    · refine Ev.step (f := fun k => padlockref01_isCode.l0 k l ((i + 1 : Nat) : Int) W S) (fun k => by
        simp only [padlockref01_isCode.l0]
        rw [if_pos (by omega), if_pos (by omega), Within_eq, wrap_small (x := S - 1) (by omega) (by omega)]
        simp only [Option.bind_some]
        rw [if_pos he, wrap_next h0 hn]) ?_
      have := ih (i + 1) (by omega) (by omega)
      rw [rd_get _ _ h0] at he
      rw [he, Bool.true_and]
      exact this
    · refine Ev.step (f := fun _ => some false) (fun k => by
        simp only [padlockref01_isCode.l0]
        rw [if_pos (by omega), if_pos (by omega), Within_eq, wrap_small (x := S - 1) (by omega) (by omega)]
        simp only [Option.bind_some]
        rw [if_neg he]) ?_
      rw [rd_get _ _ h0] at he
      rw [Bool.eq_false_iff.mpr he, Bool.false_and]
      exact Ev.now _
theorem isCode_ev (W S : Int) (hl : okLock W S) (l : List Int) (hn : l.length ≤ 9223372036854775807) : Ev (fun k => padlockref01_isCode.f k W S l) (isCodeB W S l) := by
  by_cases h : (l.length : Int) = W
  · refine Ev.congr (f := fun k => padlockref01_isCode.l0 k l ((0 : Nat) : Int) W S) (fun k => by unfold padlockref01_isCode.f; rw [if_pos h]; rfl) ?_
    unfold isCodeB
    rw [decide_eq_true h, Bool.true_and]
    simpa using isCode_l0 W S hl l hn _ 0 (by omega) rfl
  · refine Ev.congr (f := fun _ => some false) (fun k => by unfold padlockref01_isCode.f; rw [if_neg h]) ?_
    unfold isCodeB
    rw [decide_eq_false h, Bool.false_and]
    exact Ev.now _
end Go.Proofs.Ytimkchehdaadeaa.P
