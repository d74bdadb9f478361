/- Part 30 of a proof: the statement CodesChooses: for every input its law returns true (its texts without what nothing here names). -/
import Derived.Test.YtimkchehdaadeaaZChooses25
import Derived.Test.YtimkchehdaadeaaZChooses28
import Derived.Test.YtimkchehdaadeaaZChooses29

namespace Go.Proofs.Ytimkchehdaadeaa.P
open Go.RowKit Go.Proofs.YtimkchehdaadeaaW.PrintWords Go.Proofs.YtimkchehdaadeaaW.PrintLast Go.Proofs.YtimkchehdaadeaaW.PrintMore
set_option linter.unusedVariables false
set_option linter.unusedSimpArgs false
theorem rdT_get (l : List S36) (i : Nat) (h : i < l.length) : rd_T36 l i = l[i] := by simp [rd_T36, List.getD_eq_getElem?_getD, List.getElem?_eq_getElem h]
theorem first_l0 (l : List S36) (c : List Int) (hn : l.length ≤ 9223372036854775807) (hc : c.length ≤ 1000000) (hok : ∀ q ∈ l, okC q c) (d : Nat) : ∀ i : Nat, i ≤ l.length → l.length - i = d → (∀ j (hj : j < i) (h : j < l.length), holdsC l[j] c = true) →
    Ev (fun k => padlockref01_first.l0 k l c i) (idxI (fun q => !holdsC q c) l) := by
  induction d with
  | zero =>
    intro i h0 h1 h2
    refine Ev.step (f := fun _ => some (idxI (fun q => !holdsC q c) l)) (fun k => ?_) (Ev.now _)
    simp only [padlockref01_first.l0]
    rw [if_neg (by omega), idxI_miss]
    intro x hx
    obtain ⟨j, hj, rfl⟩ := List.getElem_of_mem hx
    rw [h2 j (by omega) hj]; rfl
  | succ d ih =>
    intro i h0 h1 h2
    have hi : i < l.length := by omega
    have hT := True_ev l[i] c (hok _ (List.getElem_mem hi)) hc
    refine Ev.step (f := fun k => (padlockref01_True.f k l[i].f0 l[i].f1 l[i].f2 l[i].f3 l[i].f4 l[i].f5 l[i].f6 c).bind fun t => if t = true then padlockref01_first.l0 k l c ((i + 1 : Nat) : Int) else some (i : Int)) (fun k => ?_) ?_
    · simp only [padlockref01_first.l0]
      rw [if_pos (by omega), if_pos (by omega), rdT_get l i hi, wrap_next hi hn]
    · refine Ev.bind hT ?_
      by_cases hb : holdsC l[i] c = true
      · simp only [hb, if_true]
        refine ih (i + 1) (by omega) (by omega) (fun j hj h => ?_)
        by_cases e : j = i
        · subst e; exact hb
        · exact h2 j (by omega) h
      · simp only [hb]
        rw [idxI_hit (fun q => !holdsC q c) l i hi (by simp [hb]) (fun j hj => by simp [h2 j hj (by omega)])]
        exact Ev.now _
theorem first_ev (l : List S36) (c : List Int) (hn : l.length ≤ 9223372036854775807) (hc : c.length ≤ 1000000) (hok : ∀ q ∈ l, okC q c) : Ev (fun k => padlockref01_first.f k l c) (idxI (fun q => !holdsC q c) l) :=
  first_l0 l c hn hc hok _ 0 (by omega) rfl (fun j hj _ => absurd hj (by omega))
def checkCluesS (W S : Int) (l : List S36) : Int := if okLock W S then (if (20 : Int) < l.length then 2 else if l.all (validC W S) then 0 else 11) else 10
theorem checkClues_eq (W S : Int) (l : List S36) : codes_checkClues.f W S l = some (checkCluesS W S l) := rfl
theorem CheckClues_l0 (W S : Int) (hl : okLock W S) (l : List S36) (hn : l.length ≤ 9223372036854775807) (d : Nat) : ∀ i : Nat, i ≤ l.length → l.length - i = d → Ev (fun k => padlockref01_CheckClues.l0 k l i W S) (if (l.drop i).all (validC W S) then 0 else 11) := by
  induction d with
  | zero =>
    intro i h0 h1
    refine Ev.step (f := fun _ => some 0) (fun k => by simp only [padlockref01_CheckClues.l0]; rw [if_neg (by omega)]) ?_
    rw [List.drop_of_length_le (by omega)]; exact Ev.now _
  | succ d ih =>
    intro i h0 h1
    have hi : i < l.length := by omega
    rw [List.drop_eq_getElem_cons hi, List.all_cons]
    have := ih (i + 1) (by omega) (by omega)
    by_cases hb : validC W S l[i] = true
    · rw [hb, Bool.true_and]
      refine Ev.step (fun k => ?_) this
      simp only [padlockref01_CheckClues.l0]
      rw [if_pos (by omega), if_pos (by omega), rdT_get l i hi, isClue_eq W S hl, wrap_next hi hn]
      simp [hb]
    · rw [Bool.eq_false_iff.mpr hb, Bool.false_and]
      refine Ev.step (f := fun _ => some 11) (fun k => ?_) (Ev.now _)
      simp only [padlockref01_CheckClues.l0]
      rw [if_pos (by omega), if_pos (by omega), rdT_get l i hi, isClue_eq W S hl]
      simp [hb]
theorem RCheckClues_ev (W S : Int) (l : List S36) (hn : l.length ≤ 9223372036854775807) : Ev (fun k => padlockref01_CheckClues.f k W S l) (checkCluesS W S l) := by
  unfold padlockref01_CheckClues.f checkCluesS
  simp only [RCheck_eq, Option.bind_some]
  by_cases hl : okLock W S
  · simp only [if_pos hl, if_true]
    by_cases hm : (20 : Int) < l.length
    · simp only [if_pos hm, show (l.length : Int) > 20 from hm, if_true]; exact Ev.now _
    · simp only [if_neg hm, show ¬ (l.length : Int) > 20 from hm, if_false]
      have := CheckClues_l0 W S hl l hn _ 0 (by omega) rfl
      simpa using this
  · simp only [if_neg hl]
    exact Ev.now _
theorem checkClues_ok {W S : Int} {l : List S36} (h : checkCluesS W S l = 0) : okLock W S ∧ l.length ≤ 20 ∧ l.all (validC W S) = true := by
  unfold checkCluesS at h
  split at h
  case isFalse => omega
  case isTrue hl =>
  split at h
  · omega
  split at h
  case isFalse => omega
  case isTrue hv => exact ⟨hl, by omega, hv⟩
end Go.Proofs.Ytimkchehdaadeaa.P
