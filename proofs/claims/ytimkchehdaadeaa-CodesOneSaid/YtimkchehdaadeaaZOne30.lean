/- Part 30 of a proof: the statement CodesOne: for every input its law returns true (its texts without what nothing here names). -/
import Derived.Test.YtimkchehdaadeaaZOne25
import Derived.Test.YtimkchehdaadeaaZOne28
import Derived.Test.YtimkchehdaadeaaZOne29

namespace Go.Proofs.Ytimkchehdaadeaa.P
open Go.RowKit Go.Proofs.YtimkchehdaadeaaW.PrintWords Go.Proofs.YtimkchehdaadeaaW.PrintLast Go.Proofs.YtimkchehdaadeaaW.PrintMore
set_option linter.unusedVariables false
set_option linter.unusedSimpArgs false
theorem rdT_get (l : List S36) (i : Nat) (h : i < l.length) : rd_T36 l i = l[i] := by simp [rd_T36, List.getD_eq_getElem?_getD, List.getElem?_eq_getElem h]
def checkCluesS (W S : Int) (l : List S36) : Int := if okLock W S then (if (20 : Int) < l.length then 2 else if l.all (validC W S) then 0 else 11) else 10
theorem checkClues_eq (W S : Int) (l : List S36) : codes_checkClues.f W S l = some (checkCluesS W S l) := rfl
theorem CheckClues_l0 (W S : Int) (hl : okLock W S) (l : List S36) (hn : l.length ≤ 9223372036854775807) (d : Nat) : ∀ i : Nat, i ≤ l.length → l.length - i = d → Ev (fun k => padlockref01_CheckClues.l0 k l i W S) (if (l.drop i).all (validC W S) then 0 else 11) := by
  induction d with
  | zero =>
    intro i h0 h1
    refine Ev.step (f := fun _ => some 0) (fun k => by simp only [padlockref01_CheckClues.l0]; rw [if_neg (by omega)]) ?_
    rw [List.drop_of_length_le (by omega)]; exact Ev.now _
  | succ d ih =>
    intro i h0 h1
    have hi : i < l.length := by omega
    rw [List.drop_eq_getElem_cons hi, List.all_cons]
    have := ih (i + 1) (by omega) (by omega)
    by_cases hb : validC W S l[i] = true
    · rw [hb, Bool.true_and]
      refine Ev.step (fun k => ?_) this
      simp only [padlockref01_CheckClues.l0]
      rw [if_pos (by omega), if_pos (by omega), rdT_get l i hi, isClue_eq W S hl, wrap_next hi hn]
      simp [hb]
    · rw [Bool.eq_false_iff.mpr hb, Bool.false_and]
      refine Ev.step (f := fun _ => some 11) (fun k => ?_) (Ev.now _)
      simp only [padlockref01_CheckClues.l0]
      rw [if_pos (by omega), if_pos (by omega), rdT_get l i hi, isClue_eq W S hl]
      simp [hb]
theorem RCheckClues_ev (W S : Int) (l : List S36) (hn : l.length ≤ 9223372036854775807) : Ev (fun k => padlockref01_CheckClues.f k W S l) (checkCluesS W S l) := by
  unfold padlockref01_CheckClues.f checkCluesS
  simp only [RCheck_eq, Option.bind_some]
  by_cases hl : okLock W S
  · simp only [if_pos hl, if_true]
    by_cases hm : (20 : Int) < l.length
    · simp only [if_pos hm, show (l.length : Int) > 20 from hm, if_true]; exact Ev.now _
    · simp only [if_neg hm, show ¬ (l.length : Int) > 20 from hm, if_false]
      have := CheckClues_l0 W S hl l hn _ 0 (by omega) rfl
      simpa using this
  · simp only [if_neg hl]
    exact Ev.now _
theorem checkClues_ok {W S : Int} {l : List S36} (h : checkCluesS W S l = 0) : okLock W S ∧ l.length ≤ 20 ∧ l.all (validC W S) = true := by
  unfold checkCluesS at h
  split at h
  case isFalse => omega
  case isTrue hl =>
  split at h
  · omega
  split at h
  case isFalse => omega
  case isTrue hv => exact ⟨hl, by omega, hv⟩
def fitsS (W S : Int) (l : List S36) (c : List Int) : Int × Bool × Int :=
  if checkCluesS W S l = 0 then (if isCodeB W S c then (idxI (fun q => !holdsC q c) l, fitsAll l c, 0) else (0, false, 12)) else (0, false, checkCluesS W S l)
theorem ok_clues {W S : Int} (hl : okLock W S) {l : List S36} (hv : l.all (validC W S) = true) {c : List Int} (hc : isCodeB W S c = true) : ∀ q ∈ l, okC q c := fun q hq => okC_of_valid hl (List.all_eq_true.1 hv q hq) hc
theorem Fits_eq (W S : Int) (l : List S36) (c : List Int) : codes_Fits.f W S l c = some (fitsS W S l c) := by
  unfold codes_Fits.f fitsS
  simp only [checkClues_eq, Option.bind_some, CheckCode_eq]
  by_cases h : checkCluesS W S l = 0
  · obtain ⟨hl, hm, hv⟩ := checkClues_ok h
    simp only [if_pos h, if_pos hl]
    by_cases hc : isCodeB W S c = true
    · simp only [hc, if_true]
      unfold codes_fails.f
      rw [if_pos (ok_clues hl hv hc)]
      simp only [Option.bind_some, fails_fits]
    · simp only [if_neg hc]
      rfl
  · simp only [if_neg h]
end Go.Proofs.Ytimkchehdaadeaa.P
