/- Part 25 of a proof: the statement CodesFewest: for every input its law returns true (its texts without what nothing here names). -/
import Derived.Test.YtimkchehdaadeaaZFewest20
import Derived.Test.YtimkchehdaadeaaZFewest23
import Derived.Test.YtimkchehdaadeaaZFewest24

namespace Go.Proofs.Ytimkchehdaadeaa.P
open Go.RowKit Go.Proofs.YtimkchehdaadeaaW.PrintWords Go.Proofs.YtimkchehdaadeaaW.PrintLast Go.Proofs.YtimkchehdaadeaaW.PrintMore
set_option linter.unusedVariables false
set_option linter.unusedSimpArgs false
def checkCluesS (W S : Int) (l : List S36) : Int := if okLock W S then (if (20 : Int) < l.length then 2 else if l.all (validC W S) then 0 else 11) else 10
theorem checkClues_eq (W S : Int) (l : List S36) : codes_checkClues.f W S l = some (checkCluesS W S l) := rfl
theorem checkClues_ok {W S : Int} {l : List S36} (h : checkCluesS W S l = 0) : okLock W S ∧ l.length ≤ 20 ∧ l.all (validC W S) = true := by
  unfold checkCluesS at h
  split at h
  case isFalse => omega
  case isTrue hl =>
  split at h
  · omega
  split at h
  case isFalse => omega
  case isTrue hv => exact ⟨hl, by omega, hv⟩
def fitsS (W S : Int) (l : List S36) (c : List Int) : Int × Bool × Int :=
  if checkCluesS W S l = 0 then (if isCodeB W S c then (idxI (fun q => !holdsC q c) l, fitsAll l c, 0) else (0, false, 12)) else (0, false, checkCluesS W S l)
theorem ok_clues {W S : Int} (hl : okLock W S) {l : List S36} (hv : l.all (validC W S) = true) {c : List Int} (hc : isCodeB W S c = true) : ∀ q ∈ l, okC q c := fun q hq => okC_of_valid hl (List.all_eq_true.1 hv q hq) hc
theorem Fits_eq (W S : Int) (l : List S36) (c : List Int) : codes_Fits.f W S l c = some (fitsS W S l c) := by
  unfold codes_Fits.f fitsS
  simp only [checkClues_eq, Option.bind_some, CheckCode_eq]
  by_cases h : checkCluesS W S l = 0
  · obtain ⟨hl, hm, hv⟩ := checkClues_ok h
    simp only [if_pos h, if_pos hl]
    by_cases hc : isCodeB W S c = true
    · simp only [hc, if_true]
      unfold codes_fails.f
      rw [if_pos (ok_clues hl hv hc)]
      simp only [Option.bind_some, fails_fits]
    · simp only [if_neg hc]
      rfl
  · simp only [if_neg h]
end Go.Proofs.Ytimkchehdaadeaa.P
