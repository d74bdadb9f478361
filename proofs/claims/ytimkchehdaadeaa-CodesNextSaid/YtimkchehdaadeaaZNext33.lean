/- Part 33 of a proof: the statement CodesNext: for every input its law returns true (its texts without what nothing here names). -/
import Derived.Test.YtimkchehdaadeaaZNext15
import Derived.Test.YtimkchehdaadeaaZNext24
import Derived.Test.YtimkchehdaadeaaZNext31
import Derived.Test.YtimkchehdaadeaaZNext32

namespace Go.Proofs.Ytimkchehdaadeaa.P
open Go.RowKit Go.Proofs.YtimkchehdaadeaaW.PrintWords Go.Proofs.YtimkchehdaadeaaW.PrintLast Go.Proofs.YtimkchehdaadeaaW.PrintMore
set_option linter.unusedVariables false
set_option linter.unusedSimpArgs false
theorem rdL_get3 (l : List (List Int)) (i : Nat) (h : i < l.length) : rd_L2 l i = l[i] := by simp [rd_L2, List.getD_eq_getElem?_getD, List.getElem?_eq_getElem h]
theorem ansI_ev {n s : Nat} (hn : n ≤ 4) (hs : s ≤ 10) (hs0 : 0 < s) {c x : List Int} (hc : c ∈ allCodes s n) (hx : x ∈ allCodes s n) :
    Ev (fun k => padlockref01_answer.f k c x) (((ansOf x c).1 : Int), ((ansOf x c).2 : Int)) := by
  obtain ⟨e1, d1⟩ := isCode_dig (by omega) (allCodes_isCode hs0 hc)
  obtain ⟨e2, d2⟩ := isCode_dig (by omega) (allCodes_isCode hs0 hx)
  have h := answer_ev c x (by omega) (by omega)
  have hle := rightTo_le_common c x (by omega) d1
  unfold ansOf
  simp only
  rw [Int.ofNat_sub hle]
  exact h
section
variable {n s : Nat} (hn : n ≤ 4) (hs : s ≤ 10) (hs0 : 0 < s) {al : List (List Int)} (hal : ∀ c ∈ al, c ∈ allCodes s n) {x : List Int} (hx : x ∈ allCodes s n) (h200 : al.length ≤ 100000)
include hn hs hs0 hal hx h200
def topTo (al : List (List Int)) (x : List Int) (i : Nat) : Nat := ((al.take i).map fun c => (ansL al x).count (ansOf x c)).foldl max 0
theorem worst_l1 (i : Nat) (R : Int) (a : Nat × Nat) (T : Int)
    (next : Ev (fun k => padlockref01_worst.l0 k al x (mx T ((((al.map (ansOf x)).count a : Nat)) : Int)) ((i + 1 : Nat) : Int)) R) (hi : i < al.length) (d : Nat) : ∀ j : Nat, j ≤ al.length → al.length - j = d →
    Ev (fun k => padlockref01_worst.l1 k al x T i (a.1 : Int) (a.2 : Int) ((((al.take j).map (ansOf x)).count a : Nat) : Int) j) R := by
  induction d with
  | zero =>
    intro j h0 h1
    obtain rfl : j = al.length := by omega
    refine Ev.step (fun k => ?_) next
    simp only [padlockref01_worst.l1]
    rw [if_neg (by omega), wrap_next hi (by omega), List.take_length]
  | succ d ih =>
    intro j h0 h1
    have hj : j < al.length := by omega
    have nx := ih (j + 1) (by omega) (by omega)
    have hA := ansI_ev hn hs hs0 (hal _ (List.getElem_mem hj)) hx
    have hcount : ((al.take j).map (ansOf x)).count a ≤ j := Nat.le_trans List.count_le_length (by simp; omega)
    refine Ev.step (f := fun k => (padlockref01_answer.f k al[j] x).bind fun bt => (if bt.1 = (a.1 : Int) then (if bt.2 = (a.2 : Int) then (padlockref01_worst.l1 k al x T i (a.1 : Int) (a.2 : Int) (wrap64 (((((al.take j).map (ansOf x)).count a : Nat) : Int) + 1)) ((j + 1 : Nat) : Int)) else (padlockref01_worst.l1 k al x T i (a.1 : Int) (a.2 : Int) ((((al.take j).map (ansOf x)).count a : Nat) : Int) ((j + 1 : Nat) : Int))) else (padlockref01_worst.l1 k al x T i (a.1 : Int) (a.2 : Int) ((((al.take j).map (ansOf x)).count a : Nat) : Int) ((j + 1 : Nat) : Int)))) (fun k => ?_) ?_
    · simp only [padlockref01_worst.l1]
      rw [if_pos (by omega), if_pos (by omega), rdL_get3 al j hj, wrap_next hj (by omega)]
    · refine Ev.bind hA ?_
      rw [List.take_succ_eq_append_getElem hj, List.map_append, List.count_append, List.map_singleton, List.count_singleton] at nx
      obtain ⟨a1, a2⟩ := a
      obtain ⟨⟨b1, b2⟩, hb⟩ : ∃ b, b = ansOf x al[j] := ⟨_, rfl⟩
      rw [← hb] at nx ⊢
      simp only
      by_cases e1 : b1 = a1
      · by_cases e2 : b2 = a2
        · subst e1; subst e2
          simp only [if_true]
          rw [wrap_next (n := 100000) (by omega) (by omega)]
          simpa using nx
        · simp only [e1, if_true]
          simp only [if_neg (show ¬ ((b2 : Int) = (a2 : Int)) by omega)]
          simpa [e1, e2] using nx
      · simp only [if_neg (show ¬ ((b1 : Int) = (a1 : Int)) by omega)]
        simpa [e1] using nx
theorem worst_l0 (d : Nat) : ∀ i : Nat, i ≤ al.length → al.length - i = d → Ev (fun k => padlockref01_worst.l0 k al x ((topTo al x i : Nat) : Int) i) ((worstOf al x : Nat) : Int) := by
  induction d with
  | zero =>
    intro i h0 h1
    obtain rfl : i = al.length := by omega
    refine Ev.step (f := fun _ => some ((worstOf al x : Nat) : Int)) (fun k => ?_) (Ev.now _)
    simp only [padlockref01_worst.l0]
    rw [if_neg (by omega)]
    unfold topTo worstOf mostOf ansL
    rw [List.take_length, List.map_map]; rfl
  | succ d ih =>
    intro i h0 h1
    have hi : i < al.length := by omega
    have nx := ih (i + 1) (by omega) (by omega)
    have hA := ansI_ev hn hs hs0 (hal _ (List.getElem_mem hi)) hx
    have htop : topTo al x (i + 1) = max (topTo al x i) ((ansL al x).count (ansOf x al[i])) := by
      unfold topTo
      rw [List.take_succ_eq_append_getElem hi, List.map_append, List.foldl_append]; rfl
    have hmx : mx ((topTo al x i : Nat) : Int) ((((al.map (ansOf x)).count (ansOf x al[i]) : Nat)) : Int) = ((topTo al x (i + 1) : Nat) : Int) := by
      rw [htop]; unfold ansL mx; omega
    have := worst_l1 hn hs hs0 hal hx h200 i _ (ansOf x al[i]) ((topTo al x i : Nat) : Int) (by rw [hmx]; exact nx) hi _ 0 (Nat.zero_le _) rfl
    refine Ev.step (f := fun k => (padlockref01_answer.f k al[i] x).bind fun bt => padlockref01_worst.l1 k al x ((topTo al x i : Nat) : Int) i bt.1 bt.2 0 0) (fun k => ?_) ?_
    · simp only [padlockref01_worst.l0]
      rw [if_pos (by omega), if_pos (by omega), rdL_get3 al i hi]
    · refine Ev.bind hA ?_
      simpa using this
theorem worst_ev : Ev (fun k => padlockref01_worst.f k al x) ((worstOf al x : Nat) : Int) := worst_l0 hn hs hs0 hal hx h200 _ 0 (Nat.zero_le _) rfl
end
end Go.Proofs.Ytimkchehdaadeaa.P
