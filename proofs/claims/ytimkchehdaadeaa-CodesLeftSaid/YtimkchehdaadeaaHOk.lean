/- A valid clue can be asked of every code. -/
import Derived.Test.YtimkchehdaadeaaHCodes0
namespace Go.Proofs.Ytimkchehdaadeaa.P
open Go.RowKit Go.Proofs.YtimkchehdaadeaaW.PrintWords Go.Proofs.YtimkchehdaadeaaW.PrintLast Go.Proofs.YtimkchehdaadeaaW.PrintMore
set_option linter.unusedVariables false
set_option linter.unusedSimpArgs false

theorem isCode_dig {W S : Int} {l : List Int} (hS : S ≤ 10) (h : isCodeB W S l = true) : (l.length : Int) = W ∧ dig l := by
  rw [isCodeB_iff] at h
  exact ⟨h.1, fun x hx => by have := h.2 x hx; omega⟩
theorem okC_of_valid {W S : Int} {q : S36} {c : List Int} (hl : okLock W S) (hq : validC W S q = true) (hc : isCodeB W S c = true) : okC q c := by
  obtain ⟨h1, h2, h3, h4⟩ := hl
  obtain ⟨hcl, hcd⟩ := isCode_dig h4 hc
  unfold validC validB at hq
  unfold okC okPlain inLen
  by_cases k1 : q.f0 = 1
  · rw [if_pos k1] at hq ⊢
    simp only [Bool.and_eq_true, inRange_iff, decide_eq_true_eq, beq_iff_eq, bne_iff_ne] at hq
    omega
  rw [if_neg k1] at hq ⊢
  by_cases k2 : q.f0 = 2
  · rw [if_pos k2] at hq ⊢
    simp only [Bool.and_eq_true, inRange_iff, decide_eq_true_eq, beq_iff_eq, bne_iff_ne] at hq
    exact ⟨by omega, by omega, by omega, hcd, by omega⟩
  rw [if_neg k2] at hq ⊢
  by_cases k3 : q.f0 = 3
  · rw [if_pos k3] at hq ⊢
    simp only [Bool.and_eq_true, inRange_iff, decide_eq_true_eq, beq_iff_eq, bne_iff_ne] at hq
    omega
  rw [if_neg k3] at hq ⊢
  by_cases k4 : q.f0 = 4
  · rw [if_pos k4] at hq ⊢
    simp only [Bool.and_eq_true, inRange_iff, decide_eq_true_eq, beq_iff_eq, bne_iff_ne] at hq
    omega
  rw [if_neg k4] at hq ⊢
  by_cases k5 : q.f0 = 5
  · rw [if_pos k5]; trivial
  rw [if_neg k5] at hq ⊢
  by_cases k6 : q.f0 = 6
  · rw [if_pos k6] at hq ⊢
    simp only [Bool.and_eq_true, inRange_iff, decide_eq_true_eq, beq_iff_eq, bne_iff_ne] at hq
    obtain ⟨hgl, hgd⟩ := isCode_dig h4 hq.2.2.1
    exact ⟨by omega, hcd, hgd⟩
  rw [if_neg k6] at hq ⊢
  by_cases k7 : q.f0 = 7
  · rw [if_pos k7] at hq ⊢
    simp only [Bool.and_eq_true, inRange_iff, decide_eq_true_eq, beq_iff_eq, bne_iff_ne] at hq
    omega
  rw [if_neg k7] at hq
  exact absurd hq (by simp)
theorem allCodes_isCode {s n : Nat} (hs : 0 < s) {c : List Int} (h : c ∈ allCodes s n) : isCodeB (n : Int) (s : Int) c = true := by
  unfold allCodes codesN at h
  obtain ⟨i, _, rfl⟩ := List.mem_map.1 h
  rw [isCodeB_iff]
  exact ⟨by rw [codeAt_length], fun x hx => by have := codeAt_range s hs n i x hx; omega⟩
theorem lock_nat {W S : Int} (h : okLock W S) : ∃ n s : Nat, W = n ∧ S = s ∧ 1 ≤ n ∧ n ≤ 4 ∧ 2 ≤ s ∧ s ≤ 10 := by
  obtain ⟨a, b, c, d⟩ := h
  exact ⟨W.toNat, S.toNat, by omega, by omega, by omega, by omega, by omega, by omega⟩
theorem codes_many {s n : Nat} (hn : n ≤ 4) (hs : s ≤ 10) : (allCodes s n).length ≤ 10000 := by
  unfold allCodes codesN
  rw [List.length_map, List.length_range]
  calc s ^ n ≤ 10 ^ n := Nat.pow_le_pow_left hs n
    _ ≤ 10 ^ 4 := Nat.pow_le_pow_right (by omega) hn
    _ = 10000 := rfl
theorem ok_all {s n : Nat} (hl : okLock (n : Int) (s : Int)) {l : List S36} (h : l.all (validC n s) = true) : ∀ c ∈ allCodes s n, ∀ q ∈ l, okC q c := fun c hc q hq =>
  okC_of_valid hl (List.all_eq_true.1 h q hq) (allCodes_isCode (by have := hl.2.2.1; omega) hc)
end Go.Proofs.Ytimkchehdaadeaa.P
