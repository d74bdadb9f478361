/- Part 32 of a proof: the statement CodesOne: for every input its law returns true (its texts without what nothing here names). -/
import Derived.Test.YtimkchehdaadeaaZOne15
import Derived.Test.YtimkchehdaadeaaZOne25
import Derived.Test.YtimkchehdaadeaaZOne30
import Derived.Test.YtimkchehdaadeaaZOne31

section
namespace Go.Proofs.Ytimkchehdaadeaa.P
open Go.RowKit Go.Proofs.YtimkchehdaadeaaW.PrintWords Go.Proofs.YtimkchehdaadeaaW.PrintLast Go.Proofs.YtimkchehdaadeaaW.PrintMore
set_option linter.unusedVariables false
set_option linter.unusedSimpArgs false
end Go.Proofs.Ytimkchehdaadeaa.P
end
section
namespace Go.Proofs.Ytimkchehdaadeaa.P
open Go.RowKit Go.Proofs.YtimkchehdaadeaaW.PrintWords Go.Proofs.YtimkchehdaadeaaW.PrintLast Go.Proofs.YtimkchehdaadeaaW.PrintMore
set_option linter.unusedVariables false
set_option linter.unusedSimpArgs false
theorem codeAt_val (s : Nat) (hs : 0 < s) : ∀ (n : Nat) (c : List Int), c.length = n → (∀ x ∈ c, 0 ≤ x ∧ x < (s : Int)) → codeAt s n (valOf s c) = c ∧ valOf s c < s ^ n
  | 0, c, h, _ => by
    obtain rfl := List.eq_nil_of_length_eq_zero h
    simp [codeAt, valOf]
  | n + 1, c, h, hd => by
    obtain ⟨i, d, rfl⟩ : ∃ i d, c = i ++ [d] := ⟨c.dropLast, c.getLast (by intro e; simp [e] at h), (List.dropLast_concat_getLast _).symm⟩
    obtain ⟨h1, h2⟩ := codeAt_val s hs n i (by simpa using h) (fun x hx => hd x (by simp [hx]))
    have hd2 := hd d (by simp)
    obtain ⟨e, rfl⟩ : ∃ e : Nat, d = e := ⟨d.toNat, by omega⟩
    have he : e < s := by omega
    rw [valOf_snoc, Int.toNat_natCast, codeAt]
    have hdiv : (valOf s i * s + e) / s = valOf s i := by
      rw [Nat.add_comm, Nat.add_mul_div_right _ _ hs, Nat.div_eq_of_lt he, Nat.zero_add]
    have hmod : (valOf s i * s + e) % s = e := by
      rw [Nat.add_comm, Nat.add_mul_mod_self_right, Nat.mod_eq_of_lt he]
    rw [hdiv, hmod, h1]
    refine ⟨rfl, ?_⟩
    have : (valOf s i + 1) * s ≤ s ^ n * s := Nat.mul_le_mul_right s h2
    rw [Nat.add_mul, Nat.one_mul] at this
    rw [Nat.pow_succ]; omega
theorem mem_allCodes {s n : Nat} (hs : 0 < s) {c : List Int} (h : isCodeB (n : Int) (s : Int) c = true) : c ∈ allCodes s n := by
  obtain ⟨hl, hd⟩ := isCodeB_iff.1 h
  obtain ⟨h1, h2⟩ := codeAt_val s hs n c (by omega) (fun x hx => by have := hd x hx; omega)
  unfold allCodes codesN
  exact List.mem_map.2 ⟨valOf s c, List.mem_range.2 h2, h1⟩
def lexLt : List Int → List Int → Bool
  | a :: l, b :: m => if a = b then lexLt l m else decide (a < b)
  | _, _ => false
theorem lexLt_snoc : ∀ (i j : List Int) (a b : Int), i.length = j.length → lexLt (i ++ [a]) (j ++ [b]) = if i = j then decide (a < b) else lexLt i j
  | [], [], a, b, _ => by by_cases h : a = b <;> simp [lexLt, h]
  | x :: i, y :: j, a, b, h => by
    have ih := lexLt_snoc i j a b (by simpa using h)
    simp only [List.cons_append, lexLt, ih, List.cons.injEq]
    by_cases hxy : x = y
    · by_cases hij : i = j <;> simp [hxy, hij]
    · simp [hxy]
theorem lexLt_codeAt {s : Nat} (hs : 0 < s) : ∀ (n a b : Nat), a < s ^ n → b < s ^ n → lexLt (codeAt s n a) (codeAt s n b) = decide (a < b)
  | 0, a, b, ha, hb => by simp at ha hb; subst ha; subst hb; simp [codeAt, lexLt]
  | n + 1, a, b, ha, hb => by
    have ha' : a / s < s ^ n := by rw [Nat.div_lt_iff_lt_mul hs, ← Nat.pow_succ]; exact ha
    have hb' : b / s < s ^ n := by rw [Nat.div_lt_iff_lt_mul hs, ← Nat.pow_succ]; exact hb
    rw [codeAt, codeAt, lexLt_snoc _ _ _ _ (by rw [codeAt_length, codeAt_length]), lexLt_codeAt hs n _ _ ha' hb']
    have e1 := Nat.div_add_mod a s
    have e2 := Nat.div_add_mod b s
    have m1 := Nat.mod_lt a hs
    have m2 := Nat.mod_lt b hs
    by_cases h : a / s = b / s
    · rw [if_pos (by rw [h])]
      rw [h] at e1
      exact decide_eq_decide.2 (by omega)
    · rw [if_neg (fun e => h (by have h1 := valOf_codeAt s hs n _ ha'; rw [e, valOf_codeAt s hs n _ hb'] at h1; exact h1.symm))]
      refine decide_eq_decide.2 ⟨fun hlt => ?_, fun hlt => ?_⟩
      · have : s * (a / s + 1) ≤ s * (b / s) := Nat.mul_le_mul_left s hlt
        rw [Nat.mul_add, Nat.mul_one] at this; omega
      · have := Nat.div_le_div_right (c := s) (Nat.le_of_lt hlt); omega
theorem allCodes_sorted {s n : Nat} (hs : 0 < s) : (allCodes s n).Pairwise (fun a b => lexLt a b = true) := by
  unfold allCodes codesN
  rw [List.pairwise_map]
  refine List.Pairwise.imp_of_mem ?_ List.pairwise_lt_range
  intro a b ha hb hlt
  rw [lexLt_codeAt hs n a b (List.mem_range.1 ha) (List.mem_range.1 hb)]
  exact decide_eq_true hlt
theorem readings_sorted {s n : Nat} (hs : 0 < s) (l : List S36) : (readingsL s n l).Pairwise (fun a b => lexLt a b = true) := (allCodes_sorted hs).filter _
end Go.Proofs.Ytimkchehdaadeaa.P
end
section
namespace Go.Proofs.Ytimkchehdaadeaa.P
open Go.RowKit Go.Proofs.YtimkchehdaadeaaW.PrintWords Go.Proofs.YtimkchehdaadeaaW.PrintLast Go.Proofs.YtimkchehdaadeaaW.PrintMore
set_option linter.unusedVariables false
set_option linter.unusedSimpArgs false
set_option linter.unusedSectionVars false
section
variable {n s : Nat} (hn : n ≤ 4) (hs : s ≤ 10) (hs0 : 0 < s) {al : List (List Int)} (hal : ∀ c ∈ al, c ∈ allCodes s n) {g : List Int} (hg : g ∈ al)
include hn hs hs0 hal hg
end
end Go.Proofs.Ytimkchehdaadeaa.P
end
