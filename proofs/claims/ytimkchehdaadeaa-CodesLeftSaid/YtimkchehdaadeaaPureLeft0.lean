/- CodesLeft, the plain law: what is left behind an answer. -/
import Derived.Test.YtimkchehdaadeaaHMore
import Derived.Test.YtimkchehdaadeaaHPure2
namespace Go.Proofs.Ytimkchehdaadeaa.P
open Go.RowKit Go.Proofs.YtimkchehdaadeaaW.PrintWords Go.Proofs.YtimkchehdaadeaaW.PrintLast Go.Proofs.YtimkchehdaadeaaW.PrintMore
set_option linter.unusedVariables false
set_option linter.unusedSimpArgs false
set_option linter.unusedSectionVars false
theorem mostOf_count {A : List (Nat × Nat)} {a : Nat × Nat} (h : a ∈ A) : A.count a ≤ mostOf A := le_foldl_max (List.mem_map.2 ⟨a, h, rfl⟩)
section
variable {n s : Nat} (hn : n ≤ 4) (hs : s ≤ 10) (hs0 : 0 < s) {al : List (List Int)} (hal : ∀ c ∈ al, c ∈ allCodes s n) {g : List Int} (hg : g ∈ al)
include hn hs hs0 hal hg
theorem worst_pos : 1 ≤ worstOf al g := by
  have h := mostOf_count (List.mem_map.2 ⟨g, hg, rfl⟩ : ansOf g g ∈ al.map (ansOf g))
  have h2 : 0 < (al.map (ansOf g)).count (ansOf g g) := List.count_pos_iff.2 (List.mem_map.2 ⟨g, hg, rfl⟩)
  unfold worstOf ansL; omega
theorem worst_lt (hnd : al.Nodup) (h2 : 2 ≤ al.length) : worstOf al g < al.length := by
  obtain ⟨c, hc, hne⟩ : ∃ c ∈ al, c ≠ g := by
    rcases al with _ | ⟨x, _ | ⟨y, t⟩⟩
    · simp at h2
    · simp at h2
    · by_cases e : x = g
      · refine ⟨y, by simp, fun e2 => ?_⟩
        rw [List.nodup_cons] at hnd
        exact hnd.1 (by rw [e, e2]; simp)
      · exact ⟨x, by simp, e⟩
  have hlt : ∀ a ∈ al.map (ansOf g), (al.map (ansOf g)).count a < al.length := by
    intro a ha
    have hle : (al.map (ansOf g)).count a ≤ (al.map (ansOf g)).length := List.count_le_length
    rw [List.length_map] at hle
    rcases Nat.lt_or_ge ((al.map (ansOf g)).count a) al.length with h | h
    · exact h
    · have he : (al.map (ansOf g)).count a = (al.map (ansOf g)).length := by rw [List.length_map]; omega
      have hall := List.count_eq_length.1 he
      have h1 := hall (ansOf g g) (List.mem_map.2 ⟨g, hg, rfl⟩)
      have h3 := hall (ansOf g c) (List.mem_map.2 ⟨c, hc, rfl⟩)
      have hr : rightTo c g c.length = rightTo g g g.length := by
        have := congrArg Prod.fst (h3.symm.trans h1); exact this
      obtain ⟨e1, d1⟩ := isCode_dig (by omega) (allCodes_isCode hs0 (hal _ hc))
      obtain ⟨e2, d2⟩ := isCode_dig (by omega) (allCodes_isCode hs0 (hal _ hg))
      rw [rightTo_self] at hr
      exact absurd ((rightTo_full c g (by omega)).1 (by omega)) hne
  have hm : mostOf (al.map (ansOf g)) ≤ al.length - 1 := foldl_max_le fun x hx => by
    obtain ⟨a, ha, rfl⟩ := List.mem_map.1 hx
    have := hlt a ha; omega
  unfold worstOf ansL; omega
theorem holds_ans {c : List Int} (hc : c ∈ al) (r m : Nat) : holdsC ⟨6, 0, 0, (r : Int), (m : Int), g, false⟩ c = (ansOf g c == (r, m)) := by
  obtain ⟨e1, d1⟩ := isCode_dig (by omega) (allCodes_isCode hs0 (hal _ hc))
  obtain ⟨e2, d2⟩ := isCode_dig (by omega) (allCodes_isCode hs0 (hal _ hg))
  have hle := rightTo_le_common c g (by omega) d1
  unfold holdsC plainB ansOf
  simp only [show ¬ ((6 : Int) = 1) by decide, show ¬ ((6 : Int) = 2) by decide, show ¬ ((6 : Int) = 3) by decide, show ¬ ((6 : Int) = 4) by decide, show ¬ ((6 : Int) = 5) by decide, if_false, if_true, Bool.bne_false]
  rw [Bool.eq_iff_iff]
  simp only [Bool.and_eq_true, beq_iff_eq, Prod.mk.injEq]
  omega
theorem left_count (r m : Nat) : (al.filter (holdsC ⟨6, 0, 0, (r : Int), (m : Int), g, false⟩)).length = (al.map (ansOf g)).count (r, m) := by
  rw [← List.countP_eq_length_filter, List.count_eq_countP, List.countP_map]
  refine List.countP_congr fun c hc => ?_
  rw [holds_ans hn hs hs0 hal hg hc r m]
  rfl
theorem left_bounds {c : List Int} (hc : c ∈ al) : 1 ≤ (al.filter (holdsC ⟨6, 0, 0, ((ansOf g c).1 : Int), ((ansOf g c).2 : Int), g, false⟩)).length ∧ (al.filter (holdsC ⟨6, 0, 0, ((ansOf g c).1 : Int), ((ansOf g c).2 : Int), g, false⟩)).length ≤ worstOf al g := by
  rw [left_count hn hs hs0 hal hg]
  have hm : ((ansOf g c).1, (ansOf g c).2) ∈ al.map (ansOf g) := List.mem_map.2 ⟨c, hc, rfl⟩
  exact ⟨List.count_pos_iff.2 hm, mostOf_count hm⟩
theorem left_valid {c : List Int} (hc : c ∈ al) : validC (n : Int) (s : Int) ⟨6, 0, 0, ((ansOf g c).1 : Int), ((ansOf g c).2 : Int), g, false⟩ = true := by
  obtain ⟨e1, d1⟩ := isCode_dig (by omega) (allCodes_isCode hs0 (hal _ hc))
  have h1 := rightTo_len c g
  have h2 := commonTo_le c g 10
  have hcode := allCodes_isCode hs0 (hal _ hg)
  unfold validC validB ansOf
  simp only [show ¬ ((6 : Int) = 1) by decide, show ¬ ((6 : Int) = 2) by decide, show ¬ ((6 : Int) = 3) by decide, show ¬ ((6 : Int) = 4) by decide, show ¬ ((6 : Int) = 5) by decide, if_false, if_true, hcode, Bool.and_eq_true, inRange_iff]
  refine ⟨by omega, by omega, trivial, rfl, rfl⟩
end
end Go.Proofs.Ytimkchehdaadeaa.P
