/- Part 12 of a proof: the statement TopPortraits: for every input its law returns true (its texts without what nothing here names). -/
import Derived.Test.YtimkchehdaadeaaZTop10
import Derived.Test.YtimkchehdaadeaaZTop11

namespace Go.Proofs.Ytimkchehdaadeaa.P
open Go.RowKit Go.Shelf Go.Proofs.YtimkchehdaadeaaW.PrintWords Go.Proofs.YtimkchehdaadeaaW.PrintLast Go.Proofs.YtimkchehdaadeaaW.PrintMore
set_option linter.unusedVariables false
set_option linter.unusedSimpArgs false
theorem within_eq (a lo hi : Int) : codes_within.f a lo hi = some (inRange lo hi a) := by
  unfold codes_within.f inRange
  by_cases h : a ≥ lo
  · rw [if_pos h]; simp [show lo ≤ a from h]
  · rw [if_neg h]; simp [show ¬ lo ≤ a from h]
theorem Check_eq (W S : Int) : codes_Check.f W S = some (if okLock W S then 0 else 10) := by
  unfold codes_Check.f
  simp only [within_eq, Option.bind_some]
  by_cases h : okLock W S
  · obtain ⟨a, b, c, d⟩ := h
    simp [inRange, okLock, a, b, c, d]
  · rw [if_neg h]
    by_cases h1 : inRange 1 4 W = true
    · rw [if_pos h1]
      by_cases h2 : inRange 2 10 S = true
      · exact absurd ⟨(inRange_iff.1 h1).1, (inRange_iff.1 h1).2, (inRange_iff.1 h2).1, (inRange_iff.1 h2).2⟩ h
      · rw [if_neg h2]
    · rw [if_neg h1]
theorem symbol_eq (W S x : Int) (h : okLock W S) : codes_lock_symbol.f W S x = some (inRange 0 (S - 1) x) := by
  obtain ⟨a, b, c, d⟩ := h
  unfold codes_lock_symbol.f
  rw [within_eq, wrap_small (by omega) (by omega)]; rfl
theorem wheel_eq (W S x : Int) (h : okLock W S) : codes_lock_wheel.f W S x = some (inRange 0 (W - 1) x) := by
  obtain ⟨a, b, c, d⟩ := h
  unfold codes_lock_wheel.f
  rw [within_eq, wrap_small (by omega) (by omega)]; rfl
def codes_lock_code.f (W S : Int) (l : List Int) : Option Bool := if okLock W S then some (isCodeB W S l) else none
set_option maxHeartbeats 4000000 in
set_option maxRecDepth 100000 in
theorem ask_code1 (W S : Int) (hl : okLock W S) (B : Nat) (x : Int) (w : World) (hb : w.heap[B]? = some (.cells #[.int .i64 W, .int .i64 S] 83 (0, 0))) :
    Asks 113 #[.pointer (some ⟨B, 0, none⟩)] (.int .i64 x) (!inRange 0 (S - 1) x) w := by
  have hs := symbol_eq W S x hl
  have h0 := (blk_cell hb 0).trans rfl
  have h1 := (blk_cell hb 1).trans rfl
  obtain ⟨r, hr⟩ : ∃ r, r = inRange 0 (S - 1) x := ⟨_, rfl⟩
  rw [← hr] at hs ⊢
  have hc := Aside0.mk (codes_lock_symbol.calls W S x r w hs)
  clear hs hr hb hl
  unfold Asks
  go_enter Try.func113, Try.ntmps113
  go_wp2_with (go_at_call 97; refine hc.out.mono ?_; rintro e w' ⟨rfl, hb'⟩)
  go_ret
  exact ⟨rfl, hb'⟩
theorem isCodeB_len {W S : Int} {l : List Int} (h : (l.length : Int) = W) : isCodeB W S l = !(l.any fun x => !inRange 0 (S - 1) x) := by
  unfold isCodeB
  rw [decide_eq_true h, Bool.true_and, List.all_eq_not_any_not]
set_option maxHeartbeats 4000000 in
set_option maxRecDepth 100000 in
theorem codes_lock_code.calls (a0_0 : Int) (a0_1 : Int) (A1 : Option Addr) (c1 : Nat) (l1 : List Int) (r : Bool) (w : World) (hr1 : Kd.C (Kd.int .i64) w A1 l1.length l1) (hc1 : l1.length ≤ c1) (h : codes_lock_code.f a0_0 a0_1 l1 = some r) :
    Calls Try.prog 90 #[.agg #[.int .i64 a0_0, .int .i64 a0_1], .slice A1 l1.length c1] w fun e w' => e = .returned (.bool r) ∧ Below w.heap.size w w' := by
  unfold codes_lock_code.f at h
  split at h
  case isFalse => cases h
  case isTrue hl =>
  obtain rfl := Option.some.inj h
  clear h
  have hmx := Kd.C_max hr1
  have HB1 : Aside0 (Below w.heap.size w (w.alloc (.cells #[.int .i64 a0_0, .int .i64 a0_1] 83))) := ⟨(Below.refl _ w).alloc (Nat.le_refl _) _⟩
  by_cases he : (l1.length : Int) = a0_0
  · rw [isCodeB_len he]
    have hn : ((l1.length : Int) == a0_0) = true := beq_iff_eq.mpr he
    have hask : ∀ x ∈ l1, ∀ W, Below (w.alloc (.cells #[.int .i64 a0_0, .int .i64 a0_1] 83)).heap.size (w.alloc (.cells #[.int .i64 a0_0, .int .i64 a0_1] 83)) W → Asks 113 #[.pointer (some ⟨w.heap.size, 0, none⟩)] (.int .i64 x) (!inRange 0 (a0_1 - 1) x) W :=
      fun x _ W hW => ask_code1 a0_0 a0_1 hl w.heap.size x W (blk_below (blk_new w _) hW)
    have hcall := contains_int 113 #[.pointer (some ⟨w.heap.size, 0, none⟩)] (enters_of Try.func113 (by kernel_rfl) rfl) (fun x => !inRange 0 (a0_1 - 1) x) A1 c1 l1 _ (Kd.C_alloc hr1 _) hc1 hask
    obtain ⟨b, hb⟩ : ∃ b, b = l1.any fun x => !inRange 0 (a0_1 - 1) x := ⟨_, rfl⟩
    rw [← hb] at hcall ⊢
    have HC := Aside0.mk hcall
    clear hcall hask hb he hr1
    go_enter Try.func90, Try.ntmps90
    go_wp2_with (go_at_call 112; refine HC.out.mono ?_; rintro e w' ⟨rfl, hb'⟩)
    go_ret
    exact ⟨rfl, below_then HB1.out (by simp) hb'⟩
  · have hf : isCodeB a0_0 a0_1 l1 = false := by unfold isCodeB; rw [decide_eq_false he]; rfl
    rw [hf]
    have hn : ((l1.length : Int) == a0_0) = false := beq_eq_false_iff_ne.mpr he
    clear hf he hr1
    go_enter Try.func90, Try.ntmps90
    go_wp2
    go_ret
    exact ⟨rfl, HB1.out⟩
end Go.Proofs.Ytimkchehdaadeaa.P
