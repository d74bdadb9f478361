/- Part 21 of a proof: the statement TopPortraits: for every input its law returns true (its texts without what nothing here names). -/
import Derived.Test.YtimkchehdaadeaaZTop12
import Derived.Test.YtimkchehdaadeaaZTop17
import Derived.RegionTactic
import Derived.BigRegion
import Derived.ChangeAlike
section
namespace Go.Proofs.Ytimkchehdaadeaa.P
open Go.RowKit Go.Shelf Go.Proofs.YtimkchehdaadeaaW.PrintWords Go.Proofs.YtimkchehdaadeaaW.PrintLast Go.Proofs.YtimkchehdaadeaaW.PrintMore
set_option linter.unusedVariables false
set_option linter.unusedSimpArgs false
set_option maxHeartbeats 16000000 in
set_option maxRecDepth 100000 in
theorem clue_k1 (W S A B N M : Int) (A5 : Option Addr) (c5 : Nat) (G : List Int) (nt : Bool) (w : World) (hl : okLock W S) (hr : Kd.C (Kd.int .i64) w A5 G.length G) (hc : G.length ≤ c5) :
    Calls Try.prog 68 #[.agg #[.int .i64 W, .int .i64 S], .agg #[.int .i64 1, .int .i64 A, .int .i64 B, .int .i64 N, .int .i64 M, .slice A5 G.length c5, .bool nt]] w fun e w' => e = .returned (.bool (inRange 0 (W - 1) A && (inRange 0 (S - 1) N && ((B == 0) && ((M == 0) && ((G.length : Int) == 0)))))) ∧ Below w.heap.size w w' := by
  have hu36 := Try.underlying36
  have hu83 := Try.underlying83
  have HW := Aside0.mk fun x w0 => codes_lock_wheel.calls W S x _ w0 (wheel_eq W S x hl)
  have HS := Aside0.mk fun x w0 => codes_lock_symbol.calls W S x _ w0 (symbol_eq W S x hl)
  have HI := Aside0.mk fun x lo hi w0 => codes_within.calls x lo hi _ w0 (within_eq x lo hi)
  have HG : Aside0 (∀ w0, Below w.heap.size w w0 → _) := Aside0.mk fun w0 hb0 => codes_lock_code.calls W S A5 c5 G _ w0 (Kd.C_below hr hb0) hc (by unfold codes_lock_code.f; rw [if_pos hl])
  clear hl hr
  cases h0 : inRange 0 (W - 1) A with
  | false =>
    simp only [Bool.false_and]
    go_enter Try.func68, Try.ntmps68
    go_wp2
    go_region
    go_wp2_with (first | (go_at_call 96; (with_reducible refine (HW.out _ _).mono ?_); rintro e w1 ⟨rfl, hb1⟩; have k0 := blk_below K0.out hb1; have k1 := blk_below K1.out hb1; have k2 := blk_below K2.out hb1; clear K0 K1 K2 f00 f01 f10 f11 f12 f13 f14 f15 f16 f20 f21 f22 f23 f24 f25 f26; have HB0 := Aside0.mk (below_then HB.out HB.out.size hb1); clear HB; have HB := HB0; clear HB0; have k3 := cells2 k0; have k4 := cells7 k1; have k5 := cells7 k2; obtain ⟨f00, f01⟩ := k3; obtain ⟨f10, f11, f12, f13, f14, f15, f16⟩ := k4; obtain ⟨f20, f21, f22, f23, f24, f25, f26⟩ := k5; have K0 := Aside0.mk k0; have K1 := Aside0.mk k1; have K2 := Aside0.mk k2; clear k0 k1 k2 hb1) | (go_at_call 97; (with_reducible refine (HS.out _ _).mono ?_); rintro e w1 ⟨rfl, hb1⟩; have k0 := blk_below K0.out hb1; have k1 := blk_below K1.out hb1; have k2 := blk_below K2.out hb1; clear K0 K1 K2 f00 f01 f10 f11 f12 f13 f14 f15 f16 f20 f21 f22 f23 f24 f25 f26; have HB0 := Aside0.mk (below_then HB.out HB.out.size hb1); clear HB; have HB := HB0; clear HB0; have k3 := cells2 k0; have k4 := cells7 k1; have k5 := cells7 k2; obtain ⟨f00, f01⟩ := k3; obtain ⟨f10, f11, f12, f13, f14, f15, f16⟩ := k4; obtain ⟨f20, f21, f22, f23, f24, f25, f26⟩ := k5; have K0 := Aside0.mk k0; have K1 := Aside0.mk k1; have K2 := Aside0.mk k2; clear k0 k1 k2 hb1) | (go_at_call 96; (with_reducible refine (HW.out _ _).mono ?_); rintro e w1 ⟨rfl, hb1⟩; obtain ⟨hB, k0, k1, k2⟩ := start3 (w := w) hb1 rfl rfl rfl rfl; have HB := Aside0.mk hB; clear hB; have k3 := cells2 k0; have k4 := cells7 k1; have k5 := cells7 k2; obtain ⟨f00, f01⟩ := k3; obtain ⟨f10, f11, f12, f13, f14, f15, f16⟩ := k4; obtain ⟨f20, f21, f22, f23, f24, f25, f26⟩ := k5; have K0 := Aside0.mk k0; have K1 := Aside0.mk k1; have K2 := Aside0.mk k2; clear k0 k1 k2 hb1) | (go_at_call 97; (with_reducible refine (HS.out _ _).mono ?_); rintro e w1 ⟨rfl, hb1⟩; obtain ⟨hB, k0, k1, k2⟩ := start3 (w := w) hb1 rfl rfl rfl rfl; have HB := Aside0.mk hB; clear hB; have k3 := cells2 k0; have k4 := cells7 k1; have k5 := cells7 k2; obtain ⟨f00, f01⟩ := k3; obtain ⟨f10, f11, f12, f13, f14, f15, f16⟩ := k4; obtain ⟨f20, f21, f22, f23, f24, f25, f26⟩ := k5; have K0 := Aside0.mk k0; have K1 := Aside0.mk k1; have K2 := Aside0.mk k2; clear k0 k1 k2 hb1))
    go_ret
    exact ⟨rfl, HB.out⟩
  | true =>
    simp only [Bool.true_and]
    cases h1 : inRange 0 (S - 1) N with
    | false =>
      simp only [Bool.false_and]
      go_enter Try.func68, Try.ntmps68
      go_wp2
      go_region
      go_wp2_with (first | (go_at_call 96; (with_reducible refine (HW.out _ _).mono ?_); rintro e w1 ⟨rfl, hb1⟩; have k0 := blk_below K0.out hb1; have k1 := blk_below K1.out hb1; have k2 := blk_below K2.out hb1; clear K0 K1 K2 f00 f01 f10 f11 f12 f13 f14 f15 f16 f20 f21 f22 f23 f24 f25 f26; have HB0 := Aside0.mk (below_then HB.out HB.out.size hb1); clear HB; have HB := HB0; clear HB0; have k3 := cells2 k0; have k4 := cells7 k1; have k5 := cells7 k2; obtain ⟨f00, f01⟩ := k3; obtain ⟨f10, f11, f12, f13, f14, f15, f16⟩ := k4; obtain ⟨f20, f21, f22, f23, f24, f25, f26⟩ := k5; have K0 := Aside0.mk k0; have K1 := Aside0.mk k1; have K2 := Aside0.mk k2; clear k0 k1 k2 hb1) | (go_at_call 97; (with_reducible refine (HS.out _ _).mono ?_); rintro e w1 ⟨rfl, hb1⟩; have k0 := blk_below K0.out hb1; have k1 := blk_below K1.out hb1; have k2 := blk_below K2.out hb1; clear K0 K1 K2 f00 f01 f10 f11 f12 f13 f14 f15 f16 f20 f21 f22 f23 f24 f25 f26; have HB0 := Aside0.mk (below_then HB.out HB.out.size hb1); clear HB; have HB := HB0; clear HB0; have k3 := cells2 k0; have k4 := cells7 k1; have k5 := cells7 k2; obtain ⟨f00, f01⟩ := k3; obtain ⟨f10, f11, f12, f13, f14, f15, f16⟩ := k4; obtain ⟨f20, f21, f22, f23, f24, f25, f26⟩ := k5; have K0 := Aside0.mk k0; have K1 := Aside0.mk k1; have K2 := Aside0.mk k2; clear k0 k1 k2 hb1) | (go_at_call 96; (with_reducible refine (HW.out _ _).mono ?_); rintro e w1 ⟨rfl, hb1⟩; obtain ⟨hB, k0, k1, k2⟩ := start3 (w := w) hb1 rfl rfl rfl rfl; have HB := Aside0.mk hB; clear hB; have k3 := cells2 k0; have k4 := cells7 k1; have k5 := cells7 k2; obtain ⟨f00, f01⟩ := k3; obtain ⟨f10, f11, f12, f13, f14, f15, f16⟩ := k4; obtain ⟨f20, f21, f22, f23, f24, f25, f26⟩ := k5; have K0 := Aside0.mk k0; have K1 := Aside0.mk k1; have K2 := Aside0.mk k2; clear k0 k1 k2 hb1) | (go_at_call 97; (with_reducible refine (HS.out _ _).mono ?_); rintro e w1 ⟨rfl, hb1⟩; obtain ⟨hB, k0, k1, k2⟩ := start3 (w := w) hb1 rfl rfl rfl rfl; have HB := Aside0.mk hB; clear hB; have k3 := cells2 k0; have k4 := cells7 k1; have k5 := cells7 k2; obtain ⟨f00, f01⟩ := k3; obtain ⟨f10, f11, f12, f13, f14, f15, f16⟩ := k4; obtain ⟨f20, f21, f22, f23, f24, f25, f26⟩ := k5; have K0 := Aside0.mk k0; have K1 := Aside0.mk k1; have K2 := Aside0.mk k2; clear k0 k1 k2 hb1))
      go_ret
      exact ⟨rfl, HB.out⟩
    | true =>
      simp only [Bool.true_and]
      cases h2 : (B == 0) with
      | false =>
        simp only [Bool.false_and]
        go_enter Try.func68, Try.ntmps68
        go_wp2
        go_region
        go_wp2_with (first | (go_at_call 96; (with_reducible refine (HW.out _ _).mono ?_); rintro e w1 ⟨rfl, hb1⟩; have k0 := blk_below K0.out hb1; have k1 := blk_below K1.out hb1; have k2 := blk_below K2.out hb1; clear K0 K1 K2 f00 f01 f10 f11 f12 f13 f14 f15 f16 f20 f21 f22 f23 f24 f25 f26; have HB0 := Aside0.mk (below_then HB.out HB.out.size hb1); clear HB; have HB := HB0; clear HB0; have k3 := cells2 k0; have k4 := cells7 k1; have k5 := cells7 k2; obtain ⟨f00, f01⟩ := k3; obtain ⟨f10, f11, f12, f13, f14, f15, f16⟩ := k4; obtain ⟨f20, f21, f22, f23, f24, f25, f26⟩ := k5; have K0 := Aside0.mk k0; have K1 := Aside0.mk k1; have K2 := Aside0.mk k2; clear k0 k1 k2 hb1) | (go_at_call 97; (with_reducible refine (HS.out _ _).mono ?_); rintro e w1 ⟨rfl, hb1⟩; have k0 := blk_below K0.out hb1; have k1 := blk_below K1.out hb1; have k2 := blk_below K2.out hb1; clear K0 K1 K2 f00 f01 f10 f11 f12 f13 f14 f15 f16 f20 f21 f22 f23 f24 f25 f26; have HB0 := Aside0.mk (below_then HB.out HB.out.size hb1); clear HB; have HB := HB0; clear HB0; have k3 := cells2 k0; have k4 := cells7 k1; have k5 := cells7 k2; obtain ⟨f00, f01⟩ := k3; obtain ⟨f10, f11, f12, f13, f14, f15, f16⟩ := k4; obtain ⟨f20, f21, f22, f23, f24, f25, f26⟩ := k5; have K0 := Aside0.mk k0; have K1 := Aside0.mk k1; have K2 := Aside0.mk k2; clear k0 k1 k2 hb1) | (go_at_call 96; (with_reducible refine (HW.out _ _).mono ?_); rintro e w1 ⟨rfl, hb1⟩; obtain ⟨hB, k0, k1, k2⟩ := start3 (w := w) hb1 rfl rfl rfl rfl; have HB := Aside0.mk hB; clear hB; have k3 := cells2 k0; have k4 := cells7 k1; have k5 := cells7 k2; obtain ⟨f00, f01⟩ := k3; obtain ⟨f10, f11, f12, f13, f14, f15, f16⟩ := k4; obtain ⟨f20, f21, f22, f23, f24, f25, f26⟩ := k5; have K0 := Aside0.mk k0; have K1 := Aside0.mk k1; have K2 := Aside0.mk k2; clear k0 k1 k2 hb1) | (go_at_call 97; (with_reducible refine (HS.out _ _).mono ?_); rintro e w1 ⟨rfl, hb1⟩; obtain ⟨hB, k0, k1, k2⟩ := start3 (w := w) hb1 rfl rfl rfl rfl; have HB := Aside0.mk hB; clear hB; have k3 := cells2 k0; have k4 := cells7 k1; have k5 := cells7 k2; obtain ⟨f00, f01⟩ := k3; obtain ⟨f10, f11, f12, f13, f14, f15, f16⟩ := k4; obtain ⟨f20, f21, f22, f23, f24, f25, f26⟩ := k5; have K0 := Aside0.mk k0; have K1 := Aside0.mk k1; have K2 := Aside0.mk k2; clear k0 k1 k2 hb1))
        go_ret
        exact ⟨rfl, HB.out⟩
      | true =>
        simp only [Bool.true_and]
        cases h3 : (M == 0) with
        | false =>
          simp only [Bool.false_and]
          go_enter Try.func68, Try.ntmps68
          go_wp2
          go_region
          go_wp2_with (first | (go_at_call 96; (with_reducible refine (HW.out _ _).mono ?_); rintro e w1 ⟨rfl, hb1⟩; have k0 := blk_below K0.out hb1; have k1 := blk_below K1.out hb1; have k2 := blk_below K2.out hb1; clear K0 K1 K2 f00 f01 f10 f11 f12 f13 f14 f15 f16 f20 f21 f22 f23 f24 f25 f26; have HB0 := Aside0.mk (below_then HB.out HB.out.size hb1); clear HB; have HB := HB0; clear HB0; have k3 := cells2 k0; have k4 := cells7 k1; have k5 := cells7 k2; obtain ⟨f00, f01⟩ := k3; obtain ⟨f10, f11, f12, f13, f14, f15, f16⟩ := k4; obtain ⟨f20, f21, f22, f23, f24, f25, f26⟩ := k5; have K0 := Aside0.mk k0; have K1 := Aside0.mk k1; have K2 := Aside0.mk k2; clear k0 k1 k2 hb1) | (go_at_call 97; (with_reducible refine (HS.out _ _).mono ?_); rintro e w1 ⟨rfl, hb1⟩; have k0 := blk_below K0.out hb1; have k1 := blk_below K1.out hb1; have k2 := blk_below K2.out hb1; clear K0 K1 K2 f00 f01 f10 f11 f12 f13 f14 f15 f16 f20 f21 f22 f23 f24 f25 f26; have HB0 := Aside0.mk (below_then HB.out HB.out.size hb1); clear HB; have HB := HB0; clear HB0; have k3 := cells2 k0; have k4 := cells7 k1; have k5 := cells7 k2; obtain ⟨f00, f01⟩ := k3; obtain ⟨f10, f11, f12, f13, f14, f15, f16⟩ := k4; obtain ⟨f20, f21, f22, f23, f24, f25, f26⟩ := k5; have K0 := Aside0.mk k0; have K1 := Aside0.mk k1; have K2 := Aside0.mk k2; clear k0 k1 k2 hb1) | (go_at_call 96; (with_reducible refine (HW.out _ _).mono ?_); rintro e w1 ⟨rfl, hb1⟩; obtain ⟨hB, k0, k1, k2⟩ := start3 (w := w) hb1 rfl rfl rfl rfl; have HB := Aside0.mk hB; clear hB; have k3 := cells2 k0; have k4 := cells7 k1; have k5 := cells7 k2; obtain ⟨f00, f01⟩ := k3; obtain ⟨f10, f11, f12, f13, f14, f15, f16⟩ := k4; obtain ⟨f20, f21, f22, f23, f24, f25, f26⟩ := k5; have K0 := Aside0.mk k0; have K1 := Aside0.mk k1; have K2 := Aside0.mk k2; clear k0 k1 k2 hb1) | (go_at_call 97; (with_reducible refine (HS.out _ _).mono ?_); rintro e w1 ⟨rfl, hb1⟩; obtain ⟨hB, k0, k1, k2⟩ := start3 (w := w) hb1 rfl rfl rfl rfl; have HB := Aside0.mk hB; clear hB; have k3 := cells2 k0; have k4 := cells7 k1; have k5 := cells7 k2; obtain ⟨f00, f01⟩ := k3; obtain ⟨f10, f11, f12, f13, f14, f15, f16⟩ := k4; obtain ⟨f20, f21, f22, f23, f24, f25, f26⟩ := k5; have K0 := Aside0.mk k0; have K1 := Aside0.mk k1; have K2 := Aside0.mk k2; clear k0 k1 k2 hb1))
          go_ret
          exact ⟨rfl, HB.out⟩
        | true =>
          simp only [Bool.true_and]
          cases h4 : ((G.length : Int) == 0) with
          | false =>
            go_enter Try.func68, Try.ntmps68
            go_wp2
            go_region
            go_wp2_with (first | (go_at_call 96; (with_reducible refine (HW.out _ _).mono ?_); rintro e w1 ⟨rfl, hb1⟩; have k0 := blk_below K0.out hb1; have k1 := blk_below K1.out hb1; have k2 := blk_below K2.out hb1; clear K0 K1 K2 f00 f01 f10 f11 f12 f13 f14 f15 f16 f20 f21 f22 f23 f24 f25 f26; have HB0 := Aside0.mk (below_then HB.out HB.out.size hb1); clear HB; have HB := HB0; clear HB0; have k3 := cells2 k0; have k4 := cells7 k1; have k5 := cells7 k2; obtain ⟨f00, f01⟩ := k3; obtain ⟨f10, f11, f12, f13, f14, f15, f16⟩ := k4; obtain ⟨f20, f21, f22, f23, f24, f25, f26⟩ := k5; have K0 := Aside0.mk k0; have K1 := Aside0.mk k1; have K2 := Aside0.mk k2; clear k0 k1 k2 hb1) | (go_at_call 97; (with_reducible refine (HS.out _ _).mono ?_); rintro e w1 ⟨rfl, hb1⟩; have k0 := blk_below K0.out hb1; have k1 := blk_below K1.out hb1; have k2 := blk_below K2.out hb1; clear K0 K1 K2 f00 f01 f10 f11 f12 f13 f14 f15 f16 f20 f21 f22 f23 f24 f25 f26; have HB0 := Aside0.mk (below_then HB.out HB.out.size hb1); clear HB; have HB := HB0; clear HB0; have k3 := cells2 k0; have k4 := cells7 k1; have k5 := cells7 k2; obtain ⟨f00, f01⟩ := k3; obtain ⟨f10, f11, f12, f13, f14, f15, f16⟩ := k4; obtain ⟨f20, f21, f22, f23, f24, f25, f26⟩ := k5; have K0 := Aside0.mk k0; have K1 := Aside0.mk k1; have K2 := Aside0.mk k2; clear k0 k1 k2 hb1) | (go_at_call 96; (with_reducible refine (HW.out _ _).mono ?_); rintro e w1 ⟨rfl, hb1⟩; obtain ⟨hB, k0, k1, k2⟩ := start3 (w := w) hb1 rfl rfl rfl rfl; have HB := Aside0.mk hB; clear hB; have k3 := cells2 k0; have k4 := cells7 k1; have k5 := cells7 k2; obtain ⟨f00, f01⟩ := k3; obtain ⟨f10, f11, f12, f13, f14, f15, f16⟩ := k4; obtain ⟨f20, f21, f22, f23, f24, f25, f26⟩ := k5; have K0 := Aside0.mk k0; have K1 := Aside0.mk k1; have K2 := Aside0.mk k2; clear k0 k1 k2 hb1) | (go_at_call 97; (with_reducible refine (HS.out _ _).mono ?_); rintro e w1 ⟨rfl, hb1⟩; obtain ⟨hB, k0, k1, k2⟩ := start3 (w := w) hb1 rfl rfl rfl rfl; have HB := Aside0.mk hB; clear hB; have k3 := cells2 k0; have k4 := cells7 k1; have k5 := cells7 k2; obtain ⟨f00, f01⟩ := k3; obtain ⟨f10, f11, f12, f13, f14, f15, f16⟩ := k4; obtain ⟨f20, f21, f22, f23, f24, f25, f26⟩ := k5; have K0 := Aside0.mk k0; have K1 := Aside0.mk k1; have K2 := Aside0.mk k2; clear k0 k1 k2 hb1))
            go_ret
            exact ⟨rfl, HB.out⟩
          | true =>
            go_enter Try.func68, Try.ntmps68
            go_wp2
            go_region
            go_wp2_with (first | (go_at_call 96; (with_reducible refine (HW.out _ _).mono ?_); rintro e w1 ⟨rfl, hb1⟩; have k0 := blk_below K0.out hb1; have k1 := blk_below K1.out hb1; have k2 := blk_below K2.out hb1; clear K0 K1 K2 f00 f01 f10 f11 f12 f13 f14 f15 f16 f20 f21 f22 f23 f24 f25 f26; have HB0 := Aside0.mk (below_then HB.out HB.out.size hb1); clear HB; have HB := HB0; clear HB0; have k3 := cells2 k0; have k4 := cells7 k1; have k5 := cells7 k2; obtain ⟨f00, f01⟩ := k3; obtain ⟨f10, f11, f12, f13, f14, f15, f16⟩ := k4; obtain ⟨f20, f21, f22, f23, f24, f25, f26⟩ := k5; have K0 := Aside0.mk k0; have K1 := Aside0.mk k1; have K2 := Aside0.mk k2; clear k0 k1 k2 hb1) | (go_at_call 97; (with_reducible refine (HS.out _ _).mono ?_); rintro e w1 ⟨rfl, hb1⟩; have k0 := blk_below K0.out hb1; have k1 := blk_below K1.out hb1; have k2 := blk_below K2.out hb1; clear K0 K1 K2 f00 f01 f10 f11 f12 f13 f14 f15 f16 f20 f21 f22 f23 f24 f25 f26; have HB0 := Aside0.mk (below_then HB.out HB.out.size hb1); clear HB; have HB := HB0; clear HB0; have k3 := cells2 k0; have k4 := cells7 k1; have k5 := cells7 k2; obtain ⟨f00, f01⟩ := k3; obtain ⟨f10, f11, f12, f13, f14, f15, f16⟩ := k4; obtain ⟨f20, f21, f22, f23, f24, f25, f26⟩ := k5; have K0 := Aside0.mk k0; have K1 := Aside0.mk k1; have K2 := Aside0.mk k2; clear k0 k1 k2 hb1) | (go_at_call 96; (with_reducible refine (HW.out _ _).mono ?_); rintro e w1 ⟨rfl, hb1⟩; obtain ⟨hB, k0, k1, k2⟩ := start3 (w := w) hb1 rfl rfl rfl rfl; have HB := Aside0.mk hB; clear hB; have k3 := cells2 k0; have k4 := cells7 k1; have k5 := cells7 k2; obtain ⟨f00, f01⟩ := k3; obtain ⟨f10, f11, f12, f13, f14, f15, f16⟩ := k4; obtain ⟨f20, f21, f22, f23, f24, f25, f26⟩ := k5; have K0 := Aside0.mk k0; have K1 := Aside0.mk k1; have K2 := Aside0.mk k2; clear k0 k1 k2 hb1) | (go_at_call 97; (with_reducible refine (HS.out _ _).mono ?_); rintro e w1 ⟨rfl, hb1⟩; obtain ⟨hB, k0, k1, k2⟩ := start3 (w := w) hb1 rfl rfl rfl rfl; have HB := Aside0.mk hB; clear hB; have k3 := cells2 k0; have k4 := cells7 k1; have k5 := cells7 k2; obtain ⟨f00, f01⟩ := k3; obtain ⟨f10, f11, f12, f13, f14, f15, f16⟩ := k4; obtain ⟨f20, f21, f22, f23, f24, f25, f26⟩ := k5; have K0 := Aside0.mk k0; have K1 := Aside0.mk k1; have K2 := Aside0.mk k2; clear k0 k1 k2 hb1))
            go_ret
            exact ⟨rfl, HB.out⟩
set_option maxHeartbeats 16000000 in
set_option maxRecDepth 100000 in
theorem clue_k2 (W S A B N M : Int) (A5 : Option Addr) (c5 : Nat) (G : List Int) (nt : Bool) (w : World) (hl : okLock W S) (hr : Kd.C (Kd.int .i64) w A5 G.length G) (hc : G.length ≤ c5) :
    Calls Try.prog 68 #[.agg #[.int .i64 W, .int .i64 S], .agg #[.int .i64 2, .int .i64 A, .int .i64 B, .int .i64 N, .int .i64 M, .slice A5 G.length c5, .bool nt]] w fun e w' => e = .returned (.bool (inRange 0 (W - 1) A && (inRange 0 (W - 1) B && (decide (A ≤ B) && (inRange 0 100 N && ((M == 0) && ((G.length : Int) == 0))))))) ∧ Below w.heap.size w w' := by
  have hu36 := Try.underlying36
  have hu83 := Try.underlying83
  have HW := Aside0.mk fun x w0 => codes_lock_wheel.calls W S x _ w0 (wheel_eq W S x hl)
  have HS := Aside0.mk fun x w0 => codes_lock_symbol.calls W S x _ w0 (symbol_eq W S x hl)
  have HI := Aside0.mk fun x lo hi w0 => codes_within.calls x lo hi _ w0 (within_eq x lo hi)
  have HG : Aside0 (∀ w0, Below w.heap.size w w0 → _) := Aside0.mk fun w0 hb0 => codes_lock_code.calls W S A5 c5 G _ w0 (Kd.C_below hr hb0) hc (by unfold codes_lock_code.f; rw [if_pos hl])
  clear hl hr
  cases h0 : inRange 0 (W - 1) A with
  | false =>
    simp only [Bool.false_and]
    go_enter Try.func68, Try.ntmps68
    go_wp2
    go_region
    go_wp2_with (first | (go_at_call 96; (with_reducible refine (HW.out _ _).mono ?_); rintro e w1 ⟨rfl, hb1⟩; have k0 := blk_below K0.out hb1; have k1 := blk_below K1.out hb1; have k2 := blk_below K2.out hb1; clear K0 K1 K2 f00 f01 f10 f11 f12 f13 f14 f15 f16 f20 f21 f22 f23 f24 f25 f26; have HB0 := Aside0.mk (below_then HB.out HB.out.size hb1); clear HB; have HB := HB0; clear HB0; have k3 := cells2 k0; have k4 := cells7 k1; have k5 := cells7 k2; obtain ⟨f00, f01⟩ := k3; obtain ⟨f10, f11, f12, f13, f14, f15, f16⟩ := k4; obtain ⟨f20, f21, f22, f23, f24, f25, f26⟩ := k5; have K0 := Aside0.mk k0; have K1 := Aside0.mk k1; have K2 := Aside0.mk k2; clear k0 k1 k2 hb1) | (go_at_call 66; (with_reducible refine (HI.out _ _ _ _).mono ?_); rintro e w1 ⟨rfl, hb1⟩; replace hb1 := hb1.below; have k0 := blk_below K0.out hb1; have k1 := blk_below K1.out hb1; have k2 := blk_below K2.out hb1; clear K0 K1 K2 f00 f01 f10 f11 f12 f13 f14 f15 f16 f20 f21 f22 f23 f24 f25 f26; have HB0 := Aside0.mk (below_then HB.out HB.out.size hb1); clear HB; have HB := HB0; clear HB0; have k3 := cells2 k0; have k4 := cells7 k1; have k5 := cells7 k2; obtain ⟨f00, f01⟩ := k3; obtain ⟨f10, f11, f12, f13, f14, f15, f16⟩ := k4; obtain ⟨f20, f21, f22, f23, f24, f25, f26⟩ := k5; have K0 := Aside0.mk k0; have K1 := Aside0.mk k1; have K2 := Aside0.mk k2; clear k0 k1 k2 hb1) | (go_at_call 96; (with_reducible refine (HW.out _ _).mono ?_); rintro e w1 ⟨rfl, hb1⟩; obtain ⟨hB, k0, k1, k2⟩ := start3 (w := w) hb1 rfl rfl rfl rfl; have HB := Aside0.mk hB; clear hB; have k3 := cells2 k0; have k4 := cells7 k1; have k5 := cells7 k2; obtain ⟨f00, f01⟩ := k3; obtain ⟨f10, f11, f12, f13, f14, f15, f16⟩ := k4; obtain ⟨f20, f21, f22, f23, f24, f25, f26⟩ := k5; have K0 := Aside0.mk k0; have K1 := Aside0.mk k1; have K2 := Aside0.mk k2; clear k0 k1 k2 hb1) | (go_at_call 66; (with_reducible refine (HI.out _ _ _ _).mono ?_); rintro e w1 ⟨rfl, hb1⟩; replace hb1 := hb1.below; obtain ⟨hB, k0, k1, k2⟩ := start3 (w := w) hb1 rfl rfl rfl rfl; have HB := Aside0.mk hB; clear hB; have k3 := cells2 k0; have k4 := cells7 k1; have k5 := cells7 k2; obtain ⟨f00, f01⟩ := k3; obtain ⟨f10, f11, f12, f13, f14, f15, f16⟩ := k4; obtain ⟨f20, f21, f22, f23, f24, f25, f26⟩ := k5; have K0 := Aside0.mk k0; have K1 := Aside0.mk k1; have K2 := Aside0.mk k2; clear k0 k1 k2 hb1))
    go_ret
    exact ⟨rfl, HB.out⟩
  | true =>
    simp only [Bool.true_and]
    cases h1 : inRange 0 (W - 1) B with
    | false =>
      simp only [Bool.false_and]
      go_enter Try.func68, Try.ntmps68
      go_wp2
      go_region
      go_wp2_with (first | (go_at_call 96; (with_reducible refine (HW.out _ _).mono ?_); rintro e w1 ⟨rfl, hb1⟩; have k0 := blk_below K0.out hb1; have k1 := blk_below K1.out hb1; have k2 := blk_below K2.out hb1; clear K0 K1 K2 f00 f01 f10 f11 f12 f13 f14 f15 f16 f20 f21 f22 f23 f24 f25 f26; have HB0 := Aside0.mk (below_then HB.out HB.out.size hb1); clear HB; have HB := HB0; clear HB0; have k3 := cells2 k0; have k4 := cells7 k1; have k5 := cells7 k2; obtain ⟨f00, f01⟩ := k3; obtain ⟨f10, f11, f12, f13, f14, f15, f16⟩ := k4; obtain ⟨f20, f21, f22, f23, f24, f25, f26⟩ := k5; have K0 := Aside0.mk k0; have K1 := Aside0.mk k1; have K2 := Aside0.mk k2; clear k0 k1 k2 hb1) | (go_at_call 66; (with_reducible refine (HI.out _ _ _ _).mono ?_); rintro e w1 ⟨rfl, hb1⟩; replace hb1 := hb1.below; have k0 := blk_below K0.out hb1; have k1 := blk_below K1.out hb1; have k2 := blk_below K2.out hb1; clear K0 K1 K2 f00 f01 f10 f11 f12 f13 f14 f15 f16 f20 f21 f22 f23 f24 f25 f26; have HB0 := Aside0.mk (below_then HB.out HB.out.size hb1); clear HB; have HB := HB0; clear HB0; have k3 := cells2 k0; have k4 := cells7 k1; have k5 := cells7 k2; obtain ⟨f00, f01⟩ := k3; obtain ⟨f10, f11, f12, f13, f14, f15, f16⟩ := k4; obtain ⟨f20, f21, f22, f23, f24, f25, f26⟩ := k5; have K0 := Aside0.mk k0; have K1 := Aside0.mk k1; have K2 := Aside0.mk k2; clear k0 k1 k2 hb1) | (go_at_call 96; (with_reducible refine (HW.out _ _).mono ?_); rintro e w1 ⟨rfl, hb1⟩; obtain ⟨hB, k0, k1, k2⟩ := start3 (w := w) hb1 rfl rfl rfl rfl; have HB := Aside0.mk hB; clear hB; have k3 := cells2 k0; have k4 := cells7 k1; have k5 := cells7 k2; obtain ⟨f00, f01⟩ := k3; obtain ⟨f10, f11, f12, f13, f14, f15, f16⟩ := k4; obtain ⟨f20, f21, f22, f23, f24, f25, f26⟩ := k5; have K0 := Aside0.mk k0; have K1 := Aside0.mk k1; have K2 := Aside0.mk k2; clear k0 k1 k2 hb1) | (go_at_call 66; (with_reducible refine (HI.out _ _ _ _).mono ?_); rintro e w1 ⟨rfl, hb1⟩; replace hb1 := hb1.below; obtain ⟨hB, k0, k1, k2⟩ := start3 (w := w) hb1 rfl rfl rfl rfl; have HB := Aside0.mk hB; clear hB; have k3 := cells2 k0; have k4 := cells7 k1; have k5 := cells7 k2; obtain ⟨f00, f01⟩ := k3; obtain ⟨f10, f11, f12, f13, f14, f15, f16⟩ := k4; obtain ⟨f20, f21, f22, f23, f24, f25, f26⟩ := k5; have K0 := Aside0.mk k0; have K1 := Aside0.mk k1; have K2 := Aside0.mk k2; clear k0 k1 k2 hb1))
      go_ret
      exact ⟨rfl, HB.out⟩
    | true =>
      simp only [Bool.true_and]
      cases h2 : decide (A ≤ B) with
      | false =>
        simp only [Bool.false_and]
        go_enter Try.func68, Try.ntmps68
        go_wp2
        go_region
        go_wp2_with (first | (go_at_call 96; (with_reducible refine (HW.out _ _).mono ?_); rintro e w1 ⟨rfl, hb1⟩; have k0 := blk_below K0.out hb1; have k1 := blk_below K1.out hb1; have k2 := blk_below K2.out hb1; clear K0 K1 K2 f00 f01 f10 f11 f12 f13 f14 f15 f16 f20 f21 f22 f23 f24 f25 f26; have HB0 := Aside0.mk (below_then HB.out HB.out.size hb1); clear HB; have HB := HB0; clear HB0; have k3 := cells2 k0; have k4 := cells7 k1; have k5 := cells7 k2; obtain ⟨f00, f01⟩ := k3; obtain ⟨f10, f11, f12, f13, f14, f15, f16⟩ := k4; obtain ⟨f20, f21, f22, f23, f24, f25, f26⟩ := k5; have K0 := Aside0.mk k0; have K1 := Aside0.mk k1; have K2 := Aside0.mk k2; clear k0 k1 k2 hb1) | (go_at_call 66; (with_reducible refine (HI.out _ _ _ _).mono ?_); rintro e w1 ⟨rfl, hb1⟩; replace hb1 := hb1.below; have k0 := blk_below K0.out hb1; have k1 := blk_below K1.out hb1; have k2 := blk_below K2.out hb1; clear K0 K1 K2 f00 f01 f10 f11 f12 f13 f14 f15 f16 f20 f21 f22 f23 f24 f25 f26; have HB0 := Aside0.mk (below_then HB.out HB.out.size hb1); clear HB; have HB := HB0; clear HB0; have k3 := cells2 k0; have k4 := cells7 k1; have k5 := cells7 k2; obtain ⟨f00, f01⟩ := k3; obtain ⟨f10, f11, f12, f13, f14, f15, f16⟩ := k4; obtain ⟨f20, f21, f22, f23, f24, f25, f26⟩ := k5; have K0 := Aside0.mk k0; have K1 := Aside0.mk k1; have K2 := Aside0.mk k2; clear k0 k1 k2 hb1) | (go_at_call 96; (with_reducible refine (HW.out _ _).mono ?_); rintro e w1 ⟨rfl, hb1⟩; obtain ⟨hB, k0, k1, k2⟩ := start3 (w := w) hb1 rfl rfl rfl rfl; have HB := Aside0.mk hB; clear hB; have k3 := cells2 k0; have k4 := cells7 k1; have k5 := cells7 k2; obtain ⟨f00, f01⟩ := k3; obtain ⟨f10, f11, f12, f13, f14, f15, f16⟩ := k4; obtain ⟨f20, f21, f22, f23, f24, f25, f26⟩ := k5; have K0 := Aside0.mk k0; have K1 := Aside0.mk k1; have K2 := Aside0.mk k2; clear k0 k1 k2 hb1) | (go_at_call 66; (with_reducible refine (HI.out _ _ _ _).mono ?_); rintro e w1 ⟨rfl, hb1⟩; replace hb1 := hb1.below; obtain ⟨hB, k0, k1, k2⟩ := start3 (w := w) hb1 rfl rfl rfl rfl; have HB := Aside0.mk hB; clear hB; have k3 := cells2 k0; have k4 := cells7 k1; have k5 := cells7 k2; obtain ⟨f00, f01⟩ := k3; obtain ⟨f10, f11, f12, f13, f14, f15, f16⟩ := k4; obtain ⟨f20, f21, f22, f23, f24, f25, f26⟩ := k5; have K0 := Aside0.mk k0; have K1 := Aside0.mk k1; have K2 := Aside0.mk k2; clear k0 k1 k2 hb1))
        go_ret
        exact ⟨rfl, HB.out⟩
      | true =>
        simp only [Bool.true_and]
        cases h3 : inRange 0 100 N with
        | false =>
          simp only [Bool.false_and]
          go_enter Try.func68, Try.ntmps68
          go_wp2
          go_region
          go_wp2_with (first | (go_at_call 96; (with_reducible refine (HW.out _ _).mono ?_); rintro e w1 ⟨rfl, hb1⟩; have k0 := blk_below K0.out hb1; have k1 := blk_below K1.out hb1; have k2 := blk_below K2.out hb1; clear K0 K1 K2 f00 f01 f10 f11 f12 f13 f14 f15 f16 f20 f21 f22 f23 f24 f25 f26; have HB0 := Aside0.mk (below_then HB.out HB.out.size hb1); clear HB; have HB := HB0; clear HB0; have k3 := cells2 k0; have k4 := cells7 k1; have k5 := cells7 k2; obtain ⟨f00, f01⟩ := k3; obtain ⟨f10, f11, f12, f13, f14, f15, f16⟩ := k4; obtain ⟨f20, f21, f22, f23, f24, f25, f26⟩ := k5; have K0 := Aside0.mk k0; have K1 := Aside0.mk k1; have K2 := Aside0.mk k2; clear k0 k1 k2 hb1) | (go_at_call 66; (with_reducible refine (HI.out _ _ _ _).mono ?_); rintro e w1 ⟨rfl, hb1⟩; replace hb1 := hb1.below; have k0 := blk_below K0.out hb1; have k1 := blk_below K1.out hb1; have k2 := blk_below K2.out hb1; clear K0 K1 K2 f00 f01 f10 f11 f12 f13 f14 f15 f16 f20 f21 f22 f23 f24 f25 f26; have HB0 := Aside0.mk (below_then HB.out HB.out.size hb1); clear HB; have HB := HB0; clear HB0; have k3 := cells2 k0; have k4 := cells7 k1; have k5 := cells7 k2; obtain ⟨f00, f01⟩ := k3; obtain ⟨f10, f11, f12, f13, f14, f15, f16⟩ := k4; obtain ⟨f20, f21, f22, f23, f24, f25, f26⟩ := k5; have K0 := Aside0.mk k0; have K1 := Aside0.mk k1; have K2 := Aside0.mk k2; clear k0 k1 k2 hb1) | (go_at_call 96; (with_reducible refine (HW.out _ _).mono ?_); rintro e w1 ⟨rfl, hb1⟩; obtain ⟨hB, k0, k1, k2⟩ := start3 (w := w) hb1 rfl rfl rfl rfl; have HB := Aside0.mk hB; clear hB; have k3 := cells2 k0; have k4 := cells7 k1; have k5 := cells7 k2; obtain ⟨f00, f01⟩ := k3; obtain ⟨f10, f11, f12, f13, f14, f15, f16⟩ := k4; obtain ⟨f20, f21, f22, f23, f24, f25, f26⟩ := k5; have K0 := Aside0.mk k0; have K1 := Aside0.mk k1; have K2 := Aside0.mk k2; clear k0 k1 k2 hb1) | (go_at_call 66; (with_reducible refine (HI.out _ _ _ _).mono ?_); rintro e w1 ⟨rfl, hb1⟩; replace hb1 := hb1.below; obtain ⟨hB, k0, k1, k2⟩ := start3 (w := w) hb1 rfl rfl rfl rfl; have HB := Aside0.mk hB; clear hB; have k3 := cells2 k0; have k4 := cells7 k1; have k5 := cells7 k2; obtain ⟨f00, f01⟩ := k3; obtain ⟨f10, f11, f12, f13, f14, f15, f16⟩ := k4; obtain ⟨f20, f21, f22, f23, f24, f25, f26⟩ := k5; have K0 := Aside0.mk k0; have K1 := Aside0.mk k1; have K2 := Aside0.mk k2; clear k0 k1 k2 hb1))
          go_ret
          exact ⟨rfl, HB.out⟩
        | true =>
          simp only [Bool.true_and]
          cases h4 : (M == 0) with
          | false =>
            simp only [Bool.false_and]
            go_enter Try.func68, Try.ntmps68
            go_wp2
            go_region
            go_wp2_with (first | (go_at_call 96; (with_reducible refine (HW.out _ _).mono ?_); rintro e w1 ⟨rfl, hb1⟩; have k0 := blk_below K0.out hb1; have k1 := blk_below K1.out hb1; have k2 := blk_below K2.out hb1; clear K0 K1 K2 f00 f01 f10 f11 f12 f13 f14 f15 f16 f20 f21 f22 f23 f24 f25 f26; have HB0 := Aside0.mk (below_then HB.out HB.out.size hb1); clear HB; have HB := HB0; clear HB0; have k3 := cells2 k0; have k4 := cells7 k1; have k5 := cells7 k2; obtain ⟨f00, f01⟩ := k3; obtain ⟨f10, f11, f12, f13, f14, f15, f16⟩ := k4; obtain ⟨f20, f21, f22, f23, f24, f25, f26⟩ := k5; have K0 := Aside0.mk k0; have K1 := Aside0.mk k1; have K2 := Aside0.mk k2; clear k0 k1 k2 hb1) | (go_at_call 66; (with_reducible refine (HI.out _ _ _ _).mono ?_); rintro e w1 ⟨rfl, hb1⟩; replace hb1 := hb1.below; have k0 := blk_below K0.out hb1; have k1 := blk_below K1.out hb1; have k2 := blk_below K2.out hb1; clear K0 K1 K2 f00 f01 f10 f11 f12 f13 f14 f15 f16 f20 f21 f22 f23 f24 f25 f26; have HB0 := Aside0.mk (below_then HB.out HB.out.size hb1); clear HB; have HB := HB0; clear HB0; have k3 := cells2 k0; have k4 := cells7 k1; have k5 := cells7 k2; obtain ⟨f00, f01⟩ := k3; obtain ⟨f10, f11, f12, f13, f14, f15, f16⟩ := k4; obtain ⟨f20, f21, f22, f23, f24, f25, f26⟩ := k5; have K0 := Aside0.mk k0; have K1 := Aside0.mk k1; have K2 := Aside0.mk k2; clear k0 k1 k2 hb1) | (go_at_call 96; (with_reducible refine (HW.out _ _).mono ?_); rintro e w1 ⟨rfl, hb1⟩; obtain ⟨hB, k0, k1, k2⟩ := start3 (w := w) hb1 rfl rfl rfl rfl; have HB := Aside0.mk hB; clear hB; have k3 := cells2 k0; have k4 := cells7 k1; have k5 := cells7 k2; obtain ⟨f00, f01⟩ := k3; obtain ⟨f10, f11, f12, f13, f14, f15, f16⟩ := k4; obtain ⟨f20, f21, f22, f23, f24, f25, f26⟩ := k5; have K0 := Aside0.mk k0; have K1 := Aside0.mk k1; have K2 := Aside0.mk k2; clear k0 k1 k2 hb1) | (go_at_call 66; (with_reducible refine (HI.out _ _ _ _).mono ?_); rintro e w1 ⟨rfl, hb1⟩; replace hb1 := hb1.below; obtain ⟨hB, k0, k1, k2⟩ := start3 (w := w) hb1 rfl rfl rfl rfl; have HB := Aside0.mk hB; clear hB; have k3 := cells2 k0; have k4 := cells7 k1; have k5 := cells7 k2; obtain ⟨f00, f01⟩ := k3; obtain ⟨f10, f11, f12, f13, f14, f15, f16⟩ := k4; obtain ⟨f20, f21, f22, f23, f24, f25, f26⟩ := k5; have K0 := Aside0.mk k0; have K1 := Aside0.mk k1; have K2 := Aside0.mk k2; clear k0 k1 k2 hb1))
            go_ret
            exact ⟨rfl, HB.out⟩
          | true =>
            simp only [Bool.true_and]
            cases h5 : ((G.length : Int) == 0) with
            | false =>
              go_enter Try.func68, Try.ntmps68
              go_wp2
              go_region
              go_wp2_with (first | (go_at_call 96; (with_reducible refine (HW.out _ _).mono ?_); rintro e w1 ⟨rfl, hb1⟩; have k0 := blk_below K0.out hb1; have k1 := blk_below K1.out hb1; have k2 := blk_below K2.out hb1; clear K0 K1 K2 f00 f01 f10 f11 f12 f13 f14 f15 f16 f20 f21 f22 f23 f24 f25 f26; have HB0 := Aside0.mk (below_then HB.out HB.out.size hb1); clear HB; have HB := HB0; clear HB0; have k3 := cells2 k0; have k4 := cells7 k1; have k5 := cells7 k2; obtain ⟨f00, f01⟩ := k3; obtain ⟨f10, f11, f12, f13, f14, f15, f16⟩ := k4; obtain ⟨f20, f21, f22, f23, f24, f25, f26⟩ := k5; have K0 := Aside0.mk k0; have K1 := Aside0.mk k1; have K2 := Aside0.mk k2; clear k0 k1 k2 hb1) | (go_at_call 66; (with_reducible refine (HI.out _ _ _ _).mono ?_); rintro e w1 ⟨rfl, hb1⟩; replace hb1 := hb1.below; have k0 := blk_below K0.out hb1; have k1 := blk_below K1.out hb1; have k2 := blk_below K2.out hb1; clear K0 K1 K2 f00 f01 f10 f11 f12 f13 f14 f15 f16 f20 f21 f22 f23 f24 f25 f26; have HB0 := Aside0.mk (below_then HB.out HB.out.size hb1); clear HB; have HB := HB0; clear HB0; have k3 := cells2 k0; have k4 := cells7 k1; have k5 := cells7 k2; obtain ⟨f00, f01⟩ := k3; obtain ⟨f10, f11, f12, f13, f14, f15, f16⟩ := k4; obtain ⟨f20, f21, f22, f23, f24, f25, f26⟩ := k5; have K0 := Aside0.mk k0; have K1 := Aside0.mk k1; have K2 := Aside0.mk k2; clear k0 k1 k2 hb1) | (go_at_call 96; (with_reducible refine (HW.out _ _).mono ?_); rintro e w1 ⟨rfl, hb1⟩; obtain ⟨hB, k0, k1, k2⟩ := start3 (w := w) hb1 rfl rfl rfl rfl; have HB := Aside0.mk hB; clear hB; have k3 := cells2 k0; have k4 := cells7 k1; have k5 := cells7 k2; obtain ⟨f00, f01⟩ := k3; obtain ⟨f10, f11, f12, f13, f14, f15, f16⟩ := k4; obtain ⟨f20, f21, f22, f23, f24, f25, f26⟩ := k5; have K0 := Aside0.mk k0; have K1 := Aside0.mk k1; have K2 := Aside0.mk k2; clear k0 k1 k2 hb1) | (go_at_call 66; (with_reducible refine (HI.out _ _ _ _).mono ?_); rintro e w1 ⟨rfl, hb1⟩; replace hb1 := hb1.below; obtain ⟨hB, k0, k1, k2⟩ := start3 (w := w) hb1 rfl rfl rfl rfl; have HB := Aside0.mk hB; clear hB; have k3 := cells2 k0; have k4 := cells7 k1; have k5 := cells7 k2; obtain ⟨f00, f01⟩ := k3; obtain ⟨f10, f11, f12, f13, f14, f15, f16⟩ := k4; obtain ⟨f20, f21, f22, f23, f24, f25, f26⟩ := k5; have K0 := Aside0.mk k0; have K1 := Aside0.mk k1; have K2 := Aside0.mk k2; clear k0 k1 k2 hb1))
              go_ret
              exact ⟨rfl, HB.out⟩
            | true =>
              go_enter Try.func68, Try.ntmps68
              go_wp2
              go_region
              go_wp2_with (first | (go_at_call 96; (with_reducible refine (HW.out _ _).mono ?_); rintro e w1 ⟨rfl, hb1⟩; have k0 := blk_below K0.out hb1; have k1 := blk_below K1.out hb1; have k2 := blk_below K2.out hb1; clear K0 K1 K2 f00 f01 f10 f11 f12 f13 f14 f15 f16 f20 f21 f22 f23 f24 f25 f26; have HB0 := Aside0.mk (below_then HB.out HB.out.size hb1); clear HB; have HB := HB0; clear HB0; have k3 := cells2 k0; have k4 := cells7 k1; have k5 := cells7 k2; obtain ⟨f00, f01⟩ := k3; obtain ⟨f10, f11, f12, f13, f14, f15, f16⟩ := k4; obtain ⟨f20, f21, f22, f23, f24, f25, f26⟩ := k5; have K0 := Aside0.mk k0; have K1 := Aside0.mk k1; have K2 := Aside0.mk k2; clear k0 k1 k2 hb1) | (go_at_call 66; (with_reducible refine (HI.out _ _ _ _).mono ?_); rintro e w1 ⟨rfl, hb1⟩; replace hb1 := hb1.below; have k0 := blk_below K0.out hb1; have k1 := blk_below K1.out hb1; have k2 := blk_below K2.out hb1; clear K0 K1 K2 f00 f01 f10 f11 f12 f13 f14 f15 f16 f20 f21 f22 f23 f24 f25 f26; have HB0 := Aside0.mk (below_then HB.out HB.out.size hb1); clear HB; have HB := HB0; clear HB0; have k3 := cells2 k0; have k4 := cells7 k1; have k5 := cells7 k2; obtain ⟨f00, f01⟩ := k3; obtain ⟨f10, f11, f12, f13, f14, f15, f16⟩ := k4; obtain ⟨f20, f21, f22, f23, f24, f25, f26⟩ := k5; have K0 := Aside0.mk k0; have K1 := Aside0.mk k1; have K2 := Aside0.mk k2; clear k0 k1 k2 hb1) | (go_at_call 96; (with_reducible refine (HW.out _ _).mono ?_); rintro e w1 ⟨rfl, hb1⟩; obtain ⟨hB, k0, k1, k2⟩ := start3 (w := w) hb1 rfl rfl rfl rfl; have HB := Aside0.mk hB; clear hB; have k3 := cells2 k0; have k4 := cells7 k1; have k5 := cells7 k2; obtain ⟨f00, f01⟩ := k3; obtain ⟨f10, f11, f12, f13, f14, f15, f16⟩ := k4; obtain ⟨f20, f21, f22, f23, f24, f25, f26⟩ := k5; have K0 := Aside0.mk k0; have K1 := Aside0.mk k1; have K2 := Aside0.mk k2; clear k0 k1 k2 hb1) | (go_at_call 66; (with_reducible refine (HI.out _ _ _ _).mono ?_); rintro e w1 ⟨rfl, hb1⟩; replace hb1 := hb1.below; obtain ⟨hB, k0, k1, k2⟩ := start3 (w := w) hb1 rfl rfl rfl rfl; have HB := Aside0.mk hB; clear hB; have k3 := cells2 k0; have k4 := cells7 k1; have k5 := cells7 k2; obtain ⟨f00, f01⟩ := k3; obtain ⟨f10, f11, f12, f13, f14, f15, f16⟩ := k4; obtain ⟨f20, f21, f22, f23, f24, f25, f26⟩ := k5; have K0 := Aside0.mk k0; have K1 := Aside0.mk k1; have K2 := Aside0.mk k2; clear k0 k1 k2 hb1))
              go_ret
              exact ⟨rfl, HB.out⟩
set_option maxHeartbeats 16000000 in
set_option maxRecDepth 100000 in
theorem clue_k3 (W S A B N M : Int) (A5 : Option Addr) (c5 : Nat) (G : List Int) (nt : Bool) (w : World) (hl : okLock W S) (hr : Kd.C (Kd.int .i64) w A5 G.length G) (hc : G.length ≤ c5) :
    Calls Try.prog 68 #[.agg #[.int .i64 W, .int .i64 S], .agg #[.int .i64 3, .int .i64 A, .int .i64 B, .int .i64 N, .int .i64 M, .slice A5 G.length c5, .bool nt]] w fun e w' => e = .returned (.bool (inRange 0 (W - 1) A && (inRange 0 (W - 1) B && ((A != B) && ((N == 0) && ((M == 0) && ((G.length : Int) == 0))))))) ∧ Below w.heap.size w w' := by
  have hu36 := Try.underlying36
  have hu83 := Try.underlying83
  have HW := Aside0.mk fun x w0 => codes_lock_wheel.calls W S x _ w0 (wheel_eq W S x hl)
  have HS := Aside0.mk fun x w0 => codes_lock_symbol.calls W S x _ w0 (symbol_eq W S x hl)
  have HI := Aside0.mk fun x lo hi w0 => codes_within.calls x lo hi _ w0 (within_eq x lo hi)
  have HG : Aside0 (∀ w0, Below w.heap.size w w0 → _) := Aside0.mk fun w0 hb0 => codes_lock_code.calls W S A5 c5 G _ w0 (Kd.C_below hr hb0) hc (by unfold codes_lock_code.f; rw [if_pos hl])
  clear hl hr
  cases h0 : inRange 0 (W - 1) A with
  | false =>
    simp only [Bool.false_and]
    go_enter Try.func68, Try.ntmps68
    go_wp2
    go_region
    go_wp2_with (first | (go_at_call 96; (with_reducible refine (HW.out _ _).mono ?_); rintro e w1 ⟨rfl, hb1⟩; have k0 := blk_below K0.out hb1; have k1 := blk_below K1.out hb1; have k2 := blk_below K2.out hb1; clear K0 K1 K2 f00 f01 f10 f11 f12 f13 f14 f15 f16 f20 f21 f22 f23 f24 f25 f26; have HB0 := Aside0.mk (below_then HB.out HB.out.size hb1); clear HB; have HB := HB0; clear HB0; have k3 := cells2 k0; have k4 := cells7 k1; have k5 := cells7 k2; obtain ⟨f00, f01⟩ := k3; obtain ⟨f10, f11, f12, f13, f14, f15, f16⟩ := k4; obtain ⟨f20, f21, f22, f23, f24, f25, f26⟩ := k5; have K0 := Aside0.mk k0; have K1 := Aside0.mk k1; have K2 := Aside0.mk k2; clear k0 k1 k2 hb1) | (go_at_call 96; (with_reducible refine (HW.out _ _).mono ?_); rintro e w1 ⟨rfl, hb1⟩; obtain ⟨hB, k0, k1, k2⟩ := start3 (w := w) hb1 rfl rfl rfl rfl; have HB := Aside0.mk hB; clear hB; have k3 := cells2 k0; have k4 := cells7 k1; have k5 := cells7 k2; obtain ⟨f00, f01⟩ := k3; obtain ⟨f10, f11, f12, f13, f14, f15, f16⟩ := k4; obtain ⟨f20, f21, f22, f23, f24, f25, f26⟩ := k5; have K0 := Aside0.mk k0; have K1 := Aside0.mk k1; have K2 := Aside0.mk k2; clear k0 k1 k2 hb1))
    go_ret
    exact ⟨rfl, HB.out⟩
  | true =>
    simp only [Bool.true_and]
    cases h1 : inRange 0 (W - 1) B with
    | false =>
      simp only [Bool.false_and]
      go_enter Try.func68, Try.ntmps68
      go_wp2
      go_region
      go_wp2_with (first | (go_at_call 96; (with_reducible refine (HW.out _ _).mono ?_); rintro e w1 ⟨rfl, hb1⟩; have k0 := blk_below K0.out hb1; have k1 := blk_below K1.out hb1; have k2 := blk_below K2.out hb1; clear K0 K1 K2 f00 f01 f10 f11 f12 f13 f14 f15 f16 f20 f21 f22 f23 f24 f25 f26; have HB0 := Aside0.mk (below_then HB.out HB.out.size hb1); clear HB; have HB := HB0; clear HB0; have k3 := cells2 k0; have k4 := cells7 k1; have k5 := cells7 k2; obtain ⟨f00, f01⟩ := k3; obtain ⟨f10, f11, f12, f13, f14, f15, f16⟩ := k4; obtain ⟨f20, f21, f22, f23, f24, f25, f26⟩ := k5; have K0 := Aside0.mk k0; have K1 := Aside0.mk k1; have K2 := Aside0.mk k2; clear k0 k1 k2 hb1) | (go_at_call 96; (with_reducible refine (HW.out _ _).mono ?_); rintro e w1 ⟨rfl, hb1⟩; obtain ⟨hB, k0, k1, k2⟩ := start3 (w := w) hb1 rfl rfl rfl rfl; have HB := Aside0.mk hB; clear hB; have k3 := cells2 k0; have k4 := cells7 k1; have k5 := cells7 k2; obtain ⟨f00, f01⟩ := k3; obtain ⟨f10, f11, f12, f13, f14, f15, f16⟩ := k4; obtain ⟨f20, f21, f22, f23, f24, f25, f26⟩ := k5; have K0 := Aside0.mk k0; have K1 := Aside0.mk k1; have K2 := Aside0.mk k2; clear k0 k1 k2 hb1))
      go_ret
      exact ⟨rfl, HB.out⟩
    | true =>
      simp only [Bool.true_and]
      cases h2 : (A != B) with
      | false =>
        simp only [Bool.false_and]
        go_enter Try.func68, Try.ntmps68
        go_wp2
        go_region
        go_wp2_with (first | (go_at_call 96; (with_reducible refine (HW.out _ _).mono ?_); rintro e w1 ⟨rfl, hb1⟩; have k0 := blk_below K0.out hb1; have k1 := blk_below K1.out hb1; have k2 := blk_below K2.out hb1; clear K0 K1 K2 f00 f01 f10 f11 f12 f13 f14 f15 f16 f20 f21 f22 f23 f24 f25 f26; have HB0 := Aside0.mk (below_then HB.out HB.out.size hb1); clear HB; have HB := HB0; clear HB0; have k3 := cells2 k0; have k4 := cells7 k1; have k5 := cells7 k2; obtain ⟨f00, f01⟩ := k3; obtain ⟨f10, f11, f12, f13, f14, f15, f16⟩ := k4; obtain ⟨f20, f21, f22, f23, f24, f25, f26⟩ := k5; have K0 := Aside0.mk k0; have K1 := Aside0.mk k1; have K2 := Aside0.mk k2; clear k0 k1 k2 hb1) | (go_at_call 96; (with_reducible refine (HW.out _ _).mono ?_); rintro e w1 ⟨rfl, hb1⟩; obtain ⟨hB, k0, k1, k2⟩ := start3 (w := w) hb1 rfl rfl rfl rfl; have HB := Aside0.mk hB; clear hB; have k3 := cells2 k0; have k4 := cells7 k1; have k5 := cells7 k2; obtain ⟨f00, f01⟩ := k3; obtain ⟨f10, f11, f12, f13, f14, f15, f16⟩ := k4; obtain ⟨f20, f21, f22, f23, f24, f25, f26⟩ := k5; have K0 := Aside0.mk k0; have K1 := Aside0.mk k1; have K2 := Aside0.mk k2; clear k0 k1 k2 hb1))
        go_ret
        exact ⟨rfl, HB.out⟩
      | true =>
        simp only [Bool.true_and]
        cases h3 : (N == 0) with
        | false =>
          simp only [Bool.false_and]
          go_enter Try.func68, Try.ntmps68
          go_wp2
          go_region
          go_wp2_with (first | (go_at_call 96; (with_reducible refine (HW.out _ _).mono ?_); rintro e w1 ⟨rfl, hb1⟩; have k0 := blk_below K0.out hb1; have k1 := blk_below K1.out hb1; have k2 := blk_below K2.out hb1; clear K0 K1 K2 f00 f01 f10 f11 f12 f13 f14 f15 f16 f20 f21 f22 f23 f24 f25 f26; have HB0 := Aside0.mk (below_then HB.out HB.out.size hb1); clear HB; have HB := HB0; clear HB0; have k3 := cells2 k0; have k4 := cells7 k1; have k5 := cells7 k2; obtain ⟨f00, f01⟩ := k3; obtain ⟨f10, f11, f12, f13, f14, f15, f16⟩ := k4; obtain ⟨f20, f21, f22, f23, f24, f25, f26⟩ := k5; have K0 := Aside0.mk k0; have K1 := Aside0.mk k1; have K2 := Aside0.mk k2; clear k0 k1 k2 hb1) | (go_at_call 96; (with_reducible refine (HW.out _ _).mono ?_); rintro e w1 ⟨rfl, hb1⟩; obtain ⟨hB, k0, k1, k2⟩ := start3 (w := w) hb1 rfl rfl rfl rfl; have HB := Aside0.mk hB; clear hB; have k3 := cells2 k0; have k4 := cells7 k1; have k5 := cells7 k2; obtain ⟨f00, f01⟩ := k3; obtain ⟨f10, f11, f12, f13, f14, f15, f16⟩ := k4; obtain ⟨f20, f21, f22, f23, f24, f25, f26⟩ := k5; have K0 := Aside0.mk k0; have K1 := Aside0.mk k1; have K2 := Aside0.mk k2; clear k0 k1 k2 hb1))
          go_ret
          exact ⟨rfl, HB.out⟩
        | true =>
          simp only [Bool.true_and]
          cases h4 : (M == 0) with
          | false =>
            simp only [Bool.false_and]
            go_enter Try.func68, Try.ntmps68
            go_wp2
            go_region
            go_wp2_with (first | (go_at_call 96; (with_reducible refine (HW.out _ _).mono ?_); rintro e w1 ⟨rfl, hb1⟩; have k0 := blk_below K0.out hb1; have k1 := blk_below K1.out hb1; have k2 := blk_below K2.out hb1; clear K0 K1 K2 f00 f01 f10 f11 f12 f13 f14 f15 f16 f20 f21 f22 f23 f24 f25 f26; have HB0 := Aside0.mk (below_then HB.out HB.out.size hb1); clear HB; have HB := HB0; clear HB0; have k3 := cells2 k0; have k4 := cells7 k1; have k5 := cells7 k2; obtain ⟨f00, f01⟩ := k3; obtain ⟨f10, f11, f12, f13, f14, f15, f16⟩ := k4; obtain ⟨f20, f21, f22, f23, f24, f25, f26⟩ := k5; have K0 := Aside0.mk k0; have K1 := Aside0.mk k1; have K2 := Aside0.mk k2; clear k0 k1 k2 hb1) | (go_at_call 96; (with_reducible refine (HW.out _ _).mono ?_); rintro e w1 ⟨rfl, hb1⟩; obtain ⟨hB, k0, k1, k2⟩ := start3 (w := w) hb1 rfl rfl rfl rfl; have HB := Aside0.mk hB; clear hB; have k3 := cells2 k0; have k4 := cells7 k1; have k5 := cells7 k2; obtain ⟨f00, f01⟩ := k3; obtain ⟨f10, f11, f12, f13, f14, f15, f16⟩ := k4; obtain ⟨f20, f21, f22, f23, f24, f25, f26⟩ := k5; have K0 := Aside0.mk k0; have K1 := Aside0.mk k1; have K2 := Aside0.mk k2; clear k0 k1 k2 hb1))
            go_ret
            exact ⟨rfl, HB.out⟩
          | true =>
            simp only [Bool.true_and]
            cases h5 : ((G.length : Int) == 0) with
            | false =>
              go_enter Try.func68, Try.ntmps68
              go_wp2
              go_region
              go_wp2_with (first | (go_at_call 96; (with_reducible refine (HW.out _ _).mono ?_); rintro e w1 ⟨rfl, hb1⟩; have k0 := blk_below K0.out hb1; have k1 := blk_below K1.out hb1; have k2 := blk_below K2.out hb1; clear K0 K1 K2 f00 f01 f10 f11 f12 f13 f14 f15 f16 f20 f21 f22 f23 f24 f25 f26; have HB0 := Aside0.mk (below_then HB.out HB.out.size hb1); clear HB; have HB := HB0; clear HB0; have k3 := cells2 k0; have k4 := cells7 k1; have k5 := cells7 k2; obtain ⟨f00, f01⟩ := k3; obtain ⟨f10, f11, f12, f13, f14, f15, f16⟩ := k4; obtain ⟨f20, f21, f22, f23, f24, f25, f26⟩ := k5; have K0 := Aside0.mk k0; have K1 := Aside0.mk k1; have K2 := Aside0.mk k2; clear k0 k1 k2 hb1) | (go_at_call 96; (with_reducible refine (HW.out _ _).mono ?_); rintro e w1 ⟨rfl, hb1⟩; obtain ⟨hB, k0, k1, k2⟩ := start3 (w := w) hb1 rfl rfl rfl rfl; have HB := Aside0.mk hB; clear hB; have k3 := cells2 k0; have k4 := cells7 k1; have k5 := cells7 k2; obtain ⟨f00, f01⟩ := k3; obtain ⟨f10, f11, f12, f13, f14, f15, f16⟩ := k4; obtain ⟨f20, f21, f22, f23, f24, f25, f26⟩ := k5; have K0 := Aside0.mk k0; have K1 := Aside0.mk k1; have K2 := Aside0.mk k2; clear k0 k1 k2 hb1))
              go_ret
              exact ⟨rfl, HB.out⟩
            | true =>
              go_enter Try.func68, Try.ntmps68
              go_wp2
              go_region
              go_wp2_with (first | (go_at_call 96; (with_reducible refine (HW.out _ _).mono ?_); rintro e w1 ⟨rfl, hb1⟩; have k0 := blk_below K0.out hb1; have k1 := blk_below K1.out hb1; have k2 := blk_below K2.out hb1; clear K0 K1 K2 f00 f01 f10 f11 f12 f13 f14 f15 f16 f20 f21 f22 f23 f24 f25 f26; have HB0 := Aside0.mk (below_then HB.out HB.out.size hb1); clear HB; have HB := HB0; clear HB0; have k3 := cells2 k0; have k4 := cells7 k1; have k5 := cells7 k2; obtain ⟨f00, f01⟩ := k3; obtain ⟨f10, f11, f12, f13, f14, f15, f16⟩ := k4; obtain ⟨f20, f21, f22, f23, f24, f25, f26⟩ := k5; have K0 := Aside0.mk k0; have K1 := Aside0.mk k1; have K2 := Aside0.mk k2; clear k0 k1 k2 hb1) | (go_at_call 96; (with_reducible refine (HW.out _ _).mono ?_); rintro e w1 ⟨rfl, hb1⟩; obtain ⟨hB, k0, k1, k2⟩ := start3 (w := w) hb1 rfl rfl rfl rfl; have HB := Aside0.mk hB; clear hB; have k3 := cells2 k0; have k4 := cells7 k1; have k5 := cells7 k2; obtain ⟨f00, f01⟩ := k3; obtain ⟨f10, f11, f12, f13, f14, f15, f16⟩ := k4; obtain ⟨f20, f21, f22, f23, f24, f25, f26⟩ := k5; have K0 := Aside0.mk k0; have K1 := Aside0.mk k1; have K2 := Aside0.mk k2; clear k0 k1 k2 hb1))
              go_ret
              exact ⟨rfl, HB.out⟩
set_option maxHeartbeats 16000000 in
set_option maxRecDepth 100000 in
theorem clue_k4 (W S A B N M : Int) (A5 : Option Addr) (c5 : Nat) (G : List Int) (nt : Bool) (w : World) (hl : okLock W S) (hr : Kd.C (Kd.int .i64) w A5 G.length G) (hc : G.length ≤ c5) :
    Calls Try.prog 68 #[.agg #[.int .i64 W, .int .i64 S], .agg #[.int .i64 4, .int .i64 A, .int .i64 B, .int .i64 N, .int .i64 M, .slice A5 G.length c5, .bool nt]] w fun e w' => e = .returned (.bool (inRange 0 (W - 1) A && (inRange 0 (W - 1) B && ((A != B) && ((N == 0) && ((M == 0) && ((G.length : Int) == 0))))))) ∧ Below w.heap.size w w' := by
  have hu36 := Try.underlying36
  have hu83 := Try.underlying83
  have HW := Aside0.mk fun x w0 => codes_lock_wheel.calls W S x _ w0 (wheel_eq W S x hl)
  have HS := Aside0.mk fun x w0 => codes_lock_symbol.calls W S x _ w0 (symbol_eq W S x hl)
  have HI := Aside0.mk fun x lo hi w0 => codes_within.calls x lo hi _ w0 (within_eq x lo hi)
  have HG : Aside0 (∀ w0, Below w.heap.size w w0 → _) := Aside0.mk fun w0 hb0 => codes_lock_code.calls W S A5 c5 G _ w0 (Kd.C_below hr hb0) hc (by unfold codes_lock_code.f; rw [if_pos hl])
  clear hl hr
  cases h0 : inRange 0 (W - 1) A with
  | false =>
    simp only [Bool.false_and]
    go_enter Try.func68, Try.ntmps68
    go_wp2
    go_region
    go_wp2_with (first | (go_at_call 96; (with_reducible refine (HW.out _ _).mono ?_); rintro e w1 ⟨rfl, hb1⟩; have k0 := blk_below K0.out hb1; have k1 := blk_below K1.out hb1; have k2 := blk_below K2.out hb1; clear K0 K1 K2 f00 f01 f10 f11 f12 f13 f14 f15 f16 f20 f21 f22 f23 f24 f25 f26; have HB0 := Aside0.mk (below_then HB.out HB.out.size hb1); clear HB; have HB := HB0; clear HB0; have k3 := cells2 k0; have k4 := cells7 k1; have k5 := cells7 k2; obtain ⟨f00, f01⟩ := k3; obtain ⟨f10, f11, f12, f13, f14, f15, f16⟩ := k4; obtain ⟨f20, f21, f22, f23, f24, f25, f26⟩ := k5; have K0 := Aside0.mk k0; have K1 := Aside0.mk k1; have K2 := Aside0.mk k2; clear k0 k1 k2 hb1) | (go_at_call 96; (with_reducible refine (HW.out _ _).mono ?_); rintro e w1 ⟨rfl, hb1⟩; obtain ⟨hB, k0, k1, k2⟩ := start3 (w := w) hb1 rfl rfl rfl rfl; have HB := Aside0.mk hB; clear hB; have k3 := cells2 k0; have k4 := cells7 k1; have k5 := cells7 k2; obtain ⟨f00, f01⟩ := k3; obtain ⟨f10, f11, f12, f13, f14, f15, f16⟩ := k4; obtain ⟨f20, f21, f22, f23, f24, f25, f26⟩ := k5; have K0 := Aside0.mk k0; have K1 := Aside0.mk k1; have K2 := Aside0.mk k2; clear k0 k1 k2 hb1))
    go_ret
    exact ⟨rfl, HB.out⟩
  | true =>
    simp only [Bool.true_and]
    cases h1 : inRange 0 (W - 1) B with
    | false =>
      simp only [Bool.false_and]
      go_enter Try.func68, Try.ntmps68
      go_wp2
      go_region
      go_wp2_with (first | (go_at_call 96; (with_reducible refine (HW.out _ _).mono ?_); rintro e w1 ⟨rfl, hb1⟩; have k0 := blk_below K0.out hb1; have k1 := blk_below K1.out hb1; have k2 := blk_below K2.out hb1; clear K0 K1 K2 f00 f01 f10 f11 f12 f13 f14 f15 f16 f20 f21 f22 f23 f24 f25 f26; have HB0 := Aside0.mk (below_then HB.out HB.out.size hb1); clear HB; have HB := HB0; clear HB0; have k3 := cells2 k0; have k4 := cells7 k1; have k5 := cells7 k2; obtain ⟨f00, f01⟩ := k3; obtain ⟨f10, f11, f12, f13, f14, f15, f16⟩ := k4; obtain ⟨f20, f21, f22, f23, f24, f25, f26⟩ := k5; have K0 := Aside0.mk k0; have K1 := Aside0.mk k1; have K2 := Aside0.mk k2; clear k0 k1 k2 hb1) | (go_at_call 96; (with_reducible refine (HW.out _ _).mono ?_); rintro e w1 ⟨rfl, hb1⟩; obtain ⟨hB, k0, k1, k2⟩ := start3 (w := w) hb1 rfl rfl rfl rfl; have HB := Aside0.mk hB; clear hB; have k3 := cells2 k0; have k4 := cells7 k1; have k5 := cells7 k2; obtain ⟨f00, f01⟩ := k3; obtain ⟨f10, f11, f12, f13, f14, f15, f16⟩ := k4; obtain ⟨f20, f21, f22, f23, f24, f25, f26⟩ := k5; have K0 := Aside0.mk k0; have K1 := Aside0.mk k1; have K2 := Aside0.mk k2; clear k0 k1 k2 hb1))
      go_ret
      exact ⟨rfl, HB.out⟩
    | true =>
      simp only [Bool.true_and]
      cases h2 : (A != B) with
      | false =>
        simp only [Bool.false_and]
        go_enter Try.func68, Try.ntmps68
        go_wp2
        go_region
        go_wp2_with (first | (go_at_call 96; (with_reducible refine (HW.out _ _).mono ?_); rintro e w1 ⟨rfl, hb1⟩; have k0 := blk_below K0.out hb1; have k1 := blk_below K1.out hb1; have k2 := blk_below K2.out hb1; clear K0 K1 K2 f00 f01 f10 f11 f12 f13 f14 f15 f16 f20 f21 f22 f23 f24 f25 f26; have HB0 := Aside0.mk (below_then HB.out HB.out.size hb1); clear HB; have HB := HB0; clear HB0; have k3 := cells2 k0; have k4 := cells7 k1; have k5 := cells7 k2; obtain ⟨f00, f01⟩ := k3; obtain ⟨f10, f11, f12, f13, f14, f15, f16⟩ := k4; obtain ⟨f20, f21, f22, f23, f24, f25, f26⟩ := k5; have K0 := Aside0.mk k0; have K1 := Aside0.mk k1; have K2 := Aside0.mk k2; clear k0 k1 k2 hb1) | (go_at_call 96; (with_reducible refine (HW.out _ _).mono ?_); rintro e w1 ⟨rfl, hb1⟩; obtain ⟨hB, k0, k1, k2⟩ := start3 (w := w) hb1 rfl rfl rfl rfl; have HB := Aside0.mk hB; clear hB; have k3 := cells2 k0; have k4 := cells7 k1; have k5 := cells7 k2; obtain ⟨f00, f01⟩ := k3; obtain ⟨f10, f11, f12, f13, f14, f15, f16⟩ := k4; obtain ⟨f20, f21, f22, f23, f24, f25, f26⟩ := k5; have K0 := Aside0.mk k0; have K1 := Aside0.mk k1; have K2 := Aside0.mk k2; clear k0 k1 k2 hb1))
        go_ret
        exact ⟨rfl, HB.out⟩
      | true =>
        simp only [Bool.true_and]
        cases h3 : (N == 0) with
        | false =>
          simp only [Bool.false_and]
          go_enter Try.func68, Try.ntmps68
          go_wp2
          go_region
          go_wp2_with (first | (go_at_call 96; (with_reducible refine (HW.out _ _).mono ?_); rintro e w1 ⟨rfl, hb1⟩; have k0 := blk_below K0.out hb1; have k1 := blk_below K1.out hb1; have k2 := blk_below K2.out hb1; clear K0 K1 K2 f00 f01 f10 f11 f12 f13 f14 f15 f16 f20 f21 f22 f23 f24 f25 f26; have HB0 := Aside0.mk (below_then HB.out HB.out.size hb1); clear HB; have HB := HB0; clear HB0; have k3 := cells2 k0; have k4 := cells7 k1; have k5 := cells7 k2; obtain ⟨f00, f01⟩ := k3; obtain ⟨f10, f11, f12, f13, f14, f15, f16⟩ := k4; obtain ⟨f20, f21, f22, f23, f24, f25, f26⟩ := k5; have K0 := Aside0.mk k0; have K1 := Aside0.mk k1; have K2 := Aside0.mk k2; clear k0 k1 k2 hb1) | (go_at_call 96; (with_reducible refine (HW.out _ _).mono ?_); rintro e w1 ⟨rfl, hb1⟩; obtain ⟨hB, k0, k1, k2⟩ := start3 (w := w) hb1 rfl rfl rfl rfl; have HB := Aside0.mk hB; clear hB; have k3 := cells2 k0; have k4 := cells7 k1; have k5 := cells7 k2; obtain ⟨f00, f01⟩ := k3; obtain ⟨f10, f11, f12, f13, f14, f15, f16⟩ := k4; obtain ⟨f20, f21, f22, f23, f24, f25, f26⟩ := k5; have K0 := Aside0.mk k0; have K1 := Aside0.mk k1; have K2 := Aside0.mk k2; clear k0 k1 k2 hb1))
          go_ret
          exact ⟨rfl, HB.out⟩
        | true =>
          simp only [Bool.true_and]
          cases h4 : (M == 0) with
          | false =>
            simp only [Bool.false_and]
            go_enter Try.func68, Try.ntmps68
            go_wp2
            go_region
            go_wp2_with (first | (go_at_call 96; (with_reducible refine (HW.out _ _).mono ?_); rintro e w1 ⟨rfl, hb1⟩; have k0 := blk_below K0.out hb1; have k1 := blk_below K1.out hb1; have k2 := blk_below K2.out hb1; clear K0 K1 K2 f00 f01 f10 f11 f12 f13 f14 f15 f16 f20 f21 f22 f23 f24 f25 f26; have HB0 := Aside0.mk (below_then HB.out HB.out.size hb1); clear HB; have HB := HB0; clear HB0; have k3 := cells2 k0; have k4 := cells7 k1; have k5 := cells7 k2; obtain ⟨f00, f01⟩ := k3; obtain ⟨f10, f11, f12, f13, f14, f15, f16⟩ := k4; obtain ⟨f20, f21, f22, f23, f24, f25, f26⟩ := k5; have K0 := Aside0.mk k0; have K1 := Aside0.mk k1; have K2 := Aside0.mk k2; clear k0 k1 k2 hb1) | (go_at_call 96; (with_reducible refine (HW.out _ _).mono ?_); rintro e w1 ⟨rfl, hb1⟩; obtain ⟨hB, k0, k1, k2⟩ := start3 (w := w) hb1 rfl rfl rfl rfl; have HB := Aside0.mk hB; clear hB; have k3 := cells2 k0; have k4 := cells7 k1; have k5 := cells7 k2; obtain ⟨f00, f01⟩ := k3; obtain ⟨f10, f11, f12, f13, f14, f15, f16⟩ := k4; obtain ⟨f20, f21, f22, f23, f24, f25, f26⟩ := k5; have K0 := Aside0.mk k0; have K1 := Aside0.mk k1; have K2 := Aside0.mk k2; clear k0 k1 k2 hb1))
            go_ret
            exact ⟨rfl, HB.out⟩
          | true =>
            simp only [Bool.true_and]
            cases h5 : ((G.length : Int) == 0) with
            | false =>
              go_enter Try.func68, Try.ntmps68
              go_wp2
              go_region
              go_wp2_with (first | (go_at_call 96; (with_reducible refine (HW.out _ _).mono ?_); rintro e w1 ⟨rfl, hb1⟩; have k0 := blk_below K0.out hb1; have k1 := blk_below K1.out hb1; have k2 := blk_below K2.out hb1; clear K0 K1 K2 f00 f01 f10 f11 f12 f13 f14 f15 f16 f20 f21 f22 f23 f24 f25 f26; have HB0 := Aside0.mk (below_then HB.out HB.out.size hb1); clear HB; have HB := HB0; clear HB0; have k3 := cells2 k0; have k4 := cells7 k1; have k5 := cells7 k2; obtain ⟨f00, f01⟩ := k3; obtain ⟨f10, f11, f12, f13, f14, f15, f16⟩ := k4; obtain ⟨f20, f21, f22, f23, f24, f25, f26⟩ := k5; have K0 := Aside0.mk k0; have K1 := Aside0.mk k1; have K2 := Aside0.mk k2; clear k0 k1 k2 hb1) | (go_at_call 96; (with_reducible refine (HW.out _ _).mono ?_); rintro e w1 ⟨rfl, hb1⟩; obtain ⟨hB, k0, k1, k2⟩ := start3 (w := w) hb1 rfl rfl rfl rfl; have HB := Aside0.mk hB; clear hB; have k3 := cells2 k0; have k4 := cells7 k1; have k5 := cells7 k2; obtain ⟨f00, f01⟩ := k3; obtain ⟨f10, f11, f12, f13, f14, f15, f16⟩ := k4; obtain ⟨f20, f21, f22, f23, f24, f25, f26⟩ := k5; have K0 := Aside0.mk k0; have K1 := Aside0.mk k1; have K2 := Aside0.mk k2; clear k0 k1 k2 hb1))
              go_ret
              exact ⟨rfl, HB.out⟩
            | true =>
              go_enter Try.func68, Try.ntmps68
              go_wp2
              go_region
              go_wp2_with (first | (go_at_call 96; (with_reducible refine (HW.out _ _).mono ?_); rintro e w1 ⟨rfl, hb1⟩; have k0 := blk_below K0.out hb1; have k1 := blk_below K1.out hb1; have k2 := blk_below K2.out hb1; clear K0 K1 K2 f00 f01 f10 f11 f12 f13 f14 f15 f16 f20 f21 f22 f23 f24 f25 f26; have HB0 := Aside0.mk (below_then HB.out HB.out.size hb1); clear HB; have HB := HB0; clear HB0; have k3 := cells2 k0; have k4 := cells7 k1; have k5 := cells7 k2; obtain ⟨f00, f01⟩ := k3; obtain ⟨f10, f11, f12, f13, f14, f15, f16⟩ := k4; obtain ⟨f20, f21, f22, f23, f24, f25, f26⟩ := k5; have K0 := Aside0.mk k0; have K1 := Aside0.mk k1; have K2 := Aside0.mk k2; clear k0 k1 k2 hb1) | (go_at_call 96; (with_reducible refine (HW.out _ _).mono ?_); rintro e w1 ⟨rfl, hb1⟩; obtain ⟨hB, k0, k1, k2⟩ := start3 (w := w) hb1 rfl rfl rfl rfl; have HB := Aside0.mk hB; clear hB; have k3 := cells2 k0; have k4 := cells7 k1; have k5 := cells7 k2; obtain ⟨f00, f01⟩ := k3; obtain ⟨f10, f11, f12, f13, f14, f15, f16⟩ := k4; obtain ⟨f20, f21, f22, f23, f24, f25, f26⟩ := k5; have K0 := Aside0.mk k0; have K1 := Aside0.mk k1; have K2 := Aside0.mk k2; clear k0 k1 k2 hb1))
              go_ret
              exact ⟨rfl, HB.out⟩
set_option maxHeartbeats 16000000 in
set_option maxRecDepth 100000 in
theorem clue_k5 (W S A B N M : Int) (A5 : Option Addr) (c5 : Nat) (G : List Int) (nt : Bool) (w : World) (hl : okLock W S) (hr : Kd.C (Kd.int .i64) w A5 G.length G) (hc : G.length ≤ c5) :
    Calls Try.prog 68 #[.agg #[.int .i64 W, .int .i64 S], .agg #[.int .i64 5, .int .i64 A, .int .i64 B, .int .i64 N, .int .i64 M, .slice A5 G.length c5, .bool nt]] w fun e w' => e = .returned (.bool (inRange 0 (S - 1) N && (inRange 0 W M && ((A == 0) && ((B == 0) && ((G.length : Int) == 0)))))) ∧ Below w.heap.size w w' := by
  have hu36 := Try.underlying36
  have hu83 := Try.underlying83
  have HW := Aside0.mk fun x w0 => codes_lock_wheel.calls W S x _ w0 (wheel_eq W S x hl)
  have HS := Aside0.mk fun x w0 => codes_lock_symbol.calls W S x _ w0 (symbol_eq W S x hl)
  have HI := Aside0.mk fun x lo hi w0 => codes_within.calls x lo hi _ w0 (within_eq x lo hi)
  have HG : Aside0 (∀ w0, Below w.heap.size w w0 → _) := Aside0.mk fun w0 hb0 => codes_lock_code.calls W S A5 c5 G _ w0 (Kd.C_below hr hb0) hc (by unfold codes_lock_code.f; rw [if_pos hl])
  clear hl hr
  cases h0 : inRange 0 (S - 1) N with
  | false =>
    simp only [Bool.false_and]
    go_enter Try.func68, Try.ntmps68
    go_wp2
    go_region
    go_wp2_with (first | (go_at_call 97; (with_reducible refine (HS.out _ _).mono ?_); rintro e w1 ⟨rfl, hb1⟩; have k0 := blk_below K0.out hb1; have k1 := blk_below K1.out hb1; have k2 := blk_below K2.out hb1; clear K0 K1 K2 f00 f01 f10 f11 f12 f13 f14 f15 f16 f20 f21 f22 f23 f24 f25 f26; have HB0 := Aside0.mk (below_then HB.out HB.out.size hb1); clear HB; have HB := HB0; clear HB0; have k3 := cells2 k0; have k4 := cells7 k1; have k5 := cells7 k2; obtain ⟨f00, f01⟩ := k3; obtain ⟨f10, f11, f12, f13, f14, f15, f16⟩ := k4; obtain ⟨f20, f21, f22, f23, f24, f25, f26⟩ := k5; have K0 := Aside0.mk k0; have K1 := Aside0.mk k1; have K2 := Aside0.mk k2; clear k0 k1 k2 hb1) | (go_at_call 66; (with_reducible refine (HI.out _ _ _ _).mono ?_); rintro e w1 ⟨rfl, hb1⟩; replace hb1 := hb1.below; have k0 := blk_below K0.out hb1; have k1 := blk_below K1.out hb1; have k2 := blk_below K2.out hb1; clear K0 K1 K2 f00 f01 f10 f11 f12 f13 f14 f15 f16 f20 f21 f22 f23 f24 f25 f26; have HB0 := Aside0.mk (below_then HB.out HB.out.size hb1); clear HB; have HB := HB0; clear HB0; have k3 := cells2 k0; have k4 := cells7 k1; have k5 := cells7 k2; obtain ⟨f00, f01⟩ := k3; obtain ⟨f10, f11, f12, f13, f14, f15, f16⟩ := k4; obtain ⟨f20, f21, f22, f23, f24, f25, f26⟩ := k5; have K0 := Aside0.mk k0; have K1 := Aside0.mk k1; have K2 := Aside0.mk k2; clear k0 k1 k2 hb1) | (go_at_call 97; (with_reducible refine (HS.out _ _).mono ?_); rintro e w1 ⟨rfl, hb1⟩; obtain ⟨hB, k0, k1, k2⟩ := start3 (w := w) hb1 rfl rfl rfl rfl; have HB := Aside0.mk hB; clear hB; have k3 := cells2 k0; have k4 := cells7 k1; have k5 := cells7 k2; obtain ⟨f00, f01⟩ := k3; obtain ⟨f10, f11, f12, f13, f14, f15, f16⟩ := k4; obtain ⟨f20, f21, f22, f23, f24, f25, f26⟩ := k5; have K0 := Aside0.mk k0; have K1 := Aside0.mk k1; have K2 := Aside0.mk k2; clear k0 k1 k2 hb1) | (go_at_call 66; (with_reducible refine (HI.out _ _ _ _).mono ?_); rintro e w1 ⟨rfl, hb1⟩; replace hb1 := hb1.below; obtain ⟨hB, k0, k1, k2⟩ := start3 (w := w) hb1 rfl rfl rfl rfl; have HB := Aside0.mk hB; clear hB; have k3 := cells2 k0; have k4 := cells7 k1; have k5 := cells7 k2; obtain ⟨f00, f01⟩ := k3; obtain ⟨f10, f11, f12, f13, f14, f15, f16⟩ := k4; obtain ⟨f20, f21, f22, f23, f24, f25, f26⟩ := k5; have K0 := Aside0.mk k0; have K1 := Aside0.mk k1; have K2 := Aside0.mk k2; clear k0 k1 k2 hb1))
    go_ret
    exact ⟨rfl, HB.out⟩
  | true =>
    simp only [Bool.true_and]
    cases h1 : inRange 0 W M with
    | false =>
      simp only [Bool.false_and]
      go_enter Try.func68, Try.ntmps68
      go_wp2
      go_region
      go_wp2_with (first | (go_at_call 97; (with_reducible refine (HS.out _ _).mono ?_); rintro e w1 ⟨rfl, hb1⟩; have k0 := blk_below K0.out hb1; have k1 := blk_below K1.out hb1; have k2 := blk_below K2.out hb1; clear K0 K1 K2 f00 f01 f10 f11 f12 f13 f14 f15 f16 f20 f21 f22 f23 f24 f25 f26; have HB0 := Aside0.mk (below_then HB.out HB.out.size hb1); clear HB; have HB := HB0; clear HB0; have k3 := cells2 k0; have k4 := cells7 k1; have k5 := cells7 k2; obtain ⟨f00, f01⟩ := k3; obtain ⟨f10, f11, f12, f13, f14, f15, f16⟩ := k4; obtain ⟨f20, f21, f22, f23, f24, f25, f26⟩ := k5; have K0 := Aside0.mk k0; have K1 := Aside0.mk k1; have K2 := Aside0.mk k2; clear k0 k1 k2 hb1) | (go_at_call 66; (with_reducible refine (HI.out _ _ _ _).mono ?_); rintro e w1 ⟨rfl, hb1⟩; replace hb1 := hb1.below; have k0 := blk_below K0.out hb1; have k1 := blk_below K1.out hb1; have k2 := blk_below K2.out hb1; clear K0 K1 K2 f00 f01 f10 f11 f12 f13 f14 f15 f16 f20 f21 f22 f23 f24 f25 f26; have HB0 := Aside0.mk (below_then HB.out HB.out.size hb1); clear HB; have HB := HB0; clear HB0; have k3 := cells2 k0; have k4 := cells7 k1; have k5 := cells7 k2; obtain ⟨f00, f01⟩ := k3; obtain ⟨f10, f11, f12, f13, f14, f15, f16⟩ := k4; obtain ⟨f20, f21, f22, f23, f24, f25, f26⟩ := k5; have K0 := Aside0.mk k0; have K1 := Aside0.mk k1; have K2 := Aside0.mk k2; clear k0 k1 k2 hb1) | (go_at_call 97; (with_reducible refine (HS.out _ _).mono ?_); rintro e w1 ⟨rfl, hb1⟩; obtain ⟨hB, k0, k1, k2⟩ := start3 (w := w) hb1 rfl rfl rfl rfl; have HB := Aside0.mk hB; clear hB; have k3 := cells2 k0; have k4 := cells7 k1; have k5 := cells7 k2; obtain ⟨f00, f01⟩ := k3; obtain ⟨f10, f11, f12, f13, f14, f15, f16⟩ := k4; obtain ⟨f20, f21, f22, f23, f24, f25, f26⟩ := k5; have K0 := Aside0.mk k0; have K1 := Aside0.mk k1; have K2 := Aside0.mk k2; clear k0 k1 k2 hb1) | (go_at_call 66; (with_reducible refine (HI.out _ _ _ _).mono ?_); rintro e w1 ⟨rfl, hb1⟩; replace hb1 := hb1.below; obtain ⟨hB, k0, k1, k2⟩ := start3 (w := w) hb1 rfl rfl rfl rfl; have HB := Aside0.mk hB; clear hB; have k3 := cells2 k0; have k4 := cells7 k1; have k5 := cells7 k2; obtain ⟨f00, f01⟩ := k3; obtain ⟨f10, f11, f12, f13, f14, f15, f16⟩ := k4; obtain ⟨f20, f21, f22, f23, f24, f25, f26⟩ := k5; have K0 := Aside0.mk k0; have K1 := Aside0.mk k1; have K2 := Aside0.mk k2; clear k0 k1 k2 hb1))
      go_ret
      exact ⟨rfl, HB.out⟩
    | true =>
      simp only [Bool.true_and]
      cases h2 : (A == 0) with
      | false =>
        simp only [Bool.false_and]
        go_enter Try.func68, Try.ntmps68
        go_wp2
        go_region
        go_wp2_with (first | (go_at_call 97; (with_reducible refine (HS.out _ _).mono ?_); rintro e w1 ⟨rfl, hb1⟩; have k0 := blk_below K0.out hb1; have k1 := blk_below K1.out hb1; have k2 := blk_below K2.out hb1; clear K0 K1 K2 f00 f01 f10 f11 f12 f13 f14 f15 f16 f20 f21 f22 f23 f24 f25 f26; have HB0 := Aside0.mk (below_then HB.out HB.out.size hb1); clear HB; have HB := HB0; clear HB0; have k3 := cells2 k0; have k4 := cells7 k1; have k5 := cells7 k2; obtain ⟨f00, f01⟩ := k3; obtain ⟨f10, f11, f12, f13, f14, f15, f16⟩ := k4; obtain ⟨f20, f21, f22, f23, f24, f25, f26⟩ := k5; have K0 := Aside0.mk k0; have K1 := Aside0.mk k1; have K2 := Aside0.mk k2; clear k0 k1 k2 hb1) | (go_at_call 66; (with_reducible refine (HI.out _ _ _ _).mono ?_); rintro e w1 ⟨rfl, hb1⟩; replace hb1 := hb1.below; have k0 := blk_below K0.out hb1; have k1 := blk_below K1.out hb1; have k2 := blk_below K2.out hb1; clear K0 K1 K2 f00 f01 f10 f11 f12 f13 f14 f15 f16 f20 f21 f22 f23 f24 f25 f26; have HB0 := Aside0.mk (below_then HB.out HB.out.size hb1); clear HB; have HB := HB0; clear HB0; have k3 := cells2 k0; have k4 := cells7 k1; have k5 := cells7 k2; obtain ⟨f00, f01⟩ := k3; obtain ⟨f10, f11, f12, f13, f14, f15, f16⟩ := k4; obtain ⟨f20, f21, f22, f23, f24, f25, f26⟩ := k5; have K0 := Aside0.mk k0; have K1 := Aside0.mk k1; have K2 := Aside0.mk k2; clear k0 k1 k2 hb1) | (go_at_call 97; (with_reducible refine (HS.out _ _).mono ?_); rintro e w1 ⟨rfl, hb1⟩; obtain ⟨hB, k0, k1, k2⟩ := start3 (w := w) hb1 rfl rfl rfl rfl; have HB := Aside0.mk hB; clear hB; have k3 := cells2 k0; have k4 := cells7 k1; have k5 := cells7 k2; obtain ⟨f00, f01⟩ := k3; obtain ⟨f10, f11, f12, f13, f14, f15, f16⟩ := k4; obtain ⟨f20, f21, f22, f23, f24, f25, f26⟩ := k5; have K0 := Aside0.mk k0; have K1 := Aside0.mk k1; have K2 := Aside0.mk k2; clear k0 k1 k2 hb1) | (go_at_call 66; (with_reducible refine (HI.out _ _ _ _).mono ?_); rintro e w1 ⟨rfl, hb1⟩; replace hb1 := hb1.below; obtain ⟨hB, k0, k1, k2⟩ := start3 (w := w) hb1 rfl rfl rfl rfl; have HB := Aside0.mk hB; clear hB; have k3 := cells2 k0; have k4 := cells7 k1; have k5 := cells7 k2; obtain ⟨f00, f01⟩ := k3; obtain ⟨f10, f11, f12, f13, f14, f15, f16⟩ := k4; obtain ⟨f20, f21, f22, f23, f24, f25, f26⟩ := k5; have K0 := Aside0.mk k0; have K1 := Aside0.mk k1; have K2 := Aside0.mk k2; clear k0 k1 k2 hb1))
        go_ret
        exact ⟨rfl, HB.out⟩
      | true =>
        simp only [Bool.true_and]
        cases h3 : (B == 0) with
        | false =>
          simp only [Bool.false_and]
          go_enter Try.func68, Try.ntmps68
          go_wp2
          go_region
          go_wp2_with (first | (go_at_call 97; (with_reducible refine (HS.out _ _).mono ?_); rintro e w1 ⟨rfl, hb1⟩; have k0 := blk_below K0.out hb1; have k1 := blk_below K1.out hb1; have k2 := blk_below K2.out hb1; clear K0 K1 K2 f00 f01 f10 f11 f12 f13 f14 f15 f16 f20 f21 f22 f23 f24 f25 f26; have HB0 := Aside0.mk (below_then HB.out HB.out.size hb1); clear HB; have HB := HB0; clear HB0; have k3 := cells2 k0; have k4 := cells7 k1; have k5 := cells7 k2; obtain ⟨f00, f01⟩ := k3; obtain ⟨f10, f11, f12, f13, f14, f15, f16⟩ := k4; obtain ⟨f20, f21, f22, f23, f24, f25, f26⟩ := k5; have K0 := Aside0.mk k0; have K1 := Aside0.mk k1; have K2 := Aside0.mk k2; clear k0 k1 k2 hb1) | (go_at_call 66; (with_reducible refine (HI.out _ _ _ _).mono ?_); rintro e w1 ⟨rfl, hb1⟩; replace hb1 := hb1.below; have k0 := blk_below K0.out hb1; have k1 := blk_below K1.out hb1; have k2 := blk_below K2.out hb1; clear K0 K1 K2 f00 f01 f10 f11 f12 f13 f14 f15 f16 f20 f21 f22 f23 f24 f25 f26; have HB0 := Aside0.mk (below_then HB.out HB.out.size hb1); clear HB; have HB := HB0; clear HB0; have k3 := cells2 k0; have k4 := cells7 k1; have k5 := cells7 k2; obtain ⟨f00, f01⟩ := k3; obtain ⟨f10, f11, f12, f13, f14, f15, f16⟩ := k4; obtain ⟨f20, f21, f22, f23, f24, f25, f26⟩ := k5; have K0 := Aside0.mk k0; have K1 := Aside0.mk k1; have K2 := Aside0.mk k2; clear k0 k1 k2 hb1) | (go_at_call 97; (with_reducible refine (HS.out _ _).mono ?_); rintro e w1 ⟨rfl, hb1⟩; obtain ⟨hB, k0, k1, k2⟩ := start3 (w := w) hb1 rfl rfl rfl rfl; have HB := Aside0.mk hB; clear hB; have k3 := cells2 k0; have k4 := cells7 k1; have k5 := cells7 k2; obtain ⟨f00, f01⟩ := k3; obtain ⟨f10, f11, f12, f13, f14, f15, f16⟩ := k4; obtain ⟨f20, f21, f22, f23, f24, f25, f26⟩ := k5; have K0 := Aside0.mk k0; have K1 := Aside0.mk k1; have K2 := Aside0.mk k2; clear k0 k1 k2 hb1) | (go_at_call 66; (with_reducible refine (HI.out _ _ _ _).mono ?_); rintro e w1 ⟨rfl, hb1⟩; replace hb1 := hb1.below; obtain ⟨hB, k0, k1, k2⟩ := start3 (w := w) hb1 rfl rfl rfl rfl; have HB := Aside0.mk hB; clear hB; have k3 := cells2 k0; have k4 := cells7 k1; have k5 := cells7 k2; obtain ⟨f00, f01⟩ := k3; obtain ⟨f10, f11, f12, f13, f14, f15, f16⟩ := k4; obtain ⟨f20, f21, f22, f23, f24, f25, f26⟩ := k5; have K0 := Aside0.mk k0; have K1 := Aside0.mk k1; have K2 := Aside0.mk k2; clear k0 k1 k2 hb1))
          go_ret
          exact ⟨rfl, HB.out⟩
        | true =>
          simp only [Bool.true_and]
          cases h4 : ((G.length : Int) == 0) with
          | false =>
            go_enter Try.func68, Try.ntmps68
            go_wp2
            go_region
            go_wp2_with (first | (go_at_call 97; (with_reducible refine (HS.out _ _).mono ?_); rintro e w1 ⟨rfl, hb1⟩; have k0 := blk_below K0.out hb1; have k1 := blk_below K1.out hb1; have k2 := blk_below K2.out hb1; clear K0 K1 K2 f00 f01 f10 f11 f12 f13 f14 f15 f16 f20 f21 f22 f23 f24 f25 f26; have HB0 := Aside0.mk (below_then HB.out HB.out.size hb1); clear HB; have HB := HB0; clear HB0; have k3 := cells2 k0; have k4 := cells7 k1; have k5 := cells7 k2; obtain ⟨f00, f01⟩ := k3; obtain ⟨f10, f11, f12, f13, f14, f15, f16⟩ := k4; obtain ⟨f20, f21, f22, f23, f24, f25, f26⟩ := k5; have K0 := Aside0.mk k0; have K1 := Aside0.mk k1; have K2 := Aside0.mk k2; clear k0 k1 k2 hb1) | (go_at_call 66; (with_reducible refine (HI.out _ _ _ _).mono ?_); rintro e w1 ⟨rfl, hb1⟩; replace hb1 := hb1.below; have k0 := blk_below K0.out hb1; have k1 := blk_below K1.out hb1; have k2 := blk_below K2.out hb1; clear K0 K1 K2 f00 f01 f10 f11 f12 f13 f14 f15 f16 f20 f21 f22 f23 f24 f25 f26; have HB0 := Aside0.mk (below_then HB.out HB.out.size hb1); clear HB; have HB := HB0; clear HB0; have k3 := cells2 k0; have k4 := cells7 k1; have k5 := cells7 k2; obtain ⟨f00, f01⟩ := k3; obtain ⟨f10, f11, f12, f13, f14, f15, f16⟩ := k4; obtain ⟨f20, f21, f22, f23, f24, f25, f26⟩ := k5; have K0 := Aside0.mk k0; have K1 := Aside0.mk k1; have K2 := Aside0.mk k2; clear k0 k1 k2 hb1) | (go_at_call 97; (with_reducible refine (HS.out _ _).mono ?_); rintro e w1 ⟨rfl, hb1⟩; obtain ⟨hB, k0, k1, k2⟩ := start3 (w := w) hb1 rfl rfl rfl rfl; have HB := Aside0.mk hB; clear hB; have k3 := cells2 k0; have k4 := cells7 k1; have k5 := cells7 k2; obtain ⟨f00, f01⟩ := k3; obtain ⟨f10, f11, f12, f13, f14, f15, f16⟩ := k4; obtain ⟨f20, f21, f22, f23, f24, f25, f26⟩ := k5; have K0 := Aside0.mk k0; have K1 := Aside0.mk k1; have K2 := Aside0.mk k2; clear k0 k1 k2 hb1) | (go_at_call 66; (with_reducible refine (HI.out _ _ _ _).mono ?_); rintro e w1 ⟨rfl, hb1⟩; replace hb1 := hb1.below; obtain ⟨hB, k0, k1, k2⟩ := start3 (w := w) hb1 rfl rfl rfl rfl; have HB := Aside0.mk hB; clear hB; have k3 := cells2 k0; have k4 := cells7 k1; have k5 := cells7 k2; obtain ⟨f00, f01⟩ := k3; obtain ⟨f10, f11, f12, f13, f14, f15, f16⟩ := k4; obtain ⟨f20, f21, f22, f23, f24, f25, f26⟩ := k5; have K0 := Aside0.mk k0; have K1 := Aside0.mk k1; have K2 := Aside0.mk k2; clear k0 k1 k2 hb1))
            go_ret
            exact ⟨rfl, HB.out⟩
          | true =>
            go_enter Try.func68, Try.ntmps68
            go_wp2
            go_region
            go_wp2_with (first | (go_at_call 97; (with_reducible refine (HS.out _ _).mono ?_); rintro e w1 ⟨rfl, hb1⟩; have k0 := blk_below K0.out hb1; have k1 := blk_below K1.out hb1; have k2 := blk_below K2.out hb1; clear K0 K1 K2 f00 f01 f10 f11 f12 f13 f14 f15 f16 f20 f21 f22 f23 f24 f25 f26; have HB0 := Aside0.mk (below_then HB.out HB.out.size hb1); clear HB; have HB := HB0; clear HB0; have k3 := cells2 k0; have k4 := cells7 k1; have k5 := cells7 k2; obtain ⟨f00, f01⟩ := k3; obtain ⟨f10, f11, f12, f13, f14, f15, f16⟩ := k4; obtain ⟨f20, f21, f22, f23, f24, f25, f26⟩ := k5; have K0 := Aside0.mk k0; have K1 := Aside0.mk k1; have K2 := Aside0.mk k2; clear k0 k1 k2 hb1) | (go_at_call 66; (with_reducible refine (HI.out _ _ _ _).mono ?_); rintro e w1 ⟨rfl, hb1⟩; replace hb1 := hb1.below; have k0 := blk_below K0.out hb1; have k1 := blk_below K1.out hb1; have k2 := blk_below K2.out hb1; clear K0 K1 K2 f00 f01 f10 f11 f12 f13 f14 f15 f16 f20 f21 f22 f23 f24 f25 f26; have HB0 := Aside0.mk (below_then HB.out HB.out.size hb1); clear HB; have HB := HB0; clear HB0; have k3 := cells2 k0; have k4 := cells7 k1; have k5 := cells7 k2; obtain ⟨f00, f01⟩ := k3; obtain ⟨f10, f11, f12, f13, f14, f15, f16⟩ := k4; obtain ⟨f20, f21, f22, f23, f24, f25, f26⟩ := k5; have K0 := Aside0.mk k0; have K1 := Aside0.mk k1; have K2 := Aside0.mk k2; clear k0 k1 k2 hb1) | (go_at_call 97; (with_reducible refine (HS.out _ _).mono ?_); rintro e w1 ⟨rfl, hb1⟩; obtain ⟨hB, k0, k1, k2⟩ := start3 (w := w) hb1 rfl rfl rfl rfl; have HB := Aside0.mk hB; clear hB; have k3 := cells2 k0; have k4 := cells7 k1; have k5 := cells7 k2; obtain ⟨f00, f01⟩ := k3; obtain ⟨f10, f11, f12, f13, f14, f15, f16⟩ := k4; obtain ⟨f20, f21, f22, f23, f24, f25, f26⟩ := k5; have K0 := Aside0.mk k0; have K1 := Aside0.mk k1; have K2 := Aside0.mk k2; clear k0 k1 k2 hb1) | (go_at_call 66; (with_reducible refine (HI.out _ _ _ _).mono ?_); rintro e w1 ⟨rfl, hb1⟩; replace hb1 := hb1.below; obtain ⟨hB, k0, k1, k2⟩ := start3 (w := w) hb1 rfl rfl rfl rfl; have HB := Aside0.mk hB; clear hB; have k3 := cells2 k0; have k4 := cells7 k1; have k5 := cells7 k2; obtain ⟨f00, f01⟩ := k3; obtain ⟨f10, f11, f12, f13, f14, f15, f16⟩ := k4; obtain ⟨f20, f21, f22, f23, f24, f25, f26⟩ := k5; have K0 := Aside0.mk k0; have K1 := Aside0.mk k1; have K2 := Aside0.mk k2; clear k0 k1 k2 hb1))
            go_ret
            exact ⟨rfl, HB.out⟩
set_option maxHeartbeats 16000000 in
set_option maxRecDepth 100000 in
theorem clue_k6 (W S A B N M : Int) (A5 : Option Addr) (c5 : Nat) (G : List Int) (nt : Bool) (w : World) (hl : okLock W S) (hr : Kd.C (Kd.int .i64) w A5 G.length G) (hc : G.length ≤ c5) :
    Calls Try.prog 68 #[.agg #[.int .i64 W, .int .i64 S], .agg #[.int .i64 6, .int .i64 A, .int .i64 B, .int .i64 N, .int .i64 M, .slice A5 G.length c5, .bool nt]] w fun e w' => e = .returned (.bool (inRange 0 W N && (inRange 0 W M && (isCodeB W S G && ((A == 0) && (B == 0)))))) ∧ Below w.heap.size w w' := by
  have hu36 := Try.underlying36
  have hu83 := Try.underlying83
  have HW := Aside0.mk fun x w0 => codes_lock_wheel.calls W S x _ w0 (wheel_eq W S x hl)
  have HS := Aside0.mk fun x w0 => codes_lock_symbol.calls W S x _ w0 (symbol_eq W S x hl)
  have HI := Aside0.mk fun x lo hi w0 => codes_within.calls x lo hi _ w0 (within_eq x lo hi)
  have HG : Aside0 (∀ w0, Below w.heap.size w w0 → _) := Aside0.mk fun w0 hb0 => codes_lock_code.calls W S A5 c5 G _ w0 (Kd.C_below hr hb0) hc (by unfold codes_lock_code.f; rw [if_pos hl])
  clear hl hr
  cases h0 : inRange 0 W N with
  | false =>
    simp only [Bool.false_and]
    go_enter Try.func68, Try.ntmps68
    go_wp2
    go_region
    go_wp2_with (first | (go_at_call 66; (with_reducible refine (HI.out _ _ _ _).mono ?_); rintro e w1 ⟨rfl, hb1⟩; replace hb1 := hb1.below; have k0 := blk_below K0.out hb1; have k1 := blk_below K1.out hb1; have k2 := blk_below K2.out hb1; clear K0 K1 K2 f00 f01 f10 f11 f12 f13 f14 f15 f16 f20 f21 f22 f23 f24 f25 f26; have HB0 := Aside0.mk (below_then HB.out HB.out.size hb1); clear HB; have HB := HB0; clear HB0; have k3 := cells2 k0; have k4 := cells7 k1; have k5 := cells7 k2; obtain ⟨f00, f01⟩ := k3; obtain ⟨f10, f11, f12, f13, f14, f15, f16⟩ := k4; obtain ⟨f20, f21, f22, f23, f24, f25, f26⟩ := k5; have K0 := Aside0.mk k0; have K1 := Aside0.mk k1; have K2 := Aside0.mk k2; clear k0 k1 k2 hb1) | (go_at_call 90; (with_reducible refine (HG.out _ HB.out).mono ?_); rintro e w1 ⟨rfl, hb1⟩; have k0 := blk_below K0.out hb1; have k1 := blk_below K1.out hb1; have k2 := blk_below K2.out hb1; clear K0 K1 K2 f00 f01 f10 f11 f12 f13 f14 f15 f16 f20 f21 f22 f23 f24 f25 f26; have HB0 := Aside0.mk (below_then HB.out HB.out.size hb1); clear HB; have HB := HB0; clear HB0; have k3 := cells2 k0; have k4 := cells7 k1; have k5 := cells7 k2; obtain ⟨f00, f01⟩ := k3; obtain ⟨f10, f11, f12, f13, f14, f15, f16⟩ := k4; obtain ⟨f20, f21, f22, f23, f24, f25, f26⟩ := k5; have K0 := Aside0.mk k0; have K1 := Aside0.mk k1; have K2 := Aside0.mk k2; clear k0 k1 k2 hb1) | (go_at_call 66; (with_reducible refine (HI.out _ _ _ _).mono ?_); rintro e w1 ⟨rfl, hb1⟩; replace hb1 := hb1.below; obtain ⟨hB, k0, k1, k2⟩ := start3 (w := w) hb1 rfl rfl rfl rfl; have HB := Aside0.mk hB; clear hB; have k3 := cells2 k0; have k4 := cells7 k1; have k5 := cells7 k2; obtain ⟨f00, f01⟩ := k3; obtain ⟨f10, f11, f12, f13, f14, f15, f16⟩ := k4; obtain ⟨f20, f21, f22, f23, f24, f25, f26⟩ := k5; have K0 := Aside0.mk k0; have K1 := Aside0.mk k1; have K2 := Aside0.mk k2; clear k0 k1 k2 hb1) | (go_at_call 90; (with_reducible refine (HG.out _ HB.out).mono ?_); rintro e w1 ⟨rfl, hb1⟩; obtain ⟨hB, k0, k1, k2⟩ := start3 (w := w) hb1 rfl rfl rfl rfl; have HB := Aside0.mk hB; clear hB; have k3 := cells2 k0; have k4 := cells7 k1; have k5 := cells7 k2; obtain ⟨f00, f01⟩ := k3; obtain ⟨f10, f11, f12, f13, f14, f15, f16⟩ := k4; obtain ⟨f20, f21, f22, f23, f24, f25, f26⟩ := k5; have K0 := Aside0.mk k0; have K1 := Aside0.mk k1; have K2 := Aside0.mk k2; clear k0 k1 k2 hb1))
    go_ret
    exact ⟨rfl, HB.out⟩
  | true =>
    simp only [Bool.true_and]
    cases h1 : inRange 0 W M with
    | false =>
      simp only [Bool.false_and]
      go_enter Try.func68, Try.ntmps68
      go_wp2
      go_region
      go_wp2_with (first | (go_at_call 66; (with_reducible refine (HI.out _ _ _ _).mono ?_); rintro e w1 ⟨rfl, hb1⟩; replace hb1 := hb1.below; have k0 := blk_below K0.out hb1; have k1 := blk_below K1.out hb1; have k2 := blk_below K2.out hb1; clear K0 K1 K2 f00 f01 f10 f11 f12 f13 f14 f15 f16 f20 f21 f22 f23 f24 f25 f26; have HB0 := Aside0.mk (below_then HB.out HB.out.size hb1); clear HB; have HB := HB0; clear HB0; have k3 := cells2 k0; have k4 := cells7 k1; have k5 := cells7 k2; obtain ⟨f00, f01⟩ := k3; obtain ⟨f10, f11, f12, f13, f14, f15, f16⟩ := k4; obtain ⟨f20, f21, f22, f23, f24, f25, f26⟩ := k5; have K0 := Aside0.mk k0; have K1 := Aside0.mk k1; have K2 := Aside0.mk k2; clear k0 k1 k2 hb1) | (go_at_call 90; (with_reducible refine (HG.out _ HB.out).mono ?_); rintro e w1 ⟨rfl, hb1⟩; have k0 := blk_below K0.out hb1; have k1 := blk_below K1.out hb1; have k2 := blk_below K2.out hb1; clear K0 K1 K2 f00 f01 f10 f11 f12 f13 f14 f15 f16 f20 f21 f22 f23 f24 f25 f26; have HB0 := Aside0.mk (below_then HB.out HB.out.size hb1); clear HB; have HB := HB0; clear HB0; have k3 := cells2 k0; have k4 := cells7 k1; have k5 := cells7 k2; obtain ⟨f00, f01⟩ := k3; obtain ⟨f10, f11, f12, f13, f14, f15, f16⟩ := k4; obtain ⟨f20, f21, f22, f23, f24, f25, f26⟩ := k5; have K0 := Aside0.mk k0; have K1 := Aside0.mk k1; have K2 := Aside0.mk k2; clear k0 k1 k2 hb1) | (go_at_call 66; (with_reducible refine (HI.out _ _ _ _).mono ?_); rintro e w1 ⟨rfl, hb1⟩; replace hb1 := hb1.below; obtain ⟨hB, k0, k1, k2⟩ := start3 (w := w) hb1 rfl rfl rfl rfl; have HB := Aside0.mk hB; clear hB; have k3 := cells2 k0; have k4 := cells7 k1; have k5 := cells7 k2; obtain ⟨f00, f01⟩ := k3; obtain ⟨f10, f11, f12, f13, f14, f15, f16⟩ := k4; obtain ⟨f20, f21, f22, f23, f24, f25, f26⟩ := k5; have K0 := Aside0.mk k0; have K1 := Aside0.mk k1; have K2 := Aside0.mk k2; clear k0 k1 k2 hb1) | (go_at_call 90; (with_reducible refine (HG.out _ HB.out).mono ?_); rintro e w1 ⟨rfl, hb1⟩; obtain ⟨hB, k0, k1, k2⟩ := start3 (w := w) hb1 rfl rfl rfl rfl; have HB := Aside0.mk hB; clear hB; have k3 := cells2 k0; have k4 := cells7 k1; have k5 := cells7 k2; obtain ⟨f00, f01⟩ := k3; obtain ⟨f10, f11, f12, f13, f14, f15, f16⟩ := k4; obtain ⟨f20, f21, f22, f23, f24, f25, f26⟩ := k5; have K0 := Aside0.mk k0; have K1 := Aside0.mk k1; have K2 := Aside0.mk k2; clear k0 k1 k2 hb1))
      go_ret
      exact ⟨rfl, HB.out⟩
    | true =>
      simp only [Bool.true_and]
      cases h2 : isCodeB W S G with
      | false =>
        simp only [Bool.false_and]
        go_enter Try.func68, Try.ntmps68
        go_wp2
        go_region
        go_wp2_with (first | (go_at_call 66; (with_reducible refine (HI.out _ _ _ _).mono ?_); rintro e w1 ⟨rfl, hb1⟩; replace hb1 := hb1.below; have k0 := blk_below K0.out hb1; have k1 := blk_below K1.out hb1; have k2 := blk_below K2.out hb1; clear K0 K1 K2 f00 f01 f10 f11 f12 f13 f14 f15 f16 f20 f21 f22 f23 f24 f25 f26; have HB0 := Aside0.mk (below_then HB.out HB.out.size hb1); clear HB; have HB := HB0; clear HB0; have k3 := cells2 k0; have k4 := cells7 k1; have k5 := cells7 k2; obtain ⟨f00, f01⟩ := k3; obtain ⟨f10, f11, f12, f13, f14, f15, f16⟩ := k4; obtain ⟨f20, f21, f22, f23, f24, f25, f26⟩ := k5; have K0 := Aside0.mk k0; have K1 := Aside0.mk k1; have K2 := Aside0.mk k2; clear k0 k1 k2 hb1) | (go_at_call 90; (with_reducible refine (HG.out _ HB.out).mono ?_); rintro e w1 ⟨rfl, hb1⟩; have k0 := blk_below K0.out hb1; have k1 := blk_below K1.out hb1; have k2 := blk_below K2.out hb1; clear K0 K1 K2 f00 f01 f10 f11 f12 f13 f14 f15 f16 f20 f21 f22 f23 f24 f25 f26; have HB0 := Aside0.mk (below_then HB.out HB.out.size hb1); clear HB; have HB := HB0; clear HB0; have k3 := cells2 k0; have k4 := cells7 k1; have k5 := cells7 k2; obtain ⟨f00, f01⟩ := k3; obtain ⟨f10, f11, f12, f13, f14, f15, f16⟩ := k4; obtain ⟨f20, f21, f22, f23, f24, f25, f26⟩ := k5; have K0 := Aside0.mk k0; have K1 := Aside0.mk k1; have K2 := Aside0.mk k2; clear k0 k1 k2 hb1) | (go_at_call 66; (with_reducible refine (HI.out _ _ _ _).mono ?_); rintro e w1 ⟨rfl, hb1⟩; replace hb1 := hb1.below; obtain ⟨hB, k0, k1, k2⟩ := start3 (w := w) hb1 rfl rfl rfl rfl; have HB := Aside0.mk hB; clear hB; have k3 := cells2 k0; have k4 := cells7 k1; have k5 := cells7 k2; obtain ⟨f00, f01⟩ := k3; obtain ⟨f10, f11, f12, f13, f14, f15, f16⟩ := k4; obtain ⟨f20, f21, f22, f23, f24, f25, f26⟩ := k5; have K0 := Aside0.mk k0; have K1 := Aside0.mk k1; have K2 := Aside0.mk k2; clear k0 k1 k2 hb1) | (go_at_call 90; (with_reducible refine (HG.out _ HB.out).mono ?_); rintro e w1 ⟨rfl, hb1⟩; obtain ⟨hB, k0, k1, k2⟩ := start3 (w := w) hb1 rfl rfl rfl rfl; have HB := Aside0.mk hB; clear hB; have k3 := cells2 k0; have k4 := cells7 k1; have k5 := cells7 k2; obtain ⟨f00, f01⟩ := k3; obtain ⟨f10, f11, f12, f13, f14, f15, f16⟩ := k4; obtain ⟨f20, f21, f22, f23, f24, f25, f26⟩ := k5; have K0 := Aside0.mk k0; have K1 := Aside0.mk k1; have K2 := Aside0.mk k2; clear k0 k1 k2 hb1))
        go_ret
        exact ⟨rfl, HB.out⟩
      | true =>
        simp only [Bool.true_and]
        cases h3 : (A == 0) with
        | false =>
          simp only [Bool.false_and]
          go_enter Try.func68, Try.ntmps68
          go_wp2
          go_region
          go_wp2_with (first | (go_at_call 66; (with_reducible refine (HI.out _ _ _ _).mono ?_); rintro e w1 ⟨rfl, hb1⟩; replace hb1 := hb1.below; have k0 := blk_below K0.out hb1; have k1 := blk_below K1.out hb1; have k2 := blk_below K2.out hb1; clear K0 K1 K2 f00 f01 f10 f11 f12 f13 f14 f15 f16 f20 f21 f22 f23 f24 f25 f26; have HB0 := Aside0.mk (below_then HB.out HB.out.size hb1); clear HB; have HB := HB0; clear HB0; have k3 := cells2 k0; have k4 := cells7 k1; have k5 := cells7 k2; obtain ⟨f00, f01⟩ := k3; obtain ⟨f10, f11, f12, f13, f14, f15, f16⟩ := k4; obtain ⟨f20, f21, f22, f23, f24, f25, f26⟩ := k5; have K0 := Aside0.mk k0; have K1 := Aside0.mk k1; have K2 := Aside0.mk k2; clear k0 k1 k2 hb1) | (go_at_call 90; (with_reducible refine (HG.out _ HB.out).mono ?_); rintro e w1 ⟨rfl, hb1⟩; have k0 := blk_below K0.out hb1; have k1 := blk_below K1.out hb1; have k2 := blk_below K2.out hb1; clear K0 K1 K2 f00 f01 f10 f11 f12 f13 f14 f15 f16 f20 f21 f22 f23 f24 f25 f26; have HB0 := Aside0.mk (below_then HB.out HB.out.size hb1); clear HB; have HB := HB0; clear HB0; have k3 := cells2 k0; have k4 := cells7 k1; have k5 := cells7 k2; obtain ⟨f00, f01⟩ := k3; obtain ⟨f10, f11, f12, f13, f14, f15, f16⟩ := k4; obtain ⟨f20, f21, f22, f23, f24, f25, f26⟩ := k5; have K0 := Aside0.mk k0; have K1 := Aside0.mk k1; have K2 := Aside0.mk k2; clear k0 k1 k2 hb1) | (go_at_call 66; (with_reducible refine (HI.out _ _ _ _).mono ?_); rintro e w1 ⟨rfl, hb1⟩; replace hb1 := hb1.below; obtain ⟨hB, k0, k1, k2⟩ := start3 (w := w) hb1 rfl rfl rfl rfl; have HB := Aside0.mk hB; clear hB; have k3 := cells2 k0; have k4 := cells7 k1; have k5 := cells7 k2; obtain ⟨f00, f01⟩ := k3; obtain ⟨f10, f11, f12, f13, f14, f15, f16⟩ := k4; obtain ⟨f20, f21, f22, f23, f24, f25, f26⟩ := k5; have K0 := Aside0.mk k0; have K1 := Aside0.mk k1; have K2 := Aside0.mk k2; clear k0 k1 k2 hb1) | (go_at_call 90; (with_reducible refine (HG.out _ HB.out).mono ?_); rintro e w1 ⟨rfl, hb1⟩; obtain ⟨hB, k0, k1, k2⟩ := start3 (w := w) hb1 rfl rfl rfl rfl; have HB := Aside0.mk hB; clear hB; have k3 := cells2 k0; have k4 := cells7 k1; have k5 := cells7 k2; obtain ⟨f00, f01⟩ := k3; obtain ⟨f10, f11, f12, f13, f14, f15, f16⟩ := k4; obtain ⟨f20, f21, f22, f23, f24, f25, f26⟩ := k5; have K0 := Aside0.mk k0; have K1 := Aside0.mk k1; have K2 := Aside0.mk k2; clear k0 k1 k2 hb1))
          go_ret
          exact ⟨rfl, HB.out⟩
        | true =>
          simp only [Bool.true_and]
          cases h4 : (B == 0) with
          | false =>
            go_enter Try.func68, Try.ntmps68
            go_wp2
            go_region
            go_wp2_with (first | (go_at_call 66; (with_reducible refine (HI.out _ _ _ _).mono ?_); rintro e w1 ⟨rfl, hb1⟩; replace hb1 := hb1.below; have k0 := blk_below K0.out hb1; have k1 := blk_below K1.out hb1; have k2 := blk_below K2.out hb1; clear K0 K1 K2 f00 f01 f10 f11 f12 f13 f14 f15 f16 f20 f21 f22 f23 f24 f25 f26; have HB0 := Aside0.mk (below_then HB.out HB.out.size hb1); clear HB; have HB := HB0; clear HB0; have k3 := cells2 k0; have k4 := cells7 k1; have k5 := cells7 k2; obtain ⟨f00, f01⟩ := k3; obtain ⟨f10, f11, f12, f13, f14, f15, f16⟩ := k4; obtain ⟨f20, f21, f22, f23, f24, f25, f26⟩ := k5; have K0 := Aside0.mk k0; have K1 := Aside0.mk k1; have K2 := Aside0.mk k2; clear k0 k1 k2 hb1) | (go_at_call 90; (with_reducible refine (HG.out _ HB.out).mono ?_); rintro e w1 ⟨rfl, hb1⟩; have k0 := blk_below K0.out hb1; have k1 := blk_below K1.out hb1; have k2 := blk_below K2.out hb1; clear K0 K1 K2 f00 f01 f10 f11 f12 f13 f14 f15 f16 f20 f21 f22 f23 f24 f25 f26; have HB0 := Aside0.mk (below_then HB.out HB.out.size hb1); clear HB; have HB := HB0; clear HB0; have k3 := cells2 k0; have k4 := cells7 k1; have k5 := cells7 k2; obtain ⟨f00, f01⟩ := k3; obtain ⟨f10, f11, f12, f13, f14, f15, f16⟩ := k4; obtain ⟨f20, f21, f22, f23, f24, f25, f26⟩ := k5; have K0 := Aside0.mk k0; have K1 := Aside0.mk k1; have K2 := Aside0.mk k2; clear k0 k1 k2 hb1) | (go_at_call 66; (with_reducible refine (HI.out _ _ _ _).mono ?_); rintro e w1 ⟨rfl, hb1⟩; replace hb1 := hb1.below; obtain ⟨hB, k0, k1, k2⟩ := start3 (w := w) hb1 rfl rfl rfl rfl; have HB := Aside0.mk hB; clear hB; have k3 := cells2 k0; have k4 := cells7 k1; have k5 := cells7 k2; obtain ⟨f00, f01⟩ := k3; obtain ⟨f10, f11, f12, f13, f14, f15, f16⟩ := k4; obtain ⟨f20, f21, f22, f23, f24, f25, f26⟩ := k5; have K0 := Aside0.mk k0; have K1 := Aside0.mk k1; have K2 := Aside0.mk k2; clear k0 k1 k2 hb1) | (go_at_call 90; (with_reducible refine (HG.out _ HB.out).mono ?_); rintro e w1 ⟨rfl, hb1⟩; obtain ⟨hB, k0, k1, k2⟩ := start3 (w := w) hb1 rfl rfl rfl rfl; have HB := Aside0.mk hB; clear hB; have k3 := cells2 k0; have k4 := cells7 k1; have k5 := cells7 k2; obtain ⟨f00, f01⟩ := k3; obtain ⟨f10, f11, f12, f13, f14, f15, f16⟩ := k4; obtain ⟨f20, f21, f22, f23, f24, f25, f26⟩ := k5; have K0 := Aside0.mk k0; have K1 := Aside0.mk k1; have K2 := Aside0.mk k2; clear k0 k1 k2 hb1))
            go_ret
            exact ⟨rfl, HB.out⟩
          | true =>
            go_enter Try.func68, Try.ntmps68
            go_wp2
            go_region
            go_wp2_with (first | (go_at_call 66; (with_reducible refine (HI.out _ _ _ _).mono ?_); rintro e w1 ⟨rfl, hb1⟩; replace hb1 := hb1.below; have k0 := blk_below K0.out hb1; have k1 := blk_below K1.out hb1; have k2 := blk_below K2.out hb1; clear K0 K1 K2 f00 f01 f10 f11 f12 f13 f14 f15 f16 f20 f21 f22 f23 f24 f25 f26; have HB0 := Aside0.mk (below_then HB.out HB.out.size hb1); clear HB; have HB := HB0; clear HB0; have k3 := cells2 k0; have k4 := cells7 k1; have k5 := cells7 k2; obtain ⟨f00, f01⟩ := k3; obtain ⟨f10, f11, f12, f13, f14, f15, f16⟩ := k4; obtain ⟨f20, f21, f22, f23, f24, f25, f26⟩ := k5; have K0 := Aside0.mk k0; have K1 := Aside0.mk k1; have K2 := Aside0.mk k2; clear k0 k1 k2 hb1) | (go_at_call 90; (with_reducible refine (HG.out _ HB.out).mono ?_); rintro e w1 ⟨rfl, hb1⟩; have k0 := blk_below K0.out hb1; have k1 := blk_below K1.out hb1; have k2 := blk_below K2.out hb1; clear K0 K1 K2 f00 f01 f10 f11 f12 f13 f14 f15 f16 f20 f21 f22 f23 f24 f25 f26; have HB0 := Aside0.mk (below_then HB.out HB.out.size hb1); clear HB; have HB := HB0; clear HB0; have k3 := cells2 k0; have k4 := cells7 k1; have k5 := cells7 k2; obtain ⟨f00, f01⟩ := k3; obtain ⟨f10, f11, f12, f13, f14, f15, f16⟩ := k4; obtain ⟨f20, f21, f22, f23, f24, f25, f26⟩ := k5; have K0 := Aside0.mk k0; have K1 := Aside0.mk k1; have K2 := Aside0.mk k2; clear k0 k1 k2 hb1) | (go_at_call 66; (with_reducible refine (HI.out _ _ _ _).mono ?_); rintro e w1 ⟨rfl, hb1⟩; replace hb1 := hb1.below; obtain ⟨hB, k0, k1, k2⟩ := start3 (w := w) hb1 rfl rfl rfl rfl; have HB := Aside0.mk hB; clear hB; have k3 := cells2 k0; have k4 := cells7 k1; have k5 := cells7 k2; obtain ⟨f00, f01⟩ := k3; obtain ⟨f10, f11, f12, f13, f14, f15, f16⟩ := k4; obtain ⟨f20, f21, f22, f23, f24, f25, f26⟩ := k5; have K0 := Aside0.mk k0; have K1 := Aside0.mk k1; have K2 := Aside0.mk k2; clear k0 k1 k2 hb1) | (go_at_call 90; (with_reducible refine (HG.out _ HB.out).mono ?_); rintro e w1 ⟨rfl, hb1⟩; obtain ⟨hB, k0, k1, k2⟩ := start3 (w := w) hb1 rfl rfl rfl rfl; have HB := Aside0.mk hB; clear hB; have k3 := cells2 k0; have k4 := cells7 k1; have k5 := cells7 k2; obtain ⟨f00, f01⟩ := k3; obtain ⟨f10, f11, f12, f13, f14, f15, f16⟩ := k4; obtain ⟨f20, f21, f22, f23, f24, f25, f26⟩ := k5; have K0 := Aside0.mk k0; have K1 := Aside0.mk k1; have K2 := Aside0.mk k2; clear k0 k1 k2 hb1))
            go_ret
            exact ⟨rfl, HB.out⟩
set_option maxHeartbeats 16000000 in
set_option maxRecDepth 100000 in
theorem clue_k7 (W S A B N M : Int) (A5 : Option Addr) (c5 : Nat) (G : List Int) (nt : Bool) (w : World) (hl : okLock W S) (hr : Kd.C (Kd.int .i64) w A5 G.length G) (hc : G.length ≤ c5) :
    Calls Try.prog 68 #[.agg #[.int .i64 W, .int .i64 S], .agg #[.int .i64 7, .int .i64 A, .int .i64 B, .int .i64 N, .int .i64 M, .slice A5 G.length c5, .bool nt]] w fun e w' => e = .returned (.bool (inRange 0 (W - 1) A && (inRange 2 10 N && (inRange 0 (N - 1) M && ((B == 0) && ((G.length : Int) == 0)))))) ∧ Below w.heap.size w w' := by
  have hu36 := Try.underlying36
  have hu83 := Try.underlying83
  have HW := Aside0.mk fun x w0 => codes_lock_wheel.calls W S x _ w0 (wheel_eq W S x hl)
  have HS := Aside0.mk fun x w0 => codes_lock_symbol.calls W S x _ w0 (symbol_eq W S x hl)
  have HI := Aside0.mk fun x lo hi w0 => codes_within.calls x lo hi _ w0 (within_eq x lo hi)
  have HG : Aside0 (∀ w0, Below w.heap.size w w0 → _) := Aside0.mk fun w0 hb0 => codes_lock_code.calls W S A5 c5 G _ w0 (Kd.C_below hr hb0) hc (by unfold codes_lock_code.f; rw [if_pos hl])
  clear hl hr
  cases h0 : inRange 0 (W - 1) A with
  | false =>
    simp only [Bool.false_and]
    go_enter Try.func68, Try.ntmps68
    go_wp2
    go_region
    go_wp2_with (first | (go_at_call 96; (with_reducible refine (HW.out _ _).mono ?_); rintro e w1 ⟨rfl, hb1⟩; have k0 := blk_below K0.out hb1; have k1 := blk_below K1.out hb1; have k2 := blk_below K2.out hb1; clear K0 K1 K2 f00 f01 f10 f11 f12 f13 f14 f15 f16 f20 f21 f22 f23 f24 f25 f26; have HB0 := Aside0.mk (below_then HB.out HB.out.size hb1); clear HB; have HB := HB0; clear HB0; have k3 := cells2 k0; have k4 := cells7 k1; have k5 := cells7 k2; obtain ⟨f00, f01⟩ := k3; obtain ⟨f10, f11, f12, f13, f14, f15, f16⟩ := k4; obtain ⟨f20, f21, f22, f23, f24, f25, f26⟩ := k5; have K0 := Aside0.mk k0; have K1 := Aside0.mk k1; have K2 := Aside0.mk k2; clear k0 k1 k2 hb1) | (go_at_call 66; (with_reducible refine (HI.out _ _ _ _).mono ?_); rintro e w1 ⟨rfl, hb1⟩; replace hb1 := hb1.below; have k0 := blk_below K0.out hb1; have k1 := blk_below K1.out hb1; have k2 := blk_below K2.out hb1; clear K0 K1 K2 f00 f01 f10 f11 f12 f13 f14 f15 f16 f20 f21 f22 f23 f24 f25 f26; have HB0 := Aside0.mk (below_then HB.out HB.out.size hb1); clear HB; have HB := HB0; clear HB0; have k3 := cells2 k0; have k4 := cells7 k1; have k5 := cells7 k2; obtain ⟨f00, f01⟩ := k3; obtain ⟨f10, f11, f12, f13, f14, f15, f16⟩ := k4; obtain ⟨f20, f21, f22, f23, f24, f25, f26⟩ := k5; have K0 := Aside0.mk k0; have K1 := Aside0.mk k1; have K2 := Aside0.mk k2; clear k0 k1 k2 hb1) | (go_at_call 96; (with_reducible refine (HW.out _ _).mono ?_); rintro e w1 ⟨rfl, hb1⟩; obtain ⟨hB, k0, k1, k2⟩ := start3 (w := w) hb1 rfl rfl rfl rfl; have HB := Aside0.mk hB; clear hB; have k3 := cells2 k0; have k4 := cells7 k1; have k5 := cells7 k2; obtain ⟨f00, f01⟩ := k3; obtain ⟨f10, f11, f12, f13, f14, f15, f16⟩ := k4; obtain ⟨f20, f21, f22, f23, f24, f25, f26⟩ := k5; have K0 := Aside0.mk k0; have K1 := Aside0.mk k1; have K2 := Aside0.mk k2; clear k0 k1 k2 hb1) | (go_at_call 66; (with_reducible refine (HI.out _ _ _ _).mono ?_); rintro e w1 ⟨rfl, hb1⟩; replace hb1 := hb1.below; obtain ⟨hB, k0, k1, k2⟩ := start3 (w := w) hb1 rfl rfl rfl rfl; have HB := Aside0.mk hB; clear hB; have k3 := cells2 k0; have k4 := cells7 k1; have k5 := cells7 k2; obtain ⟨f00, f01⟩ := k3; obtain ⟨f10, f11, f12, f13, f14, f15, f16⟩ := k4; obtain ⟨f20, f21, f22, f23, f24, f25, f26⟩ := k5; have K0 := Aside0.mk k0; have K1 := Aside0.mk k1; have K2 := Aside0.mk k2; clear k0 k1 k2 hb1))
    go_ret
    exact ⟨rfl, HB.out⟩
  | true =>
    simp only [Bool.true_and]
    cases h1 : inRange 2 10 N with
    | false =>
      simp only [Bool.false_and]
      go_enter Try.func68, Try.ntmps68
      go_wp2
      go_region
      go_wp2_with (first | (go_at_call 96; (with_reducible refine (HW.out _ _).mono ?_); rintro e w1 ⟨rfl, hb1⟩; have k0 := blk_below K0.out hb1; have k1 := blk_below K1.out hb1; have k2 := blk_below K2.out hb1; clear K0 K1 K2 f00 f01 f10 f11 f12 f13 f14 f15 f16 f20 f21 f22 f23 f24 f25 f26; have HB0 := Aside0.mk (below_then HB.out HB.out.size hb1); clear HB; have HB := HB0; clear HB0; have k3 := cells2 k0; have k4 := cells7 k1; have k5 := cells7 k2; obtain ⟨f00, f01⟩ := k3; obtain ⟨f10, f11, f12, f13, f14, f15, f16⟩ := k4; obtain ⟨f20, f21, f22, f23, f24, f25, f26⟩ := k5; have K0 := Aside0.mk k0; have K1 := Aside0.mk k1; have K2 := Aside0.mk k2; clear k0 k1 k2 hb1) | (go_at_call 66; (with_reducible refine (HI.out _ _ _ _).mono ?_); rintro e w1 ⟨rfl, hb1⟩; replace hb1 := hb1.below; have k0 := blk_below K0.out hb1; have k1 := blk_below K1.out hb1; have k2 := blk_below K2.out hb1; clear K0 K1 K2 f00 f01 f10 f11 f12 f13 f14 f15 f16 f20 f21 f22 f23 f24 f25 f26; have HB0 := Aside0.mk (below_then HB.out HB.out.size hb1); clear HB; have HB := HB0; clear HB0; have k3 := cells2 k0; have k4 := cells7 k1; have k5 := cells7 k2; obtain ⟨f00, f01⟩ := k3; obtain ⟨f10, f11, f12, f13, f14, f15, f16⟩ := k4; obtain ⟨f20, f21, f22, f23, f24, f25, f26⟩ := k5; have K0 := Aside0.mk k0; have K1 := Aside0.mk k1; have K2 := Aside0.mk k2; clear k0 k1 k2 hb1) | (go_at_call 96; (with_reducible refine (HW.out _ _).mono ?_); rintro e w1 ⟨rfl, hb1⟩; obtain ⟨hB, k0, k1, k2⟩ := start3 (w := w) hb1 rfl rfl rfl rfl; have HB := Aside0.mk hB; clear hB; have k3 := cells2 k0; have k4 := cells7 k1; have k5 := cells7 k2; obtain ⟨f00, f01⟩ := k3; obtain ⟨f10, f11, f12, f13, f14, f15, f16⟩ := k4; obtain ⟨f20, f21, f22, f23, f24, f25, f26⟩ := k5; have K0 := Aside0.mk k0; have K1 := Aside0.mk k1; have K2 := Aside0.mk k2; clear k0 k1 k2 hb1) | (go_at_call 66; (with_reducible refine (HI.out _ _ _ _).mono ?_); rintro e w1 ⟨rfl, hb1⟩; replace hb1 := hb1.below; obtain ⟨hB, k0, k1, k2⟩ := start3 (w := w) hb1 rfl rfl rfl rfl; have HB := Aside0.mk hB; clear hB; have k3 := cells2 k0; have k4 := cells7 k1; have k5 := cells7 k2; obtain ⟨f00, f01⟩ := k3; obtain ⟨f10, f11, f12, f13, f14, f15, f16⟩ := k4; obtain ⟨f20, f21, f22, f23, f24, f25, f26⟩ := k5; have K0 := Aside0.mk k0; have K1 := Aside0.mk k1; have K2 := Aside0.mk k2; clear k0 k1 k2 hb1))
      go_ret
      exact ⟨rfl, HB.out⟩
    | true =>
      simp only [Bool.true_and]
      have hN := inRange_iff.1 h1
      have hN1 := hN.1
      have hN2 := hN.2
      clear hN
      cases h2 : inRange 0 (N - 1) M with
      | false =>
        simp only [Bool.false_and]
        go_enter Try.func68, Try.ntmps68
        go_wp2
        go_region
        go_wp2_with (first | (go_at_call 96; (with_reducible refine (HW.out _ _).mono ?_); rintro e w1 ⟨rfl, hb1⟩; have k0 := blk_below K0.out hb1; have k1 := blk_below K1.out hb1; have k2 := blk_below K2.out hb1; clear K0 K1 K2 f00 f01 f10 f11 f12 f13 f14 f15 f16 f20 f21 f22 f23 f24 f25 f26; have HB0 := Aside0.mk (below_then HB.out HB.out.size hb1); clear HB; have HB := HB0; clear HB0; have k3 := cells2 k0; have k4 := cells7 k1; have k5 := cells7 k2; obtain ⟨f00, f01⟩ := k3; obtain ⟨f10, f11, f12, f13, f14, f15, f16⟩ := k4; obtain ⟨f20, f21, f22, f23, f24, f25, f26⟩ := k5; have K0 := Aside0.mk k0; have K1 := Aside0.mk k1; have K2 := Aside0.mk k2; clear k0 k1 k2 hb1) | (go_at_call 66; (with_reducible refine (HI.out _ _ _ _).mono ?_); rintro e w1 ⟨rfl, hb1⟩; replace hb1 := hb1.below; have k0 := blk_below K0.out hb1; have k1 := blk_below K1.out hb1; have k2 := blk_below K2.out hb1; clear K0 K1 K2 f00 f01 f10 f11 f12 f13 f14 f15 f16 f20 f21 f22 f23 f24 f25 f26; have HB0 := Aside0.mk (below_then HB.out HB.out.size hb1); clear HB; have HB := HB0; clear HB0; have k3 := cells2 k0; have k4 := cells7 k1; have k5 := cells7 k2; obtain ⟨f00, f01⟩ := k3; obtain ⟨f10, f11, f12, f13, f14, f15, f16⟩ := k4; obtain ⟨f20, f21, f22, f23, f24, f25, f26⟩ := k5; have K0 := Aside0.mk k0; have K1 := Aside0.mk k1; have K2 := Aside0.mk k2; clear k0 k1 k2 hb1) | (go_at_call 96; (with_reducible refine (HW.out _ _).mono ?_); rintro e w1 ⟨rfl, hb1⟩; obtain ⟨hB, k0, k1, k2⟩ := start3 (w := w) hb1 rfl rfl rfl rfl; have HB := Aside0.mk hB; clear hB; have k3 := cells2 k0; have k4 := cells7 k1; have k5 := cells7 k2; obtain ⟨f00, f01⟩ := k3; obtain ⟨f10, f11, f12, f13, f14, f15, f16⟩ := k4; obtain ⟨f20, f21, f22, f23, f24, f25, f26⟩ := k5; have K0 := Aside0.mk k0; have K1 := Aside0.mk k1; have K2 := Aside0.mk k2; clear k0 k1 k2 hb1) | (go_at_call 66; (with_reducible refine (HI.out _ _ _ _).mono ?_); rintro e w1 ⟨rfl, hb1⟩; replace hb1 := hb1.below; obtain ⟨hB, k0, k1, k2⟩ := start3 (w := w) hb1 rfl rfl rfl rfl; have HB := Aside0.mk hB; clear hB; have k3 := cells2 k0; have k4 := cells7 k1; have k5 := cells7 k2; obtain ⟨f00, f01⟩ := k3; obtain ⟨f10, f11, f12, f13, f14, f15, f16⟩ := k4; obtain ⟨f20, f21, f22, f23, f24, f25, f26⟩ := k5; have K0 := Aside0.mk k0; have K1 := Aside0.mk k1; have K2 := Aside0.mk k2; clear k0 k1 k2 hb1))
        go_ret
        exact ⟨rfl, HB.out⟩
      | true =>
        simp only [Bool.true_and]
        cases h3 : (B == 0) with
        | false =>
          simp only [Bool.false_and]
          go_enter Try.func68, Try.ntmps68
          go_wp2
          go_region
          go_wp2_with (first | (go_at_call 96; (with_reducible refine (HW.out _ _).mono ?_); rintro e w1 ⟨rfl, hb1⟩; have k0 := blk_below K0.out hb1; have k1 := blk_below K1.out hb1; have k2 := blk_below K2.out hb1; clear K0 K1 K2 f00 f01 f10 f11 f12 f13 f14 f15 f16 f20 f21 f22 f23 f24 f25 f26; have HB0 := Aside0.mk (below_then HB.out HB.out.size hb1); clear HB; have HB := HB0; clear HB0; have k3 := cells2 k0; have k4 := cells7 k1; have k5 := cells7 k2; obtain ⟨f00, f01⟩ := k3; obtain ⟨f10, f11, f12, f13, f14, f15, f16⟩ := k4; obtain ⟨f20, f21, f22, f23, f24, f25, f26⟩ := k5; have K0 := Aside0.mk k0; have K1 := Aside0.mk k1; have K2 := Aside0.mk k2; clear k0 k1 k2 hb1) | (go_at_call 66; (with_reducible refine (HI.out _ _ _ _).mono ?_); rintro e w1 ⟨rfl, hb1⟩; replace hb1 := hb1.below; have k0 := blk_below K0.out hb1; have k1 := blk_below K1.out hb1; have k2 := blk_below K2.out hb1; clear K0 K1 K2 f00 f01 f10 f11 f12 f13 f14 f15 f16 f20 f21 f22 f23 f24 f25 f26; have HB0 := Aside0.mk (below_then HB.out HB.out.size hb1); clear HB; have HB := HB0; clear HB0; have k3 := cells2 k0; have k4 := cells7 k1; have k5 := cells7 k2; obtain ⟨f00, f01⟩ := k3; obtain ⟨f10, f11, f12, f13, f14, f15, f16⟩ := k4; obtain ⟨f20, f21, f22, f23, f24, f25, f26⟩ := k5; have K0 := Aside0.mk k0; have K1 := Aside0.mk k1; have K2 := Aside0.mk k2; clear k0 k1 k2 hb1) | (go_at_call 96; (with_reducible refine (HW.out _ _).mono ?_); rintro e w1 ⟨rfl, hb1⟩; obtain ⟨hB, k0, k1, k2⟩ := start3 (w := w) hb1 rfl rfl rfl rfl; have HB := Aside0.mk hB; clear hB; have k3 := cells2 k0; have k4 := cells7 k1; have k5 := cells7 k2; obtain ⟨f00, f01⟩ := k3; obtain ⟨f10, f11, f12, f13, f14, f15, f16⟩ := k4; obtain ⟨f20, f21, f22, f23, f24, f25, f26⟩ := k5; have K0 := Aside0.mk k0; have K1 := Aside0.mk k1; have K2 := Aside0.mk k2; clear k0 k1 k2 hb1) | (go_at_call 66; (with_reducible refine (HI.out _ _ _ _).mono ?_); rintro e w1 ⟨rfl, hb1⟩; replace hb1 := hb1.below; obtain ⟨hB, k0, k1, k2⟩ := start3 (w := w) hb1 rfl rfl rfl rfl; have HB := Aside0.mk hB; clear hB; have k3 := cells2 k0; have k4 := cells7 k1; have k5 := cells7 k2; obtain ⟨f00, f01⟩ := k3; obtain ⟨f10, f11, f12, f13, f14, f15, f16⟩ := k4; obtain ⟨f20, f21, f22, f23, f24, f25, f26⟩ := k5; have K0 := Aside0.mk k0; have K1 := Aside0.mk k1; have K2 := Aside0.mk k2; clear k0 k1 k2 hb1))
          go_ret
          exact ⟨rfl, HB.out⟩
        | true =>
          simp only [Bool.true_and]
          cases h4 : ((G.length : Int) == 0) with
          | false =>
            go_enter Try.func68, Try.ntmps68
            go_wp2
            go_region
            go_wp2_with (first | (go_at_call 96; (with_reducible refine (HW.out _ _).mono ?_); rintro e w1 ⟨rfl, hb1⟩; have k0 := blk_below K0.out hb1; have k1 := blk_below K1.out hb1; have k2 := blk_below K2.out hb1; clear K0 K1 K2 f00 f01 f10 f11 f12 f13 f14 f15 f16 f20 f21 f22 f23 f24 f25 f26; have HB0 := Aside0.mk (below_then HB.out HB.out.size hb1); clear HB; have HB := HB0; clear HB0; have k3 := cells2 k0; have k4 := cells7 k1; have k5 := cells7 k2; obtain ⟨f00, f01⟩ := k3; obtain ⟨f10, f11, f12, f13, f14, f15, f16⟩ := k4; obtain ⟨f20, f21, f22, f23, f24, f25, f26⟩ := k5; have K0 := Aside0.mk k0; have K1 := Aside0.mk k1; have K2 := Aside0.mk k2; clear k0 k1 k2 hb1) | (go_at_call 66; (with_reducible refine (HI.out _ _ _ _).mono ?_); rintro e w1 ⟨rfl, hb1⟩; replace hb1 := hb1.below; have k0 := blk_below K0.out hb1; have k1 := blk_below K1.out hb1; have k2 := blk_below K2.out hb1; clear K0 K1 K2 f00 f01 f10 f11 f12 f13 f14 f15 f16 f20 f21 f22 f23 f24 f25 f26; have HB0 := Aside0.mk (below_then HB.out HB.out.size hb1); clear HB; have HB := HB0; clear HB0; have k3 := cells2 k0; have k4 := cells7 k1; have k5 := cells7 k2; obtain ⟨f00, f01⟩ := k3; obtain ⟨f10, f11, f12, f13, f14, f15, f16⟩ := k4; obtain ⟨f20, f21, f22, f23, f24, f25, f26⟩ := k5; have K0 := Aside0.mk k0; have K1 := Aside0.mk k1; have K2 := Aside0.mk k2; clear k0 k1 k2 hb1) | (go_at_call 96; (with_reducible refine (HW.out _ _).mono ?_); rintro e w1 ⟨rfl, hb1⟩; obtain ⟨hB, k0, k1, k2⟩ := start3 (w := w) hb1 rfl rfl rfl rfl; have HB := Aside0.mk hB; clear hB; have k3 := cells2 k0; have k4 := cells7 k1; have k5 := cells7 k2; obtain ⟨f00, f01⟩ := k3; obtain ⟨f10, f11, f12, f13, f14, f15, f16⟩ := k4; obtain ⟨f20, f21, f22, f23, f24, f25, f26⟩ := k5; have K0 := Aside0.mk k0; have K1 := Aside0.mk k1; have K2 := Aside0.mk k2; clear k0 k1 k2 hb1) | (go_at_call 66; (with_reducible refine (HI.out _ _ _ _).mono ?_); rintro e w1 ⟨rfl, hb1⟩; replace hb1 := hb1.below; obtain ⟨hB, k0, k1, k2⟩ := start3 (w := w) hb1 rfl rfl rfl rfl; have HB := Aside0.mk hB; clear hB; have k3 := cells2 k0; have k4 := cells7 k1; have k5 := cells7 k2; obtain ⟨f00, f01⟩ := k3; obtain ⟨f10, f11, f12, f13, f14, f15, f16⟩ := k4; obtain ⟨f20, f21, f22, f23, f24, f25, f26⟩ := k5; have K0 := Aside0.mk k0; have K1 := Aside0.mk k1; have K2 := Aside0.mk k2; clear k0 k1 k2 hb1))
            go_ret
            exact ⟨rfl, HB.out⟩
          | true =>
            go_enter Try.func68, Try.ntmps68
            go_wp2
            go_region
            go_wp2_with (first | (go_at_call 96; (with_reducible refine (HW.out _ _).mono ?_); rintro e w1 ⟨rfl, hb1⟩; have k0 := blk_below K0.out hb1; have k1 := blk_below K1.out hb1; have k2 := blk_below K2.out hb1; clear K0 K1 K2 f00 f01 f10 f11 f12 f13 f14 f15 f16 f20 f21 f22 f23 f24 f25 f26; have HB0 := Aside0.mk (below_then HB.out HB.out.size hb1); clear HB; have HB := HB0; clear HB0; have k3 := cells2 k0; have k4 := cells7 k1; have k5 := cells7 k2; obtain ⟨f00, f01⟩ := k3; obtain ⟨f10, f11, f12, f13, f14, f15, f16⟩ := k4; obtain ⟨f20, f21, f22, f23, f24, f25, f26⟩ := k5; have K0 := Aside0.mk k0; have K1 := Aside0.mk k1; have K2 := Aside0.mk k2; clear k0 k1 k2 hb1) | (go_at_call 66; (with_reducible refine (HI.out _ _ _ _).mono ?_); rintro e w1 ⟨rfl, hb1⟩; replace hb1 := hb1.below; have k0 := blk_below K0.out hb1; have k1 := blk_below K1.out hb1; have k2 := blk_below K2.out hb1; clear K0 K1 K2 f00 f01 f10 f11 f12 f13 f14 f15 f16 f20 f21 f22 f23 f24 f25 f26; have HB0 := Aside0.mk (below_then HB.out HB.out.size hb1); clear HB; have HB := HB0; clear HB0; have k3 := cells2 k0; have k4 := cells7 k1; have k5 := cells7 k2; obtain ⟨f00, f01⟩ := k3; obtain ⟨f10, f11, f12, f13, f14, f15, f16⟩ := k4; obtain ⟨f20, f21, f22, f23, f24, f25, f26⟩ := k5; have K0 := Aside0.mk k0; have K1 := Aside0.mk k1; have K2 := Aside0.mk k2; clear k0 k1 k2 hb1) | (go_at_call 96; (with_reducible refine (HW.out _ _).mono ?_); rintro e w1 ⟨rfl, hb1⟩; obtain ⟨hB, k0, k1, k2⟩ := start3 (w := w) hb1 rfl rfl rfl rfl; have HB := Aside0.mk hB; clear hB; have k3 := cells2 k0; have k4 := cells7 k1; have k5 := cells7 k2; obtain ⟨f00, f01⟩ := k3; obtain ⟨f10, f11, f12, f13, f14, f15, f16⟩ := k4; obtain ⟨f20, f21, f22, f23, f24, f25, f26⟩ := k5; have K0 := Aside0.mk k0; have K1 := Aside0.mk k1; have K2 := Aside0.mk k2; clear k0 k1 k2 hb1) | (go_at_call 66; (with_reducible refine (HI.out _ _ _ _).mono ?_); rintro e w1 ⟨rfl, hb1⟩; replace hb1 := hb1.below; obtain ⟨hB, k0, k1, k2⟩ := start3 (w := w) hb1 rfl rfl rfl rfl; have HB := Aside0.mk hB; clear hB; have k3 := cells2 k0; have k4 := cells7 k1; have k5 := cells7 k2; obtain ⟨f00, f01⟩ := k3; obtain ⟨f10, f11, f12, f13, f14, f15, f16⟩ := k4; obtain ⟨f20, f21, f22, f23, f24, f25, f26⟩ := k5; have K0 := Aside0.mk k0; have K1 := Aside0.mk k1; have K2 := Aside0.mk k2; clear k0 k1 k2 hb1))
            go_ret
            exact ⟨rfl, HB.out⟩
set_option maxHeartbeats 16000000 in
set_option maxRecDepth 100000 in
theorem clue_else (W S k A B N M : Int) (A5 : Option Addr) (c5 : Nat) (G : List Int) (nt : Bool) (w : World) (h1 : (k == 1) = false) (h2 : (k == 2) = false) (h3 : (k == 3) = false) (h4 : (k == 4) = false) (h5 : (k == 5) = false) (h6 : (k == 6) = false) (h7 : (k == 7) = false) :
    Calls Try.prog 68 #[.agg #[.int .i64 W, .int .i64 S], .agg #[.int .i64 k, .int .i64 A, .int .i64 B, .int .i64 N, .int .i64 M, .slice A5 G.length c5, .bool nt]] w fun e w' => e = .returned (.bool false) ∧ Below w.heap.size w w' := by
  have hu36 := Try.underlying36
  have hu83 := Try.underlying83
  go_enter Try.func68, Try.ntmps68
  go_wp2
  go_ret
  exact ⟨rfl, ((((Below.refl _ w).alloc (Nat.le_refl _) _).alloc (by simp) _).alloc (by simp; omega) _)⟩
end Go.Proofs.Ytimkchehdaadeaa.P
end
section
namespace Go.Proofs.Ytimkchehdaadeaa.P
open Go.RowKit Go.Shelf Go.Proofs.YtimkchehdaadeaaW.PrintWords Go.Proofs.YtimkchehdaadeaaW.PrintLast Go.Proofs.YtimkchehdaadeaaW.PrintMore
set_option linter.unusedVariables false
set_option linter.unusedSimpArgs false
def codes_lock_clue.f (W S k A B N M : Int) (G : List Int) (nt : Bool) : Option Bool := if okLock W S then some (validB W S k A B N M G) else none
def codes_checkClues.f (W S : Int) (l : List S36) : Option Int := some (if okLock W S then (if (20 : Int) < l.length then 2 else if l.all (validC W S) then 0 else 11) else 10)
theorem codes_lock_clue.calls (a0_0 : Int) (a0_1 : Int) (a1_0 : Int) (a1_1 : Int) (a1_2 : Int) (a1_3 : Int) (a1_4 : Int) (A1_5 : Option Addr) (c1_5 : Nat) (l1_5 : List Int) (a1_6 : Bool) (r : Bool) (w : World) (hr1_5 : Kd.C (Kd.int .i64) w A1_5 l1_5.length l1_5) (hc1_5 : l1_5.length ≤ c1_5) (h : codes_lock_clue.f a0_0 a0_1 a1_0 a1_1 a1_2 a1_3 a1_4 l1_5 a1_6 = some r) :
    Calls Try.prog 68 #[.agg #[.int .i64 a0_0, .int .i64 a0_1], .agg #[.int .i64 a1_0, .int .i64 a1_1, .int .i64 a1_2, .int .i64 a1_3, .int .i64 a1_4, .slice A1_5 l1_5.length c1_5, .bool a1_6]] w fun e w' => e = .returned (.bool r) ∧ Below w.heap.size w w' := by
  unfold codes_lock_clue.f at h
  split at h
  case isFalse => cases h
  case isTrue hl =>
  obtain rfl := Option.some.inj h
  clear h
  unfold validB
  by_cases h1 : a1_0 = 1
  · subst h1; exact clue_k1 _ _ _ _ _ _ _ _ _ _ _ hl hr1_5 hc1_5
  rw [if_neg h1]
  by_cases h2 : a1_0 = 2
  · subst h2; exact clue_k2 _ _ _ _ _ _ _ _ _ _ _ hl hr1_5 hc1_5
  rw [if_neg h2]
  by_cases h3 : a1_0 = 3
  · subst h3; exact clue_k3 _ _ _ _ _ _ _ _ _ _ _ hl hr1_5 hc1_5
  rw [if_neg h3]
  by_cases h4 : a1_0 = 4
  · subst h4; exact clue_k4 _ _ _ _ _ _ _ _ _ _ _ hl hr1_5 hc1_5
  rw [if_neg h4]
  by_cases h5 : a1_0 = 5
  · subst h5; exact clue_k5 _ _ _ _ _ _ _ _ _ _ _ hl hr1_5 hc1_5
  rw [if_neg h5]
  by_cases h6 : a1_0 = 6
  · subst h6; exact clue_k6 _ _ _ _ _ _ _ _ _ _ _ hl hr1_5 hc1_5
  rw [if_neg h6]
  by_cases h7 : a1_0 = 7
  · subst h7; exact clue_k7 _ _ _ _ _ _ _ _ _ _ _ hl hr1_5 hc1_5
  rw [if_neg h7]
  exact clue_else _ _ _ _ _ _ _ _ _ _ _ _ (beq_eq_false_iff_ne.mpr h1) (beq_eq_false_iff_ne.mpr h2) (beq_eq_false_iff_ne.mpr h3) (beq_eq_false_iff_ne.mpr h4) (beq_eq_false_iff_ne.mpr h5) (beq_eq_false_iff_ne.mpr h6) (beq_eq_false_iff_ne.mpr h7)
set_option maxHeartbeats 4000000 in
set_option maxRecDepth 100000 in
theorem ask_checkClues1 (W S : Int) (hl : okLock W S) (B : Nat) (x : S36) (A0 : Option Addr) (c0 : Nat) (w : World) (hc : x.f5.length ≤ c0) (hr : Kd.C (Kd.int .i64) w A0 x.f5.length x.f5) (hb : w.heap[B]? = some (.cells #[.int .i64 W, .int .i64 S] 23 (0, 0))) :
    Asks 93 #[.pointer (some ⟨B, 0, none⟩)] (.agg #[.int .i64 x.f0, .int .i64 x.f1, .int .i64 x.f2, .int .i64 x.f3, .int .i64 x.f4, .slice A0 x.f5.length c0, .bool x.f6]) (!validC W S x) w := by
  have hu36 := Try.underlying36
  have hu23 := Try.underlying23
  obtain ⟨k, a, b, n, m, g, nt⟩ := x
  simp only at hc hr ⊢
  have hbl : B < w.heap.size := blk_lt hb
  have hb2 := blk_alloc hb (.cells #[.int .i64 k, .int .i64 a, .int .i64 b, .int .i64 n, .int .i64 m, .slice A0 g.length c0, .bool nt] 36)
  obtain ⟨h0, h1⟩ := cells2 hb2
  have HC := Aside0.mk fun w1 hr1 => codes_lock_clue.calls W S k a b n m A0 c0 g nt (validB W S k a b n m g) w1 hr1 hc (by unfold codes_lock_clue.f; rw [if_pos hl])
  have hr2 := Kd.C_alloc hr (.cells #[.int .i64 k, .int .i64 a, .int .i64 b, .int .i64 n, .int .i64 m, .slice A0 g.length c0, .bool nt] 36)
  have HB := Aside0.mk ((Below.refl w.heap.size w).alloc (Nat.le_refl _) (.cells #[.int .i64 k, .int .i64 a, .int .i64 b, .int .i64 n, .int .i64 m, .slice A0 g.length c0, .bool nt] 36))
  have HR := Aside0.mk hr2
  unfold validC
  obtain ⟨r, hr'⟩ : ∃ r, r = validB W S k a b n m g := ⟨_, rfl⟩
  simp only
  rw [← hr'] at HC ⊢
  clear hr' hr hb hb2 hl hr2
  unfold Asks
  go_enter Try.func93, Try.ntmps93
  go_wp2_with (go_at_call 68; refine (HC.out _ HR.out).mono ?_; rintro e w' ⟨rfl, hb'⟩)
  go_ret
  exact ⟨rfl, below_then HB.out HB.out.size hb'⟩
set_option maxHeartbeats 4000000 in
set_option maxRecDepth 100000 in
theorem codes_checkClues.calls (a0_0 : Int) (a0_1 : Int) (A1 : Option Addr) (c1 : Nat) (l1 : List S36) (r : Int) (w : World) (hr1 : Kd.C k36 w A1 l1.length l1) (hc1 : l1.length ≤ c1) (h : codes_checkClues.f a0_0 a0_1 l1 = some r) :
    Calls Try.prog 62 #[.agg #[.int .i64 a0_0, .int .i64 a0_1], .slice A1 l1.length c1] w fun e w' => e = .returned (.int .i64 r) ∧ Below w.heap.size w w' := by
  obtain rfl := Option.some.inj h
  clear h
  have hck := codes_Check.calls a0_0 a0_1 _ (w.alloc (.cells #[.int .i64 a0_0, .int .i64 a0_1] 23)) (Check_eq a0_0 a0_1)
  have HB1 : Aside0 (Below w.heap.size w (w.alloc (.cells #[.int .i64 a0_0, .int .i64 a0_1] 23))) := ⟨(Below.refl _ w).alloc (Nat.le_refl _) _⟩
  by_cases hl : okLock a0_0 a0_1
  · rw [if_pos hl] at hck ⊢
    by_cases hm : (20 : Int) < l1.length
    · rw [if_pos hm]
      have HCK := Aside0.mk hck
      have hd : decide ((20 : Int) < l1.length) = true := decide_eq_true hm
      have hd2 : decide (20 < l1.length) = true := decide_eq_true (by omega)
      clear hck hr1
      go_enter Try.func62, Try.ntmps62
      go_wp2_with (first | (go_at_call 24; refine HCK.out.mono ?_; rintro e w1 ⟨rfl, hb1⟩; have HW1 := Aside0.mk hb1; clear hb1))
      go_ret
      exact ⟨rfl, below_then HB1.out (by simp) HW1.out⟩
    · rw [if_neg hm]
      have hd : decide ((20 : Int) < l1.length) = false := decide_eq_false hm
      have hd2 : decide (20 < l1.length) = false := decide_eq_false (by omega)
      have hall : ∀ w1, Below (w.alloc (.cells #[.int .i64 a0_0, .int .i64 a0_1] 23)).heap.size (w.alloc (.cells #[.int .i64 a0_0, .int .i64 a0_1] 23)) w1 → Calls Try.prog 92 #[.slice A1 l1.length c1, .func (.func 93) #[] #[.pointer (some ⟨w.heap.size, 0, none⟩)]] w1 fun e w' => e = .returned (.bool (l1.any fun x => !validC a0_0 a0_1 x)) ∧ Below w1.heap.size w1 w' := fun w1 hw1 =>
        contains_clue 93 #[.pointer (some ⟨w.heap.size, 0, none⟩)] (enters_of Try.func93 (by kernel_rfl) rfl) (fun x => !validC a0_0 a0_1 x) A1 c1 l1 w1 (Kd.C_below (Kd.C_alloc hr1 _) hw1) hc1
          (fun x _ W hW A0 c0 hc0 hx => ask_checkClues1 a0_0 a0_1 hl w.heap.size x A0 c0 W hc0 hx (blk_below (blk_below (blk_new w _) hw1) hW))
      have hany : (l1.all (validC a0_0 a0_1)) = !(l1.any fun x => !validC a0_0 a0_1 x) := List.all_eq_not_any_not
      rw [hany]
      obtain ⟨b, hb⟩ : ∃ b, b = l1.any fun x => !validC a0_0 a0_1 x := ⟨_, rfl⟩
      rw [← hb] at hall ⊢
      have HALL := Aside0.mk hall
      have HCK := Aside0.mk hck
      clear hall hck hb hany hr1
      cases b with
      | true =>
        go_enter Try.func62, Try.ntmps62
        go_wp2_with (first | (go_at_call 24; refine HCK.out.mono ?_; rintro e w1 ⟨rfl, hb1⟩; have HW1 := Aside0.mk hb1; clear hb1) | (go_at_call 92; refine (HALL.out _ HW1.out).mono ?_; rintro e w2 ⟨rfl, hb2⟩))
        go_ret
        exact ⟨rfl, below_then (below_then HB1.out (by simp) HW1.out) (Nat.le_trans (by simp) HW1.out.size) hb2⟩
      | false =>
        go_enter Try.func62, Try.ntmps62
        go_wp2_with (first | (go_at_call 24; refine HCK.out.mono ?_; rintro e w1 ⟨rfl, hb1⟩; have HW1 := Aside0.mk hb1; clear hb1) | (go_at_call 92; refine (HALL.out _ HW1.out).mono ?_; rintro e w2 ⟨rfl, hb2⟩))
        go_ret
        exact ⟨rfl, below_then (below_then HB1.out (by simp) HW1.out) (Nat.le_trans (by simp) HW1.out.size) hb2⟩
  · rw [if_neg hl] at hck ⊢
    have HCK := Aside0.mk hck
    clear hck hr1
    go_enter Try.func62, Try.ntmps62
    go_wp2_with (first | (go_at_call 24; refine HCK.out.mono ?_; rintro e w1 ⟨rfl, hb1⟩; have HW1 := Aside0.mk hb1; clear hb1))
    go_ret
    exact ⟨rfl, below_then HB1.out (by simp) HW1.out⟩
end Go.Proofs.Ytimkchehdaadeaa.P
end
