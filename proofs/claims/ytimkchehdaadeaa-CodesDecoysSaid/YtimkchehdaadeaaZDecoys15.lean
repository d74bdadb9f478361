/- Part 15 of a proof: the statement CodesDecoys: for every input its law returns true (its texts without what nothing here names). -/
import Derived.Test.YtimkchehdaadeaaZDecoys14
import Derived.RegionTactic
import Derived.BigRegion
import Derived.ChangeAlike
namespace Go.Proofs.Ytimkchehdaadeaa.P
open Go.RowKit Go.Shelf Go.Proofs.YtimkchehdaadeaaW.PrintWords Go.Proofs.YtimkchehdaadeaaW.PrintLast Go.Proofs.YtimkchehdaadeaaW.PrintMore
set_option linter.unusedVariables false
set_option linter.unusedSimpArgs false
set_option maxHeartbeats 16000000 in
set_option maxRecDepth 100000 in
theorem clue_k1 (W S A B N M : Int) (A5 : Option Addr) (c5 : Nat) (G : List Int) (nt : Bool) (w : World) (hl : okLock W S) (hr : Kd.C (Kd.int .i64) w A5 G.length G) (hc : G.length ≤ c5) :
    Calls Try.prog 68 #[.agg #[.int .i64 W, .int .i64 S], .agg #[.int .i64 1, .int .i64 A, .int .i64 B, .int .i64 N, .int .i64 M, .slice A5 G.length c5, .bool nt]] w fun e w' => e = .returned (.bool (inRange 0 (W - 1) A && (inRange 0 (S - 1) N && ((B == 0) && ((M == 0) && ((G.length : Int) == 0)))))) ∧ Below w.heap.size w w' := by
  have hu36 := Try.underlying36
  have hu83 := Try.underlying83
  have HW := Aside0.mk fun x w0 => codes_lock_wheel.calls W S x _ w0 (wheel_eq W S x hl)
  have HS := Aside0.mk fun x w0 => codes_lock_symbol.calls W S x _ w0 (symbol_eq W S x hl)
  have HI := Aside0.mk fun x lo hi w0 => codes_within.calls x lo hi _ w0 (within_eq x lo hi)
  have HG : Aside0 (∀ w0, Below w.heap.size w w0 → _) := Aside0.mk fun w0 hb0 => codes_lock_code.calls W S A5 c5 G _ w0 (Kd.C_below hr hb0) hc (by unfold codes_lock_code.f; rw [if_pos hl])
  clear hl hr
  cases h0 : inRange 0 (W - 1) A with
  | false =>
    simp only [Bool.false_and]
    go_enter Try.func68, Try.ntmps68
    go_wp2
    go_region
    go_wp2_with (first | (go_at_call 96; (with_reducible refine (HW.out _ _).mono ?_); rintro e w1 ⟨rfl, hb1⟩; have k0 := blk_below K0.out hb1; have k1 := blk_below K1.out hb1; have k2 := blk_below K2.out hb1; clear K0 K1 K2 f00 f01 f10 f11 f12 f13 f14 f15 f16 f20 f21 f22 f23 f24 f25 f26; have HB0 := Aside0.mk (below_then HB.out HB.out.size hb1); clear HB; have HB := HB0; clear HB0; have k3 := cells2 k0; have k4 := cells7 k1; have k5 := cells7 k2; obtain ⟨f00, f01⟩ := k3; obtain ⟨f10, f11, f12, f13, f14, f15, f16⟩ := k4; obtain ⟨f20, f21, f22, f23, f24, f25, f26⟩ := k5; have K0 := Aside0.mk k0; have K1 := Aside0.mk k1; have K2 := Aside0.mk k2; clear k0 k1 k2 hb1) | (go_at_call 97; (with_reducible refine (HS.out _ _).mono ?_); rintro e w1 ⟨rfl, hb1⟩; have k0 := blk_below K0.out hb1; have k1 := blk_below K1.out hb1; have k2 := blk_below K2.out hb1; clear K0 K1 K2 f00 f01 f10 f11 f12 f13 f14 f15 f16 f20 f21 f22 f23 f24 f25 f26; have HB0 := Aside0.mk (below_then HB.out HB.out.size hb1); clear HB; have HB := HB0; clear HB0; have k3 := cells2 k0; have k4 := cells7 k1; have k5 := cells7 k2; obtain ⟨f00, f01⟩ := k3; obtain ⟨f10, f11, f12, f13, f14, f15, f16⟩ := k4; obtain ⟨f20, f21, f22, f23, f24, f25, f26⟩ := k5; have K0 := Aside0.mk k0; have K1 := Aside0.mk k1; have K2 := Aside0.mk k2; clear k0 k1 k2 hb1) | (go_at_call 96; (with_reducible refine (HW.out _ _).mono ?_); rintro e w1 ⟨rfl, hb1⟩; obtain ⟨hB, k0, k1, k2⟩ := start3 (w := w) hb1 rfl rfl rfl rfl; have HB := Aside0.mk hB; clear hB; have k3 := cells2 k0; have k4 := cells7 k1; have k5 := cells7 k2; obtain ⟨f00, f01⟩ := k3; obtain ⟨f10, f11, f12, f13, f14, f15, f16⟩ := k4; obtain ⟨f20, f21, f22, f23, f24, f25, f26⟩ := k5; have K0 := Aside0.mk k0; have K1 := Aside0.mk k1; have K2 := Aside0.mk k2; clear k0 k1 k2 hb1) | (go_at_call 97; (with_reducible refine (HS.out _ _).mono ?_); rintro e w1 ⟨rfl, hb1⟩; obtain ⟨hB, k0, k1, k2⟩ := start3 (w := w) hb1 rfl rfl rfl rfl; have HB := Aside0.mk hB; clear hB; have k3 := cells2 k0; have k4 := cells7 k1; have k5 := cells7 k2; obtain ⟨f00, f01⟩ := k3; obtain ⟨f10, f11, f12, f13, f14, f15, f16⟩ := k4; obtain ⟨f20, f21, f22, f23, f24, f25, f26⟩ := k5; have K0 := Aside0.mk k0; have K1 := Aside0.mk k1; have K2 := Aside0.mk k2; clear k0 k1 k2 hb1))
    go_ret
    exact ⟨rfl, HB.out⟩
  | true =>
    simp only [Bool.true_and]
    cases h1 : inRange 0 (S - 1) N with
    | false =>
      simp only [Bool.false_and]
      go_enter Try.func68, Try.ntmps68
      go_wp2
      go_region
      go_wp2_with (first | (go_at_call 96; (with_reducible refine (HW.out _ _).mono ?_); rintro e w1 ⟨rfl, hb1⟩; have k0 := blk_below K0.out hb1; have k1 := blk_below K1.out hb1; have k2 := blk_below K2.out hb1; clear K0 K1 K2 f00 f01 f10 f11 f12 f13 f14 f15 f16 f20 f21 f22 f23 f24 f25 f26; have HB0 := Aside0.mk (below_then HB.out HB.out.size hb1); clear HB; have HB := HB0; clear HB0; have k3 := cells2 k0; have k4 := cells7 k1; have k5 := cells7 k2; obtain ⟨f00, f01⟩ := k3; obtain ⟨f10, f11, f12, f13, f14, f15, f16⟩ := k4; obtain ⟨f20, f21, f22, f23, f24, f25, f26⟩ := k5; have K0 := Aside0.mk k0; have K1 := Aside0.mk k1; have K2 := Aside0.mk k2; clear k0 k1 k2 hb1) | (go_at_call 97; (with_reducible refine (HS.out _ _).mono ?_); rintro e w1 ⟨rfl, hb1⟩; have k0 := blk_below K0.out hb1; have k1 := blk_below K1.out hb1; have k2 := blk_below K2.out hb1; clear K0 K1 K2 f00 f01 f10 f11 f12 f13 f14 f15 f16 f20 f21 f22 f23 f24 f25 f26; have HB0 := Aside0.mk (below_then HB.out HB.out.size hb1); clear HB; have HB := HB0; clear HB0; have k3 := cells2 k0; have k4 := cells7 k1; have k5 := cells7 k2; obtain ⟨f00, f01⟩ := k3; obtain ⟨f10, f11, f12, f13, f14, f15, f16⟩ := k4; obtain ⟨f20, f21, f22, f23, f24, f25, f26⟩ := k5; have K0 := Aside0.mk k0; have K1 := Aside0.mk k1; have K2 := Aside0.mk k2; clear k0 k1 k2 hb1) | (go_at_call 96; (with_reducible refine (HW.out _ _).mono ?_); rintro e w1 ⟨rfl, hb1⟩; obtain ⟨hB, k0, k1, k2⟩ := start3 (w := w) hb1 rfl rfl rfl rfl; have HB := Aside0.mk hB; clear hB; have k3 := cells2 k0; have k4 := cells7 k1; have k5 := cells7 k2; obtain ⟨f00, f01⟩ := k3; obtain ⟨f10, f11, f12, f13, f14, f15, f16⟩ := k4; obtain ⟨f20, f21, f22, f23, f24, f25, f26⟩ := k5; have K0 := Aside0.mk k0; have K1 := Aside0.mk k1; have K2 := Aside0.mk k2; clear k0 k1 k2 hb1) | (go_at_call 97; (with_reducible refine (HS.out _ _).mono ?_); rintro e w1 ⟨rfl, hb1⟩; obtain ⟨hB, k0, k1, k2⟩ := start3 (w := w) hb1 rfl rfl rfl rfl; have HB := Aside0.mk hB; clear hB; have k3 := cells2 k0; have k4 := cells7 k1; have k5 := cells7 k2; obtain ⟨f00, f01⟩ := k3; obtain ⟨f10, f11, f12, f13, f14, f15, f16⟩ := k4; obtain ⟨f20, f21, f22, f23, f24, f25, f26⟩ := k5; have K0 := Aside0.mk k0; have K1 := Aside0.mk k1; have K2 := Aside0.mk k2; clear k0 k1 k2 hb1))
      go_ret
      exact ⟨rfl, HB.out⟩
    | true =>
      simp only [Bool.true_and]
      cases h2 : (B == 0) with
      | false =>
        simp only [Bool.false_and]
        go_enter Try.func68, Try.ntmps68
        go_wp2
        go_region
        go_wp2_with (first | (go_at_call 96; (with_reducible refine (HW.out _ _).mono ?_); rintro e w1 ⟨rfl, hb1⟩; have k0 := blk_below K0.out hb1; have k1 := blk_below K1.out hb1; have k2 := blk_below K2.out hb1; clear K0 K1 K2 f00 f01 f10 f11 f12 f13 f14 f15 f16 f20 f21 f22 f23 f24 f25 f26; have HB0 := Aside0.mk (below_then HB.out HB.out.size hb1); clear HB; have HB := HB0; clear HB0; have k3 := cells2 k0; have k4 := cells7 k1; have k5 := cells7 k2; obtain ⟨f00, f01⟩ := k3; obtain ⟨f10, f11, f12, f13, f14, f15, f16⟩ := k4; obtain ⟨f20, f21, f22, f23, f24, f25, f26⟩ := k5; have K0 := Aside0.mk k0; have K1 := Aside0.mk k1; have K2 := Aside0.mk k2; clear k0 k1 k2 hb1) | (go_at_call 97; (with_reducible refine (HS.out _ _).mono ?_); rintro e w1 ⟨rfl, hb1⟩; have k0 := blk_below K0.out hb1; have k1 := blk_below K1.out hb1; have k2 := blk_below K2.out hb1; clear K0 K1 K2 f00 f01 f10 f11 f12 f13 f14 f15 f16 f20 f21 f22 f23 f24 f25 f26; have HB0 := Aside0.mk (below_then HB.out HB.out.size hb1); clear HB; have HB := HB0; clear HB0; have k3 := cells2 k0; have k4 := cells7 k1; have k5 := cells7 k2; obtain ⟨f00, f01⟩ := k3; obtain ⟨f10, f11, f12, f13, f14, f15, f16⟩ := k4; obtain ⟨f20, f21, f22, f23, f24, f25, f26⟩ := k5; have K0 := Aside0.mk k0; have K1 := Aside0.mk k1; have K2 := Aside0.mk k2; clear k0 k1 k2 hb1) | (go_at_call 96; (with_reducible refine (HW.out _ _).mono ?_); rintro e w1 ⟨rfl, hb1⟩; obtain ⟨hB, k0, k1, k2⟩ := start3 (w := w) hb1 rfl rfl rfl rfl; have HB := Aside0.mk hB; clear hB; have k3 := cells2 k0; have k4 := cells7 k1; have k5 := cells7 k2; obtain ⟨f00, f01⟩ := k3; obtain ⟨f10, f11, f12, f13, f14, f15, f16⟩ := k4; obtain ⟨f20, f21, f22, f23, f24, f25, f26⟩ := k5; have K0 := Aside0.mk k0; have K1 := Aside0.mk k1; have K2 := Aside0.mk k2; clear k0 k1 k2 hb1) | (go_at_call 97; (with_reducible refine (HS.out _ _).mono ?_); rintro e w1 ⟨rfl, hb1⟩; obtain ⟨hB, k0, k1, k2⟩ := start3 (w := w) hb1 rfl rfl rfl rfl; have HB := Aside0.mk hB; clear hB; have k3 := cells2 k0; have k4 := cells7 k1; have k5 := cells7 k2; obtain ⟨f00, f01⟩ := k3; obtain ⟨f10, f11, f12, f13, f14, f15, f16⟩ := k4; obtain ⟨f20, f21, f22, f23, f24, f25, f26⟩ := k5; have K0 := Aside0.mk k0; have K1 := Aside0.mk k1; have K2 := Aside0.mk k2; clear k0 k1 k2 hb1))
        go_ret
        exact ⟨rfl, HB.out⟩
      | true =>
        simp only [Bool.true_and]
        cases h3 : (M == 0) with
        | false =>
          simp only [Bool.false_and]
          go_enter Try.func68, Try.ntmps68
          go_wp2
          go_region
          go_wp2_with (first | (go_at_call 96; (with_reducible refine (HW.out _ _).mono ?_); rintro e w1 ⟨rfl, hb1⟩; have k0 := blk_below K0.out hb1; have k1 := blk_below K1.out hb1; have k2 := blk_below K2.out hb1; clear K0 K1 K2 f00 f01 f10 f11 f12 f13 f14 f15 f16 f20 f21 f22 f23 f24 f25 f26; have HB0 := Aside0.mk (below_then HB.out HB.out.size hb1); clear HB; have HB := HB0; clear HB0; have k3 := cells2 k0; have k4 := cells7 k1; have k5 := cells7 k2; obtain ⟨f00, f01⟩ := k3; obtain ⟨f10, f11, f12, f13, f14, f15, f16⟩ := k4; obtain ⟨f20, f21, f22, f23, f24, f25, f26⟩ := k5; have K0 := Aside0.mk k0; have K1 := Aside0.mk k1; have K2 := Aside0.mk k2; clear k0 k1 k2 hb1) | (go_at_call 97; (with_reducible refine (HS.out _ _).mono ?_); rintro e w1 ⟨rfl, hb1⟩; have k0 := blk_below K0.out hb1; have k1 := blk_below K1.out hb1; have k2 := blk_below K2.out hb1; clear K0 K1 K2 f00 f01 f10 f11 f12 f13 f14 f15 f16 f20 f21 f22 f23 f24 f25 f26; have HB0 := Aside0.mk (below_then HB.out HB.out.size hb1); clear HB; have HB := HB0; clear HB0; have k3 := cells2 k0; have k4 := cells7 k1; have k5 := cells7 k2; obtain ⟨f00, f01⟩ := k3; obtain ⟨f10, f11, f12, f13, f14, f15, f16⟩ := k4; obtain ⟨f20, f21, f22, f23, f24, f25, f26⟩ := k5; have K0 := Aside0.mk k0; have K1 := Aside0.mk k1; have K2 := Aside0.mk k2; clear k0 k1 k2 hb1) | (go_at_call 96; (with_reducible refine (HW.out _ _).mono ?_); rintro e w1 ⟨rfl, hb1⟩; obtain ⟨hB, k0, k1, k2⟩ := start3 (w := w) hb1 rfl rfl rfl rfl; have HB := Aside0.mk hB; clear hB; have k3 := cells2 k0; have k4 := cells7 k1; have k5 := cells7 k2; obtain ⟨f00, f01⟩ := k3; obtain ⟨f10, f11, f12, f13, f14, f15, f16⟩ := k4; obtain ⟨f20, f21, f22, f23, f24, f25, f26⟩ := k5; have K0 := Aside0.mk k0; have K1 := Aside0.mk k1; have K2 := Aside0.mk k2; clear k0 k1 k2 hb1) | (go_at_call 97; (with_reducible refine (HS.out _ _).mono ?_); rintro e w1 ⟨rfl, hb1⟩; obtain ⟨hB, k0, k1, k2⟩ := start3 (w := w) hb1 rfl rfl rfl rfl; have HB := Aside0.mk hB; clear hB; have k3 := cells2 k0; have k4 := cells7 k1; have k5 := cells7 k2; obtain ⟨f00, f01⟩ := k3; obtain ⟨f10, f11, f12, f13, f14, f15, f16⟩ := k4; obtain ⟨f20, f21, f22, f23, f24, f25, f26⟩ := k5; have K0 := Aside0.mk k0; have K1 := Aside0.mk k1; have K2 := Aside0.mk k2; clear k0 k1 k2 hb1))
          go_ret
          exact ⟨rfl, HB.out⟩
        | true =>
          simp only [Bool.true_and]
          cases h4 : ((G.length : Int) == 0) with
          | false =>
            go_enter Try.func68, Try.ntmps68
            go_wp2
            go_region
            go_wp2_with (first | (go_at_call 96; (with_reducible refine (HW.out _ _).mono ?_); rintro e w1 ⟨rfl, hb1⟩; have k0 := blk_below K0.out hb1; have k1 := blk_below K1.out hb1; have k2 := blk_below K2.out hb1; clear K0 K1 K2 f00 f01 f10 f11 f12 f13 f14 f15 f16 f20 f21 f22 f23 f24 f25 f26; have HB0 := Aside0.mk (below_then HB.out HB.out.size hb1); clear HB; have HB := HB0; clear HB0; have k3 := cells2 k0; have k4 := cells7 k1; have k5 := cells7 k2; obtain ⟨f00, f01⟩ := k3; obtain ⟨f10, f11, f12, f13, f14, f15, f16⟩ := k4; obtain ⟨f20, f21, f22, f23, f24, f25, f26⟩ := k5; have K0 := Aside0.mk k0; have K1 := Aside0.mk k1; have K2 := Aside0.mk k2; clear k0 k1 k2 hb1) | (go_at_call 97; (with_reducible refine (HS.out _ _).mono ?_); rintro e w1 ⟨rfl, hb1⟩; have k0 := blk_below K0.out hb1; have k1 := blk_below K1.out hb1; have k2 := blk_below K2.out hb1; clear K0 K1 K2 f00 f01 f10 f11 f12 f13 f14 f15 f16 f20 f21 f22 f23 f24 f25 f26; have HB0 := Aside0.mk (below_then HB.out HB.out.size hb1); clear HB; have HB := HB0; clear HB0; have k3 := cells2 k0; have k4 := cells7 k1; have k5 := cells7 k2; obtain ⟨f00, f01⟩ := k3; obtain ⟨f10, f11, f12, f13, f14, f15, f16⟩ := k4; obtain ⟨f20, f21, f22, f23, f24, f25, f26⟩ := k5; have K0 := Aside0.mk k0; have K1 := Aside0.mk k1; have K2 := Aside0.mk k2; clear k0 k1 k2 hb1) | (go_at_call 96; (with_reducible refine (HW.out _ _).mono ?_); rintro e w1 ⟨rfl, hb1⟩; obtain ⟨hB, k0, k1, k2⟩ := start3 (w := w) hb1 rfl rfl rfl rfl; have HB := Aside0.mk hB; clear hB; have k3 := cells2 k0; have k4 := cells7 k1; have k5 := cells7 k2; obtain ⟨f00, f01⟩ := k3; obtain ⟨f10, f11, f12, f13, f14, f15, f16⟩ := k4; obtain ⟨f20, f21, f22, f23, f24, f25, f26⟩ := k5; have K0 := Aside0.mk k0; have K1 := Aside0.mk k1; have K2 := Aside0.mk k2; clear k0 k1 k2 hb1) | (go_at_call 97; (with_reducible refine (HS.out _ _).mono ?_); rintro e w1 ⟨rfl, hb1⟩; obtain ⟨hB, k0, k1, k2⟩ := start3 (w := w) hb1 rfl rfl rfl rfl; have HB := Aside0.mk hB; clear hB; have k3 := cells2 k0; have k4 := cells7 k1; have k5 := cells7 k2; obtain ⟨f00, f01⟩ := k3; obtain ⟨f10, f11, f12, f13, f14, f15, f16⟩ := k4; obtain ⟨f20, f21, f22, f23, f24, f25, f26⟩ := k5; have K0 := Aside0.mk k0; have K1 := Aside0.mk k1; have K2 := Aside0.mk k2; clear k0 k1 k2 hb1))
            go_ret
            exact ⟨rfl, HB.out⟩
          | true =>
            go_enter Try.func68, Try.ntmps68
            go_wp2
            go_region
            go_wp2_with (first | (go_at_call 96; (with_reducible refine (HW.out _ _).mono ?_); rintro e w1 ⟨rfl, hb1⟩; have k0 := blk_below K0.out hb1; have k1 := blk_below K1.out hb1; have k2 := blk_below K2.out hb1; clear K0 K1 K2 f00 f01 f10 f11 f12 f13 f14 f15 f16 f20 f21 f22 f23 f24 f25 f26; have HB0 := Aside0.mk (below_then HB.out HB.out.size hb1); clear HB; have HB := HB0; clear HB0; have k3 := cells2 k0; have k4 := cells7 k1; have k5 := cells7 k2; obtain ⟨f00, f01⟩ := k3; obtain ⟨f10, f11, f12, f13, f14, f15, f16⟩ := k4; obtain ⟨f20, f21, f22, f23, f24, f25, f26⟩ := k5; have K0 := Aside0.mk k0; have K1 := Aside0.mk k1; have K2 := Aside0.mk k2; clear k0 k1 k2 hb1) | (go_at_call 97; (with_reducible refine (HS.out _ _).mono ?_); rintro e w1 ⟨rfl, hb1⟩; have k0 := blk_below K0.out hb1; have k1 := blk_below K1.out hb1; have k2 := blk_below K2.out hb1; clear K0 K1 K2 f00 f01 f10 f11 f12 f13 f14 f15 f16 f20 f21 f22 f23 f24 f25 f26; have HB0 := Aside0.mk (below_then HB.out HB.out.size hb1); clear HB; have HB := HB0; clear HB0; have k3 := cells2 k0; have k4 := cells7 k1; have k5 := cells7 k2; obtain ⟨f00, f01⟩ := k3; obtain ⟨f10, f11, f12, f13, f14, f15, f16⟩ := k4; obtain ⟨f20, f21, f22, f23, f24, f25, f26⟩ := k5; have K0 := Aside0.mk k0; have K1 := Aside0.mk k1; have K2 := Aside0.mk k2; clear k0 k1 k2 hb1) | (go_at_call 96; (with_reducible refine (HW.out _ _).mono ?_); rintro e w1 ⟨rfl, hb1⟩; obtain ⟨hB, k0, k1, k2⟩ := start3 (w := w) hb1 rfl rfl rfl rfl; have HB := Aside0.mk hB; clear hB; have k3 := cells2 k0; have k4 := cells7 k1; have k5 := cells7 k2; obtain ⟨f00, f01⟩ := k3; obtain ⟨f10, f11, f12, f13, f14, f15, f16⟩ := k4; obtain ⟨f20, f21, f22, f23, f24, f25, f26⟩ := k5; have K0 := Aside0.mk k0; have K1 := Aside0.mk k1; have K2 := Aside0.mk k2; clear k0 k1 k2 hb1) | (go_at_call 97; (with_reducible refine (HS.out _ _).mono ?_); rintro e w1 ⟨rfl, hb1⟩; obtain ⟨hB, k0, k1, k2⟩ := start3 (w := w) hb1 rfl rfl rfl rfl; have HB := Aside0.mk hB; clear hB; have k3 := cells2 k0; have k4 := cells7 k1; have k5 := cells7 k2; obtain ⟨f00, f01⟩ := k3; obtain ⟨f10, f11, f12, f13, f14, f15, f16⟩ := k4; obtain ⟨f20, f21, f22, f23, f24, f25, f26⟩ := k5; have K0 := Aside0.mk k0; have K1 := Aside0.mk k1; have K2 := Aside0.mk k2; clear k0 k1 k2 hb1))
            go_ret
            exact ⟨rfl, HB.out⟩
set_option maxHeartbeats 16000000 in
set_option maxRecDepth 100000 in
theorem clue_k2 (W S A B N M : Int) (A5 : Option Addr) (c5 : Nat) (G : List Int) (nt : Bool) (w : World) (hl : okLock W S) (hr : Kd.C (Kd.int .i64) w A5 G.length G) (hc : G.length ≤ c5) :
    Calls Try.prog 68 #[.agg #[.int .i64 W, .int .i64 S], .agg #[.int .i64 2, .int .i64 A, .int .i64 B, .int .i64 N, .int .i64 M, .slice A5 G.length c5, .bool nt]] w fun e w' => e = .returned (.bool (inRange 0 (W - 1) A && (inRange 0 (W - 1) B && (decide (A ≤ B) && (inRange 0 100 N && ((M == 0) && ((G.length : Int) == 0))))))) ∧ Below w.heap.size w w' := by
  have hu36 := Try.underlying36
  have hu83 := Try.underlying83
  have HW := Aside0.mk fun x w0 => codes_lock_wheel.calls W S x _ w0 (wheel_eq W S x hl)
  have HS := Aside0.mk fun x w0 => codes_lock_symbol.calls W S x _ w0 (symbol_eq W S x hl)
  have HI := Aside0.mk fun x lo hi w0 => codes_within.calls x lo hi _ w0 (within_eq x lo hi)
  have HG : Aside0 (∀ w0, Below w.heap.size w w0 → _) := Aside0.mk fun w0 hb0 => codes_lock_code.calls W S A5 c5 G _ w0 (Kd.C_below hr hb0) hc (by unfold codes_lock_code.f; rw [if_pos hl])
  clear hl hr
  cases h0 : inRange 0 (W - 1) A with
  | false =>
    simp only [Bool.false_and]
    go_enter Try.func68, Try.ntmps68
    go_wp2
    go_region
    go_wp2_with (first | (go_at_call 96; (with_reducible refine (HW.out _ _).mono ?_); rintro e w1 ⟨rfl, hb1⟩; have k0 := blk_below K0.out hb1; have k1 := blk_below K1.out hb1; have k2 := blk_below K2.out hb1; clear K0 K1 K2 f00 f01 f10 f11 f12 f13 f14 f15 f16 f20 f21 f22 f23 f24 f25 f26; have HB0 := Aside0.mk (below_then HB.out HB.out.size hb1); clear HB; have HB := HB0; clear HB0; have k3 := cells2 k0; have k4 := cells7 k1; have k5 := cells7 k2; obtain ⟨f00, f01⟩ := k3; obtain ⟨f10, f11, f12, f13, f14, f15, f16⟩ := k4; obtain ⟨f20, f21, f22, f23, f24, f25, f26⟩ := k5; have K0 := Aside0.mk k0; have K1 := Aside0.mk k1; have K2 := Aside0.mk k2; clear k0 k1 k2 hb1) | (go_at_call 66; (with_reducible refine (HI.out _ _ _ _).mono ?_); rintro e w1 ⟨rfl, hb1⟩; replace hb1 := hb1.below; have k0 := blk_below K0.out hb1; have k1 := blk_below K1.out hb1; have k2 := blk_below K2.out hb1; clear K0 K1 K2 f00 f01 f10 f11 f12 f13 f14 f15 f16 f20 f21 f22 f23 f24 f25 f26; have HB0 := Aside0.mk (below_then HB.out HB.out.size hb1); clear HB; have HB := HB0; clear HB0; have k3 := cells2 k0; have k4 := cells7 k1; have k5 := cells7 k2; obtain ⟨f00, f01⟩ := k3; obtain ⟨f10, f11, f12, f13, f14, f15, f16⟩ := k4; obtain ⟨f20, f21, f22, f23, f24, f25, f26⟩ := k5; have K0 := Aside0.mk k0; have K1 := Aside0.mk k1; have K2 := Aside0.mk k2; clear k0 k1 k2 hb1) | (go_at_call 96; (with_reducible refine (HW.out _ _).mono ?_); rintro e w1 ⟨rfl, hb1⟩; obtain ⟨hB, k0, k1, k2⟩ := start3 (w := w) hb1 rfl rfl rfl rfl; have HB := Aside0.mk hB; clear hB; have k3 := cells2 k0; have k4 := cells7 k1; have k5 := cells7 k2; obtain ⟨f00, f01⟩ := k3; obtain ⟨f10, f11, f12, f13, f14, f15, f16⟩ := k4; obtain ⟨f20, f21, f22, f23, f24, f25, f26⟩ := k5; have K0 := Aside0.mk k0; have K1 := Aside0.mk k1; have K2 := Aside0.mk k2; clear k0 k1 k2 hb1) | (go_at_call 66; (with_reducible refine (HI.out _ _ _ _).mono ?_); rintro e w1 ⟨rfl, hb1⟩; replace hb1 := hb1.below; obtain ⟨hB, k0, k1, k2⟩ := start3 (w := w) hb1 rfl rfl rfl rfl; have HB := Aside0.mk hB; clear hB; have k3 := cells2 k0; have k4 := cells7 k1; have k5 := cells7 k2; obtain ⟨f00, f01⟩ := k3; obtain ⟨f10, f11, f12, f13, f14, f15, f16⟩ := k4; obtain ⟨f20, f21, f22, f23, f24, f25, f26⟩ := k5; have K0 := Aside0.mk k0; have K1 := Aside0.mk k1; have K2 := Aside0.mk k2; clear k0 k1 k2 hb1))
    go_ret
    exact ⟨rfl, HB.out⟩
  | true =>
    simp only [Bool.true_and]
    cases h1 : inRange 0 (W - 1) B with
    | false =>
      simp only [Bool.false_and]
      go_enter Try.func68, Try.ntmps68
      go_wp2
      go_region
      go_wp2_with (first | (go_at_call 96; (with_reducible refine (HW.out _ _).mono ?_); rintro e w1 ⟨rfl, hb1⟩; have k0 := blk_below K0.out hb1; have k1 := blk_below K1.out hb1; have k2 := blk_below K2.out hb1; clear K0 K1 K2 f00 f01 f10 f11 f12 f13 f14 f15 f16 f20 f21 f22 f23 f24 f25 f26; have HB0 := Aside0.mk (below_then HB.out HB.out.size hb1); clear HB; have HB := HB0; clear HB0; have k3 := cells2 k0; have k4 := cells7 k1; have k5 := cells7 k2; obtain ⟨f00, f01⟩ := k3; obtain ⟨f10, f11, f12, f13, f14, f15, f16⟩ := k4; obtain ⟨f20, f21, f22, f23, f24, f25, f26⟩ := k5; have K0 := Aside0.mk k0; have K1 := Aside0.mk k1; have K2 := Aside0.mk k2; clear k0 k1 k2 hb1) | (go_at_call 66; (with_reducible refine (HI.out _ _ _ _).mono ?_); rintro e w1 ⟨rfl, hb1⟩; replace hb1 := hb1.below; have k0 := blk_below K0.out hb1; have k1 := blk_below K1.out hb1; have k2 := blk_below K2.out hb1; clear K0 K1 K2 f00 f01 f10 f11 f12 f13 f14 f15 f16 f20 f21 f22 f23 f24 f25 f26; have HB0 := Aside0.mk (below_then HB.out HB.out.size hb1); clear HB; have HB := HB0; clear HB0; have k3 := cells2 k0; have k4 := cells7 k1; have k5 := cells7 k2; obtain ⟨f00, f01⟩ := k3; obtain ⟨f10, f11, f12, f13, f14, f15, f16⟩ := k4; obtain ⟨f20, f21, f22, f23, f24, f25, f26⟩ := k5; have K0 := Aside0.mk k0; have K1 := Aside0.mk k1; have K2 := Aside0.mk k2; clear k0 k1 k2 hb1) | (go_at_call 96; (with_reducible refine (HW.out _ _).mono ?_); rintro e w1 ⟨rfl, hb1⟩; obtain ⟨hB, k0, k1, k2⟩ := start3 (w := w) hb1 rfl rfl rfl rfl; have HB := Aside0.mk hB; clear hB; have k3 := cells2 k0; have k4 := cells7 k1; have k5 := cells7 k2; obtain ⟨f00, f01⟩ := k3; obtain ⟨f10, f11, f12, f13, f14, f15, f16⟩ := k4; obtain ⟨f20, f21, f22, f23, f24, f25, f26⟩ := k5; have K0 := Aside0.mk k0; have K1 := Aside0.mk k1; have K2 := Aside0.mk k2; clear k0 k1 k2 hb1) | (go_at_call 66; (with_reducible refine (HI.out _ _ _ _).mono ?_); rintro e w1 ⟨rfl, hb1⟩; replace hb1 := hb1.below; obtain ⟨hB, k0, k1, k2⟩ := start3 (w := w) hb1 rfl rfl rfl rfl; have HB := Aside0.mk hB; clear hB; have k3 := cells2 k0; have k4 := cells7 k1; have k5 := cells7 k2; obtain ⟨f00, f01⟩ := k3; obtain ⟨f10, f11, f12, f13, f14, f15, f16⟩ := k4; obtain ⟨f20, f21, f22, f23, f24, f25, f26⟩ := k5; have K0 := Aside0.mk k0; have K1 := Aside0.mk k1; have K2 := Aside0.mk k2; clear k0 k1 k2 hb1))
      go_ret
      exact ⟨rfl, HB.out⟩
    | true =>
      simp only [Bool.true_and]
      cases h2 : decide (A ≤ B) with
      | false =>
        simp only [Bool.false_and]
        go_enter Try.func68, Try.ntmps68
        go_wp2
        go_region
        go_wp2_with (first | (go_at_call 96; (with_reducible refine (HW.out _ _).mono ?_); rintro e w1 ⟨rfl, hb1⟩; have k0 := blk_below K0.out hb1; have k1 := blk_below K1.out hb1; have k2 := blk_below K2.out hb1; clear K0 K1 K2 f00 f01 f10 f11 f12 f13 f14 f15 f16 f20 f21 f22 f23 f24 f25 f26; have HB0 := Aside0.mk (below_then HB.out HB.out.size hb1); clear HB; have HB := HB0; clear HB0; have k3 := cells2 k0; have k4 := cells7 k1; have k5 := cells7 k2; obtain ⟨f00, f01⟩ := k3; obtain ⟨f10, f11, f12, f13, f14, f15, f16⟩ := k4; obtain ⟨f20, f21, f22, f23, f24, f25, f26⟩ := k5; have K0 := Aside0.mk k0; have K1 := Aside0.mk k1; have K2 := Aside0.mk k2; clear k0 k1 k2 hb1) | (go_at_call 66; (with_reducible refine (HI.out _ _ _ _).mono ?_); rintro e w1 ⟨rfl, hb1⟩; replace hb1 := hb1.below; have k0 := blk_below K0.out hb1; have k1 := blk_below K1.out hb1; have k2 := blk_below K2.out hb1; clear K0 K1 K2 f00 f01 f10 f11 f12 f13 f14 f15 f16 f20 f21 f22 f23 f24 f25 f26; have HB0 := Aside0.mk (below_then HB.out HB.out.size hb1); clear HB; have HB := HB0; clear HB0; have k3 := cells2 k0; have k4 := cells7 k1; have k5 := cells7 k2; obtain ⟨f00, f01⟩ := k3; obtain ⟨f10, f11, f12, f13, f14, f15, f16⟩ := k4; obtain ⟨f20, f21, f22, f23, f24, f25, f26⟩ := k5; have K0 := Aside0.mk k0; have K1 := Aside0.mk k1; have K2 := Aside0.mk k2; clear k0 k1 k2 hb1) | (go_at_call 96; (with_reducible refine (HW.out _ _).mono ?_); rintro e w1 ⟨rfl, hb1⟩; obtain ⟨hB, k0, k1, k2⟩ := start3 (w := w) hb1 rfl rfl rfl rfl; have HB := Aside0.mk hB; clear hB; have k3 := cells2 k0; have k4 := cells7 k1; have k5 := cells7 k2; obtain ⟨f00, f01⟩ := k3; obtain ⟨f10, f11, f12, f13, f14, f15, f16⟩ := k4; obtain ⟨f20, f21, f22, f23, f24, f25, f26⟩ := k5; have K0 := Aside0.mk k0; have K1 := Aside0.mk k1; have K2 := Aside0.mk k2; clear k0 k1 k2 hb1) | (go_at_call 66; (with_reducible refine (HI.out _ _ _ _).mono ?_); rintro e w1 ⟨rfl, hb1⟩; replace hb1 := hb1.below; obtain ⟨hB, k0, k1, k2⟩ := start3 (w := w) hb1 rfl rfl rfl rfl; have HB := Aside0.mk hB; clear hB; have k3 := cells2 k0; have k4 := cells7 k1; have k5 := cells7 k2; obtain ⟨f00, f01⟩ := k3; obtain ⟨f10, f11, f12, f13, f14, f15, f16⟩ := k4; obtain ⟨f20, f21, f22, f23, f24, f25, f26⟩ := k5; have K0 := Aside0.mk k0; have K1 := Aside0.mk k1; have K2 := Aside0.mk k2; clear k0 k1 k2 hb1))
        go_ret
        exact ⟨rfl, HB.out⟩
      | true =>
        simp only [Bool.true_and]
        cases h3 : inRange 0 100 N with
        | false =>
          simp only [Bool.false_and]
          go_enter Try.func68, Try.ntmps68
          go_wp2
          go_region
          go_wp2_with (first | (go_at_call 96; (with_reducible refine (HW.out _ _).mono ?_); rintro e w1 ⟨rfl, hb1⟩; have k0 := blk_below K0.out hb1; have k1 := blk_below K1.out hb1; have k2 := blk_below K2.out hb1; clear K0 K1 K2 f00 f01 f10 f11 f12 f13 f14 f15 f16 f20 f21 f22 f23 f24 f25 f26; have HB0 := Aside0.mk (below_then HB.out HB.out.size hb1); clear HB; have HB := HB0; clear HB0; have k3 := cells2 k0; have k4 := cells7 k1; have k5 := cells7 k2; obtain ⟨f00, f01⟩ := k3; obtain ⟨f10, f11, f12, f13, f14, f15, f16⟩ := k4; obtain ⟨f20, f21, f22, f23, f24, f25, f26⟩ := k5; have K0 := Aside0.mk k0; have K1 := Aside0.mk k1; have K2 := Aside0.mk k2; clear k0 k1 k2 hb1) | (go_at_call 66; (with_reducible refine (HI.out _ _ _ _).mono ?_); rintro e w1 ⟨rfl, hb1⟩; replace hb1 := hb1.below; have k0 := blk_below K0.out hb1; have k1 := blk_below K1.out hb1; have k2 := blk_below K2.out hb1; clear K0 K1 K2 f00 f01 f10 f11 f12 f13 f14 f15 f16 f20 f21 f22 f23 f24 f25 f26; have HB0 := Aside0.mk (below_then HB.out HB.out.size hb1); clear HB; have HB := HB0; clear HB0; have k3 := cells2 k0; have k4 := cells7 k1; have k5 := cells7 k2; obtain ⟨f00, f01⟩ := k3; obtain ⟨f10, f11, f12, f13, f14, f15, f16⟩ := k4; obtain ⟨f20, f21, f22, f23, f24, f25, f26⟩ := k5; have K0 := Aside0.mk k0; have K1 := Aside0.mk k1; have K2 := Aside0.mk k2; clear k0 k1 k2 hb1) | (go_at_call 96; (with_reducible refine (HW.out _ _).mono ?_); rintro e w1 ⟨rfl, hb1⟩; obtain ⟨hB, k0, k1, k2⟩ := start3 (w := w) hb1 rfl rfl rfl rfl; have HB := Aside0.mk hB; clear hB; have k3 := cells2 k0; have k4 := cells7 k1; have k5 := cells7 k2; obtain ⟨f00, f01⟩ := k3; obtain ⟨f10, f11, f12, f13, f14, f15, f16⟩ := k4; obtain ⟨f20, f21, f22, f23, f24, f25, f26⟩ := k5; have K0 := Aside0.mk k0; have K1 := Aside0.mk k1; have K2 := Aside0.mk k2; clear k0 k1 k2 hb1) | (go_at_call 66; (with_reducible refine (HI.out _ _ _ _).mono ?_); rintro e w1 ⟨rfl, hb1⟩; replace hb1 := hb1.below; obtain ⟨hB, k0, k1, k2⟩ := start3 (w := w) hb1 rfl rfl rfl rfl; have HB := Aside0.mk hB; clear hB; have k3 := cells2 k0; have k4 := cells7 k1; have k5 := cells7 k2; obtain ⟨f00, f01⟩ := k3; obtain ⟨f10, f11, f12, f13, f14, f15, f16⟩ := k4; obtain ⟨f20, f21, f22, f23, f24, f25, f26⟩ := k5; have K0 := Aside0.mk k0; have K1 := Aside0.mk k1; have K2 := Aside0.mk k2; clear k0 k1 k2 hb1))
          go_ret
          exact ⟨rfl, HB.out⟩
        | true =>
          simp only [Bool.true_and]
          cases h4 : (M == 0) with
          | false =>
            simp only [Bool.false_and]
            go_enter Try.func68, Try.ntmps68
            go_wp2
            go_region
            go_wp2_with (first | (go_at_call 96; (with_reducible refine (HW.out _ _).mono ?_); rintro e w1 ⟨rfl, hb1⟩; have k0 := blk_below K0.out hb1; have k1 := blk_below K1.out hb1; have k2 := blk_below K2.out hb1; clear K0 K1 K2 f00 f01 f10 f11 f12 f13 f14 f15 f16 f20 f21 f22 f23 f24 f25 f26; have HB0 := Aside0.mk (below_then HB.out HB.out.size hb1); clear HB; have HB := HB0; clear HB0; have k3 := cells2 k0; have k4 := cells7 k1; have k5 := cells7 k2; obtain ⟨f00, f01⟩ := k3; obtain ⟨f10, f11, f12, f13, f14, f15, f16⟩ := k4; obtain ⟨f20, f21, f22, f23, f24, f25, f26⟩ := k5; have K0 := Aside0.mk k0; have K1 := Aside0.mk k1; have K2 := Aside0.mk k2; clear k0 k1 k2 hb1) | (go_at_call 66; (with_reducible refine (HI.out _ _ _ _).mono ?_); rintro e w1 ⟨rfl, hb1⟩; replace hb1 := hb1.below; have k0 := blk_below K0.out hb1; have k1 := blk_below K1.out hb1; have k2 := blk_below K2.out hb1; clear K0 K1 K2 f00 f01 f10 f11 f12 f13 f14 f15 f16 f20 f21 f22 f23 f24 f25 f26; have HB0 := Aside0.mk (below_then HB.out HB.out.size hb1); clear HB; have HB := HB0; clear HB0; have k3 := cells2 k0; have k4 := cells7 k1; have k5 := cells7 k2; obtain ⟨f00, f01⟩ := k3; obtain ⟨f10, f11, f12, f13, f14, f15, f16⟩ := k4; obtain ⟨f20, f21, f22, f23, f24, f25, f26⟩ := k5; have K0 := Aside0.mk k0; have K1 := Aside0.mk k1; have K2 := Aside0.mk k2; clear k0 k1 k2 hb1) | (go_at_call 96; (with_reducible refine (HW.out _ _).mono ?_); rintro e w1 ⟨rfl, hb1⟩; obtain ⟨hB, k0, k1, k2⟩ := start3 (w := w) hb1 rfl rfl rfl rfl; have HB := Aside0.mk hB; clear hB; have k3 := cells2 k0; have k4 := cells7 k1; have k5 := cells7 k2; obtain ⟨f00, f01⟩ := k3; obtain ⟨f10, f11, f12, f13, f14, f15, f16⟩ := k4; obtain ⟨f20, f21, f22, f23, f24, f25, f26⟩ := k5; have K0 := Aside0.mk k0; have K1 := Aside0.mk k1; have K2 := Aside0.mk k2; clear k0 k1 k2 hb1) | (go_at_call 66; (with_reducible refine (HI.out _ _ _ _).mono ?_); rintro e w1 ⟨rfl, hb1⟩; replace hb1 := hb1.below; obtain ⟨hB, k0, k1, k2⟩ := start3 (w := w) hb1 rfl rfl rfl rfl; have HB := Aside0.mk hB; clear hB; have k3 := cells2 k0; have k4 := cells7 k1; have k5 := cells7 k2; obtain ⟨f00, f01⟩ := k3; obtain ⟨f10, f11, f12, f13, f14, f15, f16⟩ := k4; obtain ⟨f20, f21, f22, f23, f24, f25, f26⟩ := k5; have K0 := Aside0.mk k0; have K1 := Aside0.mk k1; have K2 := Aside0.mk k2; clear k0 k1 k2 hb1))
            go_ret
            exact ⟨rfl, HB.out⟩
          | true =>
            simp only [Bool.true_and]
            cases h5 : ((G.length : Int) == 0) with
            | false =>
              go_enter Try.func68, Try.ntmps68
              go_wp2
              go_region
              go_wp2_with (first | (go_at_call 96; (with_reducible refine (HW.out _ _).mono ?_); rintro e w1 ⟨rfl, hb1⟩; have k0 := blk_below K0.out hb1; have k1 := blk_below K1.out hb1; have k2 := blk_below K2.out hb1; clear K0 K1 K2 f00 f01 f10 f11 f12 f13 f14 f15 f16 f20 f21 f22 f23 f24 f25 f26; have HB0 := Aside0.mk (below_then HB.out HB.out.size hb1); clear HB; have HB := HB0; clear HB0; have k3 := cells2 k0; have k4 := cells7 k1; have k5 := cells7 k2; obtain ⟨f00, f01⟩ := k3; obtain ⟨f10, f11, f12, f13, f14, f15, f16⟩ := k4; obtain ⟨f20, f21, f22, f23, f24, f25, f26⟩ := k5; have K0 := Aside0.mk k0; have K1 := Aside0.mk k1; have K2 := Aside0.mk k2; clear k0 k1 k2 hb1) | (go_at_call 66; (with_reducible refine (HI.out _ _ _ _).mono ?_); rintro e w1 ⟨rfl, hb1⟩; replace hb1 := hb1.below; have k0 := blk_below K0.out hb1; have k1 := blk_below K1.out hb1; have k2 := blk_below K2.out hb1; clear K0 K1 K2 f00 f01 f10 f11 f12 f13 f14 f15 f16 f20 f21 f22 f23 f24 f25 f26; have HB0 := Aside0.mk (below_then HB.out HB.out.size hb1); clear HB; have HB := HB0; clear HB0; have k3 := cells2 k0; have k4 := cells7 k1; have k5 := cells7 k2; obtain ⟨f00, f01⟩ := k3; obtain ⟨f10, f11, f12, f13, f14, f15, f16⟩ := k4; obtain ⟨f20, f21, f22, f23, f24, f25, f26⟩ := k5; have K0 := Aside0.mk k0; have K1 := Aside0.mk k1; have K2 := Aside0.mk k2; clear k0 k1 k2 hb1) | (go_at_call 96; (with_reducible refine (HW.out _ _).mono ?_); rintro e w1 ⟨rfl, hb1⟩; obtain ⟨hB, k0, k1, k2⟩ := start3 (w := w) hb1 rfl rfl rfl rfl; have HB := Aside0.mk hB; clear hB; have k3 := cells2 k0; have k4 := cells7 k1; have k5 := cells7 k2; obtain ⟨f00, f01⟩ := k3; obtain ⟨f10, f11, f12, f13, f14, f15, f16⟩ := k4; obtain ⟨f20, f21, f22, f23, f24, f25, f26⟩ := k5; have K0 := Aside0.mk k0; have K1 := Aside0.mk k1; have K2 := Aside0.mk k2; clear k0 k1 k2 hb1) | (go_at_call 66; (with_reducible refine (HI.out _ _ _ _).mono ?_); rintro e w1 ⟨rfl, hb1⟩; replace hb1 := hb1.below; obtain ⟨hB, k0, k1, k2⟩ := start3 (w := w) hb1 rfl rfl rfl rfl; have HB := Aside0.mk hB; clear hB; have k3 := cells2 k0; have k4 := cells7 k1; have k5 := cells7 k2; obtain ⟨f00, f01⟩ := k3; obtain ⟨f10, f11, f12, f13, f14, f15, f16⟩ := k4; obtain ⟨f20, f21, f22, f23, f24, f25, f26⟩ := k5; have K0 := Aside0.mk k0; have K1 := Aside0.mk k1; have K2 := Aside0.mk k2; clear k0 k1 k2 hb1))
              go_ret
              exact ⟨rfl, HB.out⟩
            | true =>
              go_enter Try.func68, Try.ntmps68
              go_wp2
              go_region
              go_wp2_with (first | (go_at_call 96; (with_reducible refine (HW.out _ _).mono ?_); rintro e w1 ⟨rfl, hb1⟩; have k0 := blk_below K0.out hb1; have k1 := blk_below K1.out hb1; have k2 := blk_below K2.out hb1; clear K0 K1 K2 f00 f01 f10 f11 f12 f13 f14 f15 f16 f20 f21 f22 f23 f24 f25 f26; have HB0 := Aside0.mk (below_then HB.out HB.out.size hb1); clear HB; have HB := HB0; clear HB0; have k3 := cells2 k0; have k4 := cells7 k1; have k5 := cells7 k2; obtain ⟨f00, f01⟩ := k3; obtain ⟨f10, f11, f12, f13, f14, f15, f16⟩ := k4; obtain ⟨f20, f21, f22, f23, f24, f25, f26⟩ := k5; have K0 := Aside0.mk k0; have K1 := Aside0.mk k1; have K2 := Aside0.mk k2; clear k0 k1 k2 hb1) | (go_at_call 66; (with_reducible refine (HI.out _ _ _ _).mono ?_); rintro e w1 ⟨rfl, hb1⟩; replace hb1 := hb1.below; have k0 := blk_below K0.out hb1; have k1 := blk_below K1.out hb1; have k2 := blk_below K2.out hb1; clear K0 K1 K2 f00 f01 f10 f11 f12 f13 f14 f15 f16 f20 f21 f22 f23 f24 f25 f26; have HB0 := Aside0.mk (below_then HB.out HB.out.size hb1); clear HB; have HB := HB0; clear HB0; have k3 := cells2 k0; have k4 := cells7 k1; have k5 := cells7 k2; obtain ⟨f00, f01⟩ := k3; obtain ⟨f10, f11, f12, f13, f14, f15, f16⟩ := k4; obtain ⟨f20, f21, f22, f23, f24, f25, f26⟩ := k5; have K0 := Aside0.mk k0; have K1 := Aside0.mk k1; have K2 := Aside0.mk k2; clear k0 k1 k2 hb1) | (go_at_call 96; (with_reducible refine (HW.out _ _).mono ?_); rintro e w1 ⟨rfl, hb1⟩; obtain ⟨hB, k0, k1, k2⟩ := start3 (w := w) hb1 rfl rfl rfl rfl; have HB := Aside0.mk hB; clear hB; have k3 := cells2 k0; have k4 := cells7 k1; have k5 := cells7 k2; obtain ⟨f00, f01⟩ := k3; obtain ⟨f10, f11, f12, f13, f14, f15, f16⟩ := k4; obtain ⟨f20, f21, f22, f23, f24, f25, f26⟩ := k5; have K0 := Aside0.mk k0; have K1 := Aside0.mk k1; have K2 := Aside0.mk k2; clear k0 k1 k2 hb1) | (go_at_call 66; (with_reducible refine (HI.out _ _ _ _).mono ?_); rintro e w1 ⟨rfl, hb1⟩; replace hb1 := hb1.below; obtain ⟨hB, k0, k1, k2⟩ := start3 (w := w) hb1 rfl rfl rfl rfl; have HB := Aside0.mk hB; clear hB; have k3 := cells2 k0; have k4 := cells7 k1; have k5 := cells7 k2; obtain ⟨f00, f01⟩ := k3; obtain ⟨f10, f11, f12, f13, f14, f15, f16⟩ := k4; obtain ⟨f20, f21, f22, f23, f24, f25, f26⟩ := k5; have K0 := Aside0.mk k0; have K1 := Aside0.mk k1; have K2 := Aside0.mk k2; clear k0 k1 k2 hb1))
              go_ret
              exact ⟨rfl, HB.out⟩
set_option maxHeartbeats 16000000 in
set_option maxRecDepth 100000 in
theorem clue_k3 (W S A B N M : Int) (A5 : Option Addr) (c5 : Nat) (G : List Int) (nt : Bool) (w : World) (hl : okLock W S) (hr : Kd.C (Kd.int .i64) w A5 G.length G) (hc : G.length ≤ c5) :
    Calls Try.prog 68 #[.agg #[.int .i64 W, .int .i64 S], .agg #[.int .i64 3, .int .i64 A, .int .i64 B, .int .i64 N, .int .i64 M, .slice A5 G.length c5, .bool nt]] w fun e w' => e = .returned (.bool (inRange 0 (W - 1) A && (inRange 0 (W - 1) B && ((A != B) && ((N == 0) && ((M == 0) && ((G.length : Int) == 0))))))) ∧ Below w.heap.size w w' := by
  have hu36 := Try.underlying36
  have hu83 := Try.underlying83
  have HW := Aside0.mk fun x w0 => codes_lock_wheel.calls W S x _ w0 (wheel_eq W S x hl)
  have HS := Aside0.mk fun x w0 => codes_lock_symbol.calls W S x _ w0 (symbol_eq W S x hl)
  have HI := Aside0.mk fun x lo hi w0 => codes_within.calls x lo hi _ w0 (within_eq x lo hi)
  have HG : Aside0 (∀ w0, Below w.heap.size w w0 → _) := Aside0.mk fun w0 hb0 => codes_lock_code.calls W S A5 c5 G _ w0 (Kd.C_below hr hb0) hc (by unfold codes_lock_code.f; rw [if_pos hl])
  clear hl hr
  cases h0 : inRange 0 (W - 1) A with
  | false =>
    simp only [Bool.false_and]
    go_enter Try.func68, Try.ntmps68
    go_wp2
    go_region
    go_wp2_with (first | (go_at_call 96; (with_reducible refine (HW.out _ _).mono ?_); rintro e w1 ⟨rfl, hb1⟩; have k0 := blk_below K0.out hb1; have k1 := blk_below K1.out hb1; have k2 := blk_below K2.out hb1; clear K0 K1 K2 f00 f01 f10 f11 f12 f13 f14 f15 f16 f20 f21 f22 f23 f24 f25 f26; have HB0 := Aside0.mk (below_then HB.out HB.out.size hb1); clear HB; have HB := HB0; clear HB0; have k3 := cells2 k0; have k4 := cells7 k1; have k5 := cells7 k2; obtain ⟨f00, f01⟩ := k3; obtain ⟨f10, f11, f12, f13, f14, f15, f16⟩ := k4; obtain ⟨f20, f21, f22, f23, f24, f25, f26⟩ := k5; have K0 := Aside0.mk k0; have K1 := Aside0.mk k1; have K2 := Aside0.mk k2; clear k0 k1 k2 hb1) | (go_at_call 96; (with_reducible refine (HW.out _ _).mono ?_); rintro e w1 ⟨rfl, hb1⟩; obtain ⟨hB, k0, k1, k2⟩ := start3 (w := w) hb1 rfl rfl rfl rfl; have HB := Aside0.mk hB; clear hB; have k3 := cells2 k0; have k4 := cells7 k1; have k5 := cells7 k2; obtain ⟨f00, f01⟩ := k3; obtain ⟨f10, f11, f12, f13, f14, f15, f16⟩ := k4; obtain ⟨f20, f21, f22, f23, f24, f25, f26⟩ := k5; have K0 := Aside0.mk k0; have K1 := Aside0.mk k1; have K2 := Aside0.mk k2; clear k0 k1 k2 hb1))
    go_ret
    exact ⟨rfl, HB.out⟩
  | true =>
    simp only [Bool.true_and]
    cases h1 : inRange 0 (W - 1) B with
    | false =>
      simp only [Bool.false_and]
      go_enter Try.func68, Try.ntmps68
      go_wp2
      go_region
      go_wp2_with (first | (go_at_call 96; (with_reducible refine (HW.out _ _).mono ?_); rintro e w1 ⟨rfl, hb1⟩; have k0 := blk_below K0.out hb1; have k1 := blk_below K1.out hb1; have k2 := blk_below K2.out hb1; clear K0 K1 K2 f00 f01 f10 f11 f12 f13 f14 f15 f16 f20 f21 f22 f23 f24 f25 f26; have HB0 := Aside0.mk (below_then HB.out HB.out.size hb1); clear HB; have HB := HB0; clear HB0; have k3 := cells2 k0; have k4 := cells7 k1; have k5 := cells7 k2; obtain ⟨f00, f01⟩ := k3; obtain ⟨f10, f11, f12, f13, f14, f15, f16⟩ := k4; obtain ⟨f20, f21, f22, f23, f24, f25, f26⟩ := k5; have K0 := Aside0.mk k0; have K1 := Aside0.mk k1; have K2 := Aside0.mk k2; clear k0 k1 k2 hb1) | (go_at_call 96; (with_reducible refine (HW.out _ _).mono ?_); rintro e w1 ⟨rfl, hb1⟩; obtain ⟨hB, k0, k1, k2⟩ := start3 (w := w) hb1 rfl rfl rfl rfl; have HB := Aside0.mk hB; clear hB; have k3 := cells2 k0; have k4 := cells7 k1; have k5 := cells7 k2; obtain ⟨f00, f01⟩ := k3; obtain ⟨f10, f11, f12, f13, f14, f15, f16⟩ := k4; obtain ⟨f20, f21, f22, f23, f24, f25, f26⟩ := k5; have K0 := Aside0.mk k0; have K1 := Aside0.mk k1; have K2 := Aside0.mk k2; clear k0 k1 k2 hb1))
      go_ret
      exact ⟨rfl, HB.out⟩
    | true =>
      simp only [Bool.true_and]
      cases h2 : (A != B) with
      | false =>
        simp only [Bool.false_and]
        go_enter Try.func68, Try.ntmps68
        go_wp2
        go_region
        go_wp2_with (first | (go_at_call 96; (with_reducible refine (HW.out _ _).mono ?_); rintro e w1 ⟨rfl, hb1⟩; have k0 := blk_below K0.out hb1; have k1 := blk_below K1.out hb1; have k2 := blk_below K2.out hb1; clear K0 K1 K2 f00 f01 f10 f11 f12 f13 f14 f15 f16 f20 f21 f22 f23 f24 f25 f26; have HB0 := Aside0.mk (below_then HB.out HB.out.size hb1); clear HB; have HB := HB0; clear HB0; have k3 := cells2 k0; have k4 := cells7 k1; have k5 := cells7 k2; obtain ⟨f00, f01⟩ := k3; obtain ⟨f10, f11, f12, f13, f14, f15, f16⟩ := k4; obtain ⟨f20, f21, f22, f23, f24, f25, f26⟩ := k5; have K0 := Aside0.mk k0; have K1 := Aside0.mk k1; have K2 := Aside0.mk k2; clear k0 k1 k2 hb1) | (go_at_call 96; (with_reducible refine (HW.out _ _).mono ?_); rintro e w1 ⟨rfl, hb1⟩; obtain ⟨hB, k0, k1, k2⟩ := start3 (w := w) hb1 rfl rfl rfl rfl; have HB := Aside0.mk hB; clear hB; have k3 := cells2 k0; have k4 := cells7 k1; have k5 := cells7 k2; obtain ⟨f00, f01⟩ := k3; obtain ⟨f10, f11, f12, f13, f14, f15, f16⟩ := k4; obtain ⟨f20, f21, f22, f23, f24, f25, f26⟩ := k5; have K0 := Aside0.mk k0; have K1 := Aside0.mk k1; have K2 := Aside0.mk k2; clear k0 k1 k2 hb1))
        go_ret
        exact ⟨rfl, HB.out⟩
      | true =>
        simp only [Bool.true_and]
        cases h3 : (N == 0) with
        | false =>
          simp only [Bool.false_and]
          go_enter Try.func68, Try.ntmps68
          go_wp2
          go_region
          go_wp2_with (first | (go_at_call 96; (with_reducible refine (HW.out _ _).mono ?_); rintro e w1 ⟨rfl, hb1⟩; have k0 := blk_below K0.out hb1; have k1 := blk_below K1.out hb1; have k2 := blk_below K2.out hb1; clear K0 K1 K2 f00 f01 f10 f11 f12 f13 f14 f15 f16 f20 f21 f22 f23 f24 f25 f26; have HB0 := Aside0.mk (below_then HB.out HB.out.size hb1); clear HB; have HB := HB0; clear HB0; have k3 := cells2 k0; have k4 := cells7 k1; have k5 := cells7 k2; obtain ⟨f00, f01⟩ := k3; obtain ⟨f10, f11, f12, f13, f14, f15, f16⟩ := k4; obtain ⟨f20, f21, f22, f23, f24, f25, f26⟩ := k5; have K0 := Aside0.mk k0; have K1 := Aside0.mk k1; have K2 := Aside0.mk k2; clear k0 k1 k2 hb1) | (go_at_call 96; (with_reducible refine (HW.out _ _).mono ?_); rintro e w1 ⟨rfl, hb1⟩; obtain ⟨hB, k0, k1, k2⟩ := start3 (w := w) hb1 rfl rfl rfl rfl; have HB := Aside0.mk hB; clear hB; have k3 := cells2 k0; have k4 := cells7 k1; have k5 := cells7 k2; obtain ⟨f00, f01⟩ := k3; obtain ⟨f10, f11, f12, f13, f14, f15, f16⟩ := k4; obtain ⟨f20, f21, f22, f23, f24, f25, f26⟩ := k5; have K0 := Aside0.mk k0; have K1 := Aside0.mk k1; have K2 := Aside0.mk k2; clear k0 k1 k2 hb1))
          go_ret
          exact ⟨rfl, HB.out⟩
        | true =>
          simp only [Bool.true_and]
          cases h4 : (M == 0) with
          | false =>
            simp only [Bool.false_and]
            go_enter Try.func68, Try.ntmps68
            go_wp2
            go_region
            go_wp2_with (first | (go_at_call 96; (with_reducible refine (HW.out _ _).mono ?_); rintro e w1 ⟨rfl, hb1⟩; have k0 := blk_below K0.out hb1; have k1 := blk_below K1.out hb1; have k2 := blk_below K2.out hb1; clear K0 K1 K2 f00 f01 f10 f11 f12 f13 f14 f15 f16 f20 f21 f22 f23 f24 f25 f26; have HB0 := Aside0.mk (below_then HB.out HB.out.size hb1); clear HB; have HB := HB0; clear HB0; have k3 := cells2 k0; have k4 := cells7 k1; have k5 := cells7 k2; obtain ⟨f00, f01⟩ := k3; obtain ⟨f10, f11, f12, f13, f14, f15, f16⟩ := k4; obtain ⟨f20, f21, f22, f23, f24, f25, f26⟩ := k5; have K0 := Aside0.mk k0; have K1 := Aside0.mk k1; have K2 := Aside0.mk k2; clear k0 k1 k2 hb1) | (go_at_call 96; (with_reducible refine (HW.out _ _).mono ?_); rintro e w1 ⟨rfl, hb1⟩; obtain ⟨hB, k0, k1, k2⟩ := start3 (w := w) hb1 rfl rfl rfl rfl; have HB := Aside0.mk hB; clear hB; have k3 := cells2 k0; have k4 := cells7 k1; have k5 := cells7 k2; obtain ⟨f00, f01⟩ := k3; obtain ⟨f10, f11, f12, f13, f14, f15, f16⟩ := k4; obtain ⟨f20, f21, f22, f23, f24, f25, f26⟩ := k5; have K0 := Aside0.mk k0; have K1 := Aside0.mk k1; have K2 := Aside0.mk k2; clear k0 k1 k2 hb1))
            go_ret
            exact ⟨rfl, HB.out⟩
          | true =>
            simp only [Bool.true_and]
            cases h5 : ((G.length : Int) == 0) with
            | false =>
              go_enter Try.func68, Try.ntmps68
              go_wp2
              go_region
              go_wp2_with (first | (go_at_call 96; (with_reducible refine (HW.out _ _).mono ?_); rintro e w1 ⟨rfl, hb1⟩; have k0 := blk_below K0.out hb1; have k1 := blk_below K1.out hb1; have k2 := blk_below K2.out hb1; clear K0 K1 K2 f00 f01 f10 f11 f12 f13 f14 f15 f16 f20 f21 f22 f23 f24 f25 f26; have HB0 := Aside0.mk (below_then HB.out HB.out.size hb1); clear HB; have HB := HB0; clear HB0; have k3 := cells2 k0; have k4 := cells7 k1; have k5 := cells7 k2; obtain ⟨f00, f01⟩ := k3; obtain ⟨f10, f11, f12, f13, f14, f15, f16⟩ := k4; obtain ⟨f20, f21, f22, f23, f24, f25, f26⟩ := k5; have K0 := Aside0.mk k0; have K1 := Aside0.mk k1; have K2 := Aside0.mk k2; clear k0 k1 k2 hb1) | (go_at_call 96; (with_reducible refine (HW.out _ _).mono ?_); rintro e w1 ⟨rfl, hb1⟩; obtain ⟨hB, k0, k1, k2⟩ := start3 (w := w) hb1 rfl rfl rfl rfl; have HB := Aside0.mk hB; clear hB; have k3 := cells2 k0; have k4 := cells7 k1; have k5 := cells7 k2; obtain ⟨f00, f01⟩ := k3; obtain ⟨f10, f11, f12, f13, f14, f15, f16⟩ := k4; obtain ⟨f20, f21, f22, f23, f24, f25, f26⟩ := k5; have K0 := Aside0.mk k0; have K1 := Aside0.mk k1; have K2 := Aside0.mk k2; clear k0 k1 k2 hb1))
              go_ret
              exact ⟨rfl, HB.out⟩
            | true =>
              go_enter Try.func68, Try.ntmps68
              go_wp2
              go_region
              go_wp2_with (first | (go_at_call 96; (with_reducible refine (HW.out _ _).mono ?_); rintro e w1 ⟨rfl, hb1⟩; have k0 := blk_below K0.out hb1; have k1 := blk_below K1.out hb1; have k2 := blk_below K2.out hb1; clear K0 K1 K2 f00 f01 f10 f11 f12 f13 f14 f15 f16 f20 f21 f22 f23 f24 f25 f26; have HB0 := Aside0.mk (below_then HB.out HB.out.size hb1); clear HB; have HB := HB0; clear HB0; have k3 := cells2 k0; have k4 := cells7 k1; have k5 := cells7 k2; obtain ⟨f00, f01⟩ := k3; obtain ⟨f10, f11, f12, f13, f14, f15, f16⟩ := k4; obtain ⟨f20, f21, f22, f23, f24, f25, f26⟩ := k5; have K0 := Aside0.mk k0; have K1 := Aside0.mk k1; have K2 := Aside0.mk k2; clear k0 k1 k2 hb1) | (go_at_call 96; (with_reducible refine (HW.out _ _).mono ?_); rintro e w1 ⟨rfl, hb1⟩; obtain ⟨hB, k0, k1, k2⟩ := start3 (w := w) hb1 rfl rfl rfl rfl; have HB := Aside0.mk hB; clear hB; have k3 := cells2 k0; have k4 := cells7 k1; have k5 := cells7 k2; obtain ⟨f00, f01⟩ := k3; obtain ⟨f10, f11, f12, f13, f14, f15, f16⟩ := k4; obtain ⟨f20, f21, f22, f23, f24, f25, f26⟩ := k5; have K0 := Aside0.mk k0; have K1 := Aside0.mk k1; have K2 := Aside0.mk k2; clear k0 k1 k2 hb1))
              go_ret
              exact ⟨rfl, HB.out⟩
set_option maxHeartbeats 16000000 in
set_option maxRecDepth 100000 in
theorem clue_k4 (W S A B N M : Int) (A5 : Option Addr) (c5 : Nat) (G : List Int) (nt : Bool) (w : World) (hl : okLock W S) (hr : Kd.C (Kd.int .i64) w A5 G.length G) (hc : G.length ≤ c5) :
    Calls Try.prog 68 #[.agg #[.int .i64 W, .int .i64 S], .agg #[.int .i64 4, .int .i64 A, .int .i64 B, .int .i64 N, .int .i64 M, .slice A5 G.length c5, .bool nt]] w fun e w' => e = .returned (.bool (inRange 0 (W - 1) A && (inRange 0 (W - 1) B && ((A != B) && ((N == 0) && ((M == 0) && ((G.length : Int) == 0))))))) ∧ Below w.heap.size w w' := by
  have hu36 := Try.underlying36
  have hu83 := Try.underlying83
  have HW := Aside0.mk fun x w0 => codes_lock_wheel.calls W S x _ w0 (wheel_eq W S x hl)
  have HS := Aside0.mk fun x w0 => codes_lock_symbol.calls W S x _ w0 (symbol_eq W S x hl)
  have HI := Aside0.mk fun x lo hi w0 => codes_within.calls x lo hi _ w0 (within_eq x lo hi)
  have HG : Aside0 (∀ w0, Below w.heap.size w w0 → _) := Aside0.mk fun w0 hb0 => codes_lock_code.calls W S A5 c5 G _ w0 (Kd.C_below hr hb0) hc (by unfold codes_lock_code.f; rw [if_pos hl])
  clear hl hr
  cases h0 : inRange 0 (W - 1) A with
  | false =>
    simp only [Bool.false_and]
    go_enter Try.func68, Try.ntmps68
    go_wp2
    go_region
    go_wp2_with (first | (go_at_call 96; (with_reducible refine (HW.out _ _).mono ?_); rintro e w1 ⟨rfl, hb1⟩; have k0 := blk_below K0.out hb1; have k1 := blk_below K1.out hb1; have k2 := blk_below K2.out hb1; clear K0 K1 K2 f00 f01 f10 f11 f12 f13 f14 f15 f16 f20 f21 f22 f23 f24 f25 f26; have HB0 := Aside0.mk (below_then HB.out HB.out.size hb1); clear HB; have HB := HB0; clear HB0; have k3 := cells2 k0; have k4 := cells7 k1; have k5 := cells7 k2; obtain ⟨f00, f01⟩ := k3; obtain ⟨f10, f11, f12, f13, f14, f15, f16⟩ := k4; obtain ⟨f20, f21, f22, f23, f24, f25, f26⟩ := k5; have K0 := Aside0.mk k0; have K1 := Aside0.mk k1; have K2 := Aside0.mk k2; clear k0 k1 k2 hb1) | (go_at_call 96; (with_reducible refine (HW.out _ _).mono ?_); rintro e w1 ⟨rfl, hb1⟩; obtain ⟨hB, k0, k1, k2⟩ := start3 (w := w) hb1 rfl rfl rfl rfl; have HB := Aside0.mk hB; clear hB; have k3 := cells2 k0; have k4 := cells7 k1; have k5 := cells7 k2; obtain ⟨f00, f01⟩ := k3; obtain ⟨f10, f11, f12, f13, f14, f15, f16⟩ := k4; obtain ⟨f20, f21, f22, f23, f24, f25, f26⟩ := k5; have K0 := Aside0.mk k0; have K1 := Aside0.mk k1; have K2 := Aside0.mk k2; clear k0 k1 k2 hb1))
    go_ret
    exact ⟨rfl, HB.out⟩
  | true =>
    simp only [Bool.true_and]
    cases h1 : inRange 0 (W - 1) B with
    | false =>
      simp only [Bool.false_and]
      go_enter Try.func68, Try.ntmps68
      go_wp2
      go_region
      go_wp2_with (first | (go_at_call 96; (with_reducible refine (HW.out _ _).mono ?_); rintro e w1 ⟨rfl, hb1⟩; have k0 := blk_below K0.out hb1; have k1 := blk_below K1.out hb1; have k2 := blk_below K2.out hb1; clear K0 K1 K2 f00 f01 f10 f11 f12 f13 f14 f15 f16 f20 f21 f22 f23 f24 f25 f26; have HB0 := Aside0.mk (below_then HB.out HB.out.size hb1); clear HB; have HB := HB0; clear HB0; have k3 := cells2 k0; have k4 := cells7 k1; have k5 := cells7 k2; obtain ⟨f00, f01⟩ := k3; obtain ⟨f10, f11, f12, f13, f14, f15, f16⟩ := k4; obtain ⟨f20, f21, f22, f23, f24, f25, f26⟩ := k5; have K0 := Aside0.mk k0; have K1 := Aside0.mk k1; have K2 := Aside0.mk k2; clear k0 k1 k2 hb1) | (go_at_call 96; (with_reducible refine (HW.out _ _).mono ?_); rintro e w1 ⟨rfl, hb1⟩; obtain ⟨hB, k0, k1, k2⟩ := start3 (w := w) hb1 rfl rfl rfl rfl; have HB := Aside0.mk hB; clear hB; have k3 := cells2 k0; have k4 := cells7 k1; have k5 := cells7 k2; obtain ⟨f00, f01⟩ := k3; obtain ⟨f10, f11, f12, f13, f14, f15, f16⟩ := k4; obtain ⟨f20, f21, f22, f23, f24, f25, f26⟩ := k5; have K0 := Aside0.mk k0; have K1 := Aside0.mk k1; have K2 := Aside0.mk k2; clear k0 k1 k2 hb1))
      go_ret
      exact ⟨rfl, HB.out⟩
    | true =>
      simp only [Bool.true_and]
      cases h2 : (A != B) with
      | false =>
        simp only [Bool.false_and]
        go_enter Try.func68, Try.ntmps68
        go_wp2
        go_region
        go_wp2_with (first | (go_at_call 96; (with_reducible refine (HW.out _ _).mono ?_); rintro e w1 ⟨rfl, hb1⟩; have k0 := blk_below K0.out hb1; have k1 := blk_below K1.out hb1; have k2 := blk_below K2.out hb1; clear K0 K1 K2 f00 f01 f10 f11 f12 f13 f14 f15 f16 f20 f21 f22 f23 f24 f25 f26; have HB0 := Aside0.mk (below_then HB.out HB.out.size hb1); clear HB; have HB := HB0; clear HB0; have k3 := cells2 k0; have k4 := cells7 k1; have k5 := cells7 k2; obtain ⟨f00, f01⟩ := k3; obtain ⟨f10, f11, f12, f13, f14, f15, f16⟩ := k4; obtain ⟨f20, f21, f22, f23, f24, f25, f26⟩ := k5; have K0 := Aside0.mk k0; have K1 := Aside0.mk k1; have K2 := Aside0.mk k2; clear k0 k1 k2 hb1) | (go_at_call 96; (with_reducible refine (HW.out _ _).mono ?_); rintro e w1 ⟨rfl, hb1⟩; obtain ⟨hB, k0, k1, k2⟩ := start3 (w := w) hb1 rfl rfl rfl rfl; have HB := Aside0.mk hB; clear hB; have k3 := cells2 k0; have k4 := cells7 k1; have k5 := cells7 k2; obtain ⟨f00, f01⟩ := k3; obtain ⟨f10, f11, f12, f13, f14, f15, f16⟩ := k4; obtain ⟨f20, f21, f22, f23, f24, f25, f26⟩ := k5; have K0 := Aside0.mk k0; have K1 := Aside0.mk k1; have K2 := Aside0.mk k2; clear k0 k1 k2 hb1))
        go_ret
        exact ⟨rfl, HB.out⟩
      | true =>
        simp only [Bool.true_and]
        cases h3 : (N == 0) with
        | false =>
          simp only [Bool.false_and]
          go_enter Try.func68, Try.ntmps68
          go_wp2
          go_region
          go_wp2_with (first | (go_at_call 96; (with_reducible refine (HW.out _ _).mono ?_); rintro e w1 ⟨rfl, hb1⟩; have k0 := blk_below K0.out hb1; have k1 := blk_below K1.out hb1; have k2 := blk_below K2.out hb1; clear K0 K1 K2 f00 f01 f10 f11 f12 f13 f14 f15 f16 f20 f21 f22 f23 f24 f25 f26; have HB0 := Aside0.mk (below_then HB.out HB.out.size hb1); clear HB; have HB := HB0; clear HB0; have k3 := cells2 k0; have k4 := cells7 k1; have k5 := cells7 k2; obtain ⟨f00, f01⟩ := k3; obtain ⟨f10, f11, f12, f13, f14, f15, f16⟩ := k4; obtain ⟨f20, f21, f22, f23, f24, f25, f26⟩ := k5; have K0 := Aside0.mk k0; have K1 := Aside0.mk k1; have K2 := Aside0.mk k2; clear k0 k1 k2 hb1) | (go_at_call 96; (with_reducible refine (HW.out _ _).mono ?_); rintro e w1 ⟨rfl, hb1⟩; obtain ⟨hB, k0, k1, k2⟩ := start3 (w := w) hb1 rfl rfl rfl rfl; have HB := Aside0.mk hB; clear hB; have k3 := cells2 k0; have k4 := cells7 k1; have k5 := cells7 k2; obtain ⟨f00, f01⟩ := k3; obtain ⟨f10, f11, f12, f13, f14, f15, f16⟩ := k4; obtain ⟨f20, f21, f22, f23, f24, f25, f26⟩ := k5; have K0 := Aside0.mk k0; have K1 := Aside0.mk k1; have K2 := Aside0.mk k2; clear k0 k1 k2 hb1))
          go_ret
          exact ⟨rfl, HB.out⟩
        | true =>
          simp only [Bool.true_and]
          cases h4 : (M == 0) with
          | false =>
            simp only [Bool.false_and]
            go_enter Try.func68, Try.ntmps68
            go_wp2
            go_region
            go_wp2_with (first | (go_at_call 96; (with_reducible refine (HW.out _ _).mono ?_); rintro e w1 ⟨rfl, hb1⟩; have k0 := blk_below K0.out hb1; have k1 := blk_below K1.out hb1; have k2 := blk_below K2.out hb1; clear K0 K1 K2 f00 f01 f10 f11 f12 f13 f14 f15 f16 f20 f21 f22 f23 f24 f25 f26; have HB0 := Aside0.mk (below_then HB.out HB.out.size hb1); clear HB; have HB := HB0; clear HB0; have k3 := cells2 k0; have k4 := cells7 k1; have k5 := cells7 k2; obtain ⟨f00, f01⟩ := k3; obtain ⟨f10, f11, f12, f13, f14, f15, f16⟩ := k4; obtain ⟨f20, f21, f22, f23, f24, f25, f26⟩ := k5; have K0 := Aside0.mk k0; have K1 := Aside0.mk k1; have K2 := Aside0.mk k2; clear k0 k1 k2 hb1) | (go_at_call 96; (with_reducible refine (HW.out _ _).mono ?_); rintro e w1 ⟨rfl, hb1⟩; obtain ⟨hB, k0, k1, k2⟩ := start3 (w := w) hb1 rfl rfl rfl rfl; have HB := Aside0.mk hB; clear hB; have k3 := cells2 k0; have k4 := cells7 k1; have k5 := cells7 k2; obtain ⟨f00, f01⟩ := k3; obtain ⟨f10, f11, f12, f13, f14, f15, f16⟩ := k4; obtain ⟨f20, f21, f22, f23, f24, f25, f26⟩ := k5; have K0 := Aside0.mk k0; have K1 := Aside0.mk k1; have K2 := Aside0.mk k2; clear k0 k1 k2 hb1))
            go_ret
            exact ⟨rfl, HB.out⟩
          | true =>
            simp only [Bool.true_and]
            cases h5 : ((G.length : Int) == 0) with
            | false =>
              go_enter Try.func68, Try.ntmps68
              go_wp2
              go_region
              go_wp2_with (first | (go_at_call 96; (with_reducible refine (HW.out _ _).mono ?_); rintro e w1 ⟨rfl, hb1⟩; have k0 := blk_below K0.out hb1; have k1 := blk_below K1.out hb1; have k2 := blk_below K2.out hb1; clear K0 K1 K2 f00 f01 f10 f11 f12 f13 f14 f15 f16 f20 f21 f22 f23 f24 f25 f26; have HB0 := Aside0.mk (below_then HB.out HB.out.size hb1); clear HB; have HB := HB0; clear HB0; have k3 := cells2 k0; have k4 := cells7 k1; have k5 := cells7 k2; obtain ⟨f00, f01⟩ := k3; obtain ⟨f10, f11, f12, f13, f14, f15, f16⟩ := k4; obtain ⟨f20, f21, f22, f23, f24, f25, f26⟩ := k5; have K0 := Aside0.mk k0; have K1 := Aside0.mk k1; have K2 := Aside0.mk k2; clear k0 k1 k2 hb1) | (go_at_call 96; (with_reducible refine (HW.out _ _).mono ?_); rintro e w1 ⟨rfl, hb1⟩; obtain ⟨hB, k0, k1, k2⟩ := start3 (w := w) hb1 rfl rfl rfl rfl; have HB := Aside0.mk hB; clear hB; have k3 := cells2 k0; have k4 := cells7 k1; have k5 := cells7 k2; obtain ⟨f00, f01⟩ := k3; obtain ⟨f10, f11, f12, f13, f14, f15, f16⟩ := k4; obtain ⟨f20, f21, f22, f23, f24, f25, f26⟩ := k5; have K0 := Aside0.mk k0; have K1 := Aside0.mk k1; have K2 := Aside0.mk k2; clear k0 k1 k2 hb1))
              go_ret
              exact ⟨rfl, HB.out⟩
            | true =>
              go_enter Try.func68, Try.ntmps68
              go_wp2
              go_region
              go_wp2_with (first | (go_at_call 96; (with_reducible refine (HW.out _ _).mono ?_); rintro e w1 ⟨rfl, hb1⟩; have k0 := blk_below K0.out hb1; have k1 := blk_below K1.out hb1; have k2 := blk_below K2.out hb1; clear K0 K1 K2 f00 f01 f10 f11 f12 f13 f14 f15 f16 f20 f21 f22 f23 f24 f25 f26; have HB0 := Aside0.mk (below_then HB.out HB.out.size hb1); clear HB; have HB := HB0; clear HB0; have k3 := cells2 k0; have k4 := cells7 k1; have k5 := cells7 k2; obtain ⟨f00, f01⟩ := k3; obtain ⟨f10, f11, f12, f13, f14, f15, f16⟩ := k4; obtain ⟨f20, f21, f22, f23, f24, f25, f26⟩ := k5; have K0 := Aside0.mk k0; have K1 := Aside0.mk k1; have K2 := Aside0.mk k2; clear k0 k1 k2 hb1) | (go_at_call 96; (with_reducible refine (HW.out _ _).mono ?_); rintro e w1 ⟨rfl, hb1⟩; obtain ⟨hB, k0, k1, k2⟩ := start3 (w := w) hb1 rfl rfl rfl rfl; have HB := Aside0.mk hB; clear hB; have k3 := cells2 k0; have k4 := cells7 k1; have k5 := cells7 k2; obtain ⟨f00, f01⟩ := k3; obtain ⟨f10, f11, f12, f13, f14, f15, f16⟩ := k4; obtain ⟨f20, f21, f22, f23, f24, f25, f26⟩ := k5; have K0 := Aside0.mk k0; have K1 := Aside0.mk k1; have K2 := Aside0.mk k2; clear k0 k1 k2 hb1))
              go_ret
              exact ⟨rfl, HB.out⟩
set_option maxHeartbeats 16000000 in
set_option maxRecDepth 100000 in
theorem clue_k5 (W S A B N M : Int) (A5 : Option Addr) (c5 : Nat) (G : List Int) (nt : Bool) (w : World) (hl : okLock W S) (hr : Kd.C (Kd.int .i64) w A5 G.length G) (hc : G.length ≤ c5) :
    Calls Try.prog 68 #[.agg #[.int .i64 W, .int .i64 S], .agg #[.int .i64 5, .int .i64 A, .int .i64 B, .int .i64 N, .int .i64 M, .slice A5 G.length c5, .bool nt]] w fun e w' => e = .returned (.bool (inRange 0 (S - 1) N && (inRange 0 W M && ((A == 0) && ((B == 0) && ((G.length : Int) == 0)))))) ∧ Below w.heap.size w w' := by
  have hu36 := Try.underlying36
  have hu83 := Try.underlying83
  have HW := Aside0.mk fun x w0 => codes_lock_wheel.calls W S x _ w0 (wheel_eq W S x hl)
  have HS := Aside0.mk fun x w0 => codes_lock_symbol.calls W S x _ w0 (symbol_eq W S x hl)
  have HI := Aside0.mk fun x lo hi w0 => codes_within.calls x lo hi _ w0 (within_eq x lo hi)
  have HG : Aside0 (∀ w0, Below w.heap.size w w0 → _) := Aside0.mk fun w0 hb0 => codes_lock_code.calls W S A5 c5 G _ w0 (Kd.C_below hr hb0) hc (by unfold codes_lock_code.f; rw [if_pos hl])
  clear hl hr
  cases h0 : inRange 0 (S - 1) N with
  | false =>
    simp only [Bool.false_and]
    go_enter Try.func68, Try.ntmps68
    go_wp2
    go_region
    go_wp2_with (first | (go_at_call 97; (with_reducible refine (HS.out _ _).mono ?_); rintro e w1 ⟨rfl, hb1⟩; have k0 := blk_below K0.out hb1; have k1 := blk_below K1.out hb1; have k2 := blk_below K2.out hb1; clear K0 K1 K2 f00 f01 f10 f11 f12 f13 f14 f15 f16 f20 f21 f22 f23 f24 f25 f26; have HB0 := Aside0.mk (below_then HB.out HB.out.size hb1); clear HB; have HB := HB0; clear HB0; have k3 := cells2 k0; have k4 := cells7 k1; have k5 := cells7 k2; obtain ⟨f00, f01⟩ := k3; obtain ⟨f10, f11, f12, f13, f14, f15, f16⟩ := k4; obtain ⟨f20, f21, f22, f23, f24, f25, f26⟩ := k5; have K0 := Aside0.mk k0; have K1 := Aside0.mk k1; have K2 := Aside0.mk k2; clear k0 k1 k2 hb1) | (go_at_call 66; (with_reducible refine (HI.out _ _ _ _).mono ?_); rintro e w1 ⟨rfl, hb1⟩; replace hb1 := hb1.below; have k0 := blk_below K0.out hb1; have k1 := blk_below K1.out hb1; have k2 := blk_below K2.out hb1; clear K0 K1 K2 f00 f01 f10 f11 f12 f13 f14 f15 f16 f20 f21 f22 f23 f24 f25 f26; have HB0 := Aside0.mk (below_then HB.out HB.out.size hb1); clear HB; have HB := HB0; clear HB0; have k3 := cells2 k0; have k4 := cells7 k1; have k5 := cells7 k2; obtain ⟨f00, f01⟩ := k3; obtain ⟨f10, f11, f12, f13, f14, f15, f16⟩ := k4; obtain ⟨f20, f21, f22, f23, f24, f25, f26⟩ := k5; have K0 := Aside0.mk k0; have K1 := Aside0.mk k1; have K2 := Aside0.mk k2; clear k0 k1 k2 hb1) | (go_at_call 97; (with_reducible refine (HS.out _ _).mono ?_); rintro e w1 ⟨rfl, hb1⟩; obtain ⟨hB, k0, k1, k2⟩ := start3 (w := w) hb1 rfl rfl rfl rfl; have HB := Aside0.mk hB; clear hB; have k3 := cells2 k0; have k4 := cells7 k1; have k5 := cells7 k2; obtain ⟨f00, f01⟩ := k3; obtain ⟨f10, f11, f12, f13, f14, f15, f16⟩ := k4; obtain ⟨f20, f21, f22, f23, f24, f25, f26⟩ := k5; have K0 := Aside0.mk k0; have K1 := Aside0.mk k1; have K2 := Aside0.mk k2; clear k0 k1 k2 hb1) | (go_at_call 66; (with_reducible refine (HI.out _ _ _ _).mono ?_); rintro e w1 ⟨rfl, hb1⟩; replace hb1 := hb1.below; obtain ⟨hB, k0, k1, k2⟩ := start3 (w := w) hb1 rfl rfl rfl rfl; have HB := Aside0.mk hB; clear hB; have k3 := cells2 k0; have k4 := cells7 k1; have k5 := cells7 k2; obtain ⟨f00, f01⟩ := k3; obtain ⟨f10, f11, f12, f13, f14, f15, f16⟩ := k4; obtain ⟨f20, f21, f22, f23, f24, f25, f26⟩ := k5; have K0 := Aside0.mk k0; have K1 := Aside0.mk k1; have K2 := Aside0.mk k2; clear k0 k1 k2 hb1))
    go_ret
    exact ⟨rfl, HB.out⟩
  | true =>
    simp only [Bool.true_and]
    cases h1 : inRange 0 W M with
    | false =>
      simp only [Bool.false_and]
      go_enter Try.func68, Try.ntmps68
      go_wp2
      go_region
      go_wp2_with (first | (go_at_call 97; (with_reducible refine (HS.out _ _).mono ?_); rintro e w1 ⟨rfl, hb1⟩; have k0 := blk_below K0.out hb1; have k1 := blk_below K1.out hb1; have k2 := blk_below K2.out hb1; clear K0 K1 K2 f00 f01 f10 f11 f12 f13 f14 f15 f16 f20 f21 f22 f23 f24 f25 f26; have HB0 := Aside0.mk (below_then HB.out HB.out.size hb1); clear HB; have HB := HB0; clear HB0; have k3 := cells2 k0; have k4 := cells7 k1; have k5 := cells7 k2; obtain ⟨f00, f01⟩ := k3; obtain ⟨f10, f11, f12, f13, f14, f15, f16⟩ := k4; obtain ⟨f20, f21, f22, f23, f24, f25, f26⟩ := k5; have K0 := Aside0.mk k0; have K1 := Aside0.mk k1; have K2 := Aside0.mk k2; clear k0 k1 k2 hb1) | (go_at_call 66; (with_reducible refine (HI.out _ _ _ _).mono ?_); rintro e w1 ⟨rfl, hb1⟩; replace hb1 := hb1.below; have k0 := blk_below K0.out hb1; have k1 := blk_below K1.out hb1; have k2 := blk_below K2.out hb1; clear K0 K1 K2 f00 f01 f10 f11 f12 f13 f14 f15 f16 f20 f21 f22 f23 f24 f25 f26; have HB0 := Aside0.mk (below_then HB.out HB.out.size hb1); clear HB; have HB := HB0; clear HB0; have k3 := cells2 k0; have k4 := cells7 k1; have k5 := cells7 k2; obtain ⟨f00, f01⟩ := k3; obtain ⟨f10, f11, f12, f13, f14, f15, f16⟩ := k4; obtain ⟨f20, f21, f22, f23, f24, f25, f26⟩ := k5; have K0 := Aside0.mk k0; have K1 := Aside0.mk k1; have K2 := Aside0.mk k2; clear k0 k1 k2 hb1) | (go_at_call 97; (with_reducible refine (HS.out _ _).mono ?_); rintro e w1 ⟨rfl, hb1⟩; obtain ⟨hB, k0, k1, k2⟩ := start3 (w := w) hb1 rfl rfl rfl rfl; have HB := Aside0.mk hB; clear hB; have k3 := cells2 k0; have k4 := cells7 k1; have k5 := cells7 k2; obtain ⟨f00, f01⟩ := k3; obtain ⟨f10, f11, f12, f13, f14, f15, f16⟩ := k4; obtain ⟨f20, f21, f22, f23, f24, f25, f26⟩ := k5; have K0 := Aside0.mk k0; have K1 := Aside0.mk k1; have K2 := Aside0.mk k2; clear k0 k1 k2 hb1) | (go_at_call 66; (with_reducible refine (HI.out _ _ _ _).mono ?_); rintro e w1 ⟨rfl, hb1⟩; replace hb1 := hb1.below; obtain ⟨hB, k0, k1, k2⟩ := start3 (w := w) hb1 rfl rfl rfl rfl; have HB := Aside0.mk hB; clear hB; have k3 := cells2 k0; have k4 := cells7 k1; have k5 := cells7 k2; obtain ⟨f00, f01⟩ := k3; obtain ⟨f10, f11, f12, f13, f14, f15, f16⟩ := k4; obtain ⟨f20, f21, f22, f23, f24, f25, f26⟩ := k5; have K0 := Aside0.mk k0; have K1 := Aside0.mk k1; have K2 := Aside0.mk k2; clear k0 k1 k2 hb1))
      go_ret
      exact ⟨rfl, HB.out⟩
    | true =>
      simp only [Bool.true_and]
      cases h2 : (A == 0) with
      | false =>
        simp only [Bool.false_and]
        go_enter Try.func68, Try.ntmps68
        go_wp2
        go_region
        go_wp2_with (first | (go_at_call 97; (with_reducible refine (HS.out _ _).mono ?_); rintro e w1 ⟨rfl, hb1⟩; have k0 := blk_below K0.out hb1; have k1 := blk_below K1.out hb1; have k2 := blk_below K2.out hb1; clear K0 K1 K2 f00 f01 f10 f11 f12 f13 f14 f15 f16 f20 f21 f22 f23 f24 f25 f26; have HB0 := Aside0.mk (below_then HB.out HB.out.size hb1); clear HB; have HB := HB0; clear HB0; have k3 := cells2 k0; have k4 := cells7 k1; have k5 := cells7 k2; obtain ⟨f00, f01⟩ := k3; obtain ⟨f10, f11, f12, f13, f14, f15, f16⟩ := k4; obtain ⟨f20, f21, f22, f23, f24, f25, f26⟩ := k5; have K0 := Aside0.mk k0; have K1 := Aside0.mk k1; have K2 := Aside0.mk k2; clear k0 k1 k2 hb1) | (go_at_call 66; (with_reducible refine (HI.out _ _ _ _).mono ?_); rintro e w1 ⟨rfl, hb1⟩; replace hb1 := hb1.below; have k0 := blk_below K0.out hb1; have k1 := blk_below K1.out hb1; have k2 := blk_below K2.out hb1; clear K0 K1 K2 f00 f01 f10 f11 f12 f13 f14 f15 f16 f20 f21 f22 f23 f24 f25 f26; have HB0 := Aside0.mk (below_then HB.out HB.out.size hb1); clear HB; have HB := HB0; clear HB0; have k3 := cells2 k0; have k4 := cells7 k1; have k5 := cells7 k2; obtain ⟨f00, f01⟩ := k3; obtain ⟨f10, f11, f12, f13, f14, f15, f16⟩ := k4; obtain ⟨f20, f21, f22, f23, f24, f25, f26⟩ := k5; have K0 := Aside0.mk k0; have K1 := Aside0.mk k1; have K2 := Aside0.mk k2; clear k0 k1 k2 hb1) | (go_at_call 97; (with_reducible refine (HS.out _ _).mono ?_); rintro e w1 ⟨rfl, hb1⟩; obtain ⟨hB, k0, k1, k2⟩ := start3 (w := w) hb1 rfl rfl rfl rfl; have HB := Aside0.mk hB; clear hB; have k3 := cells2 k0; have k4 := cells7 k1; have k5 := cells7 k2; obtain ⟨f00, f01⟩ := k3; obtain ⟨f10, f11, f12, f13, f14, f15, f16⟩ := k4; obtain ⟨f20, f21, f22, f23, f24, f25, f26⟩ := k5; have K0 := Aside0.mk k0; have K1 := Aside0.mk k1; have K2 := Aside0.mk k2; clear k0 k1 k2 hb1) | (go_at_call 66; (with_reducible refine (HI.out _ _ _ _).mono ?_); rintro e w1 ⟨rfl, hb1⟩; replace hb1 := hb1.below; obtain ⟨hB, k0, k1, k2⟩ := start3 (w := w) hb1 rfl rfl rfl rfl; have HB := Aside0.mk hB; clear hB; have k3 := cells2 k0; have k4 := cells7 k1; have k5 := cells7 k2; obtain ⟨f00, f01⟩ := k3; obtain ⟨f10, f11, f12, f13, f14, f15, f16⟩ := k4; obtain ⟨f20, f21, f22, f23, f24, f25, f26⟩ := k5; have K0 := Aside0.mk k0; have K1 := Aside0.mk k1; have K2 := Aside0.mk k2; clear k0 k1 k2 hb1))
        go_ret
        exact ⟨rfl, HB.out⟩
      | true =>
        simp only [Bool.true_and]
        cases h3 : (B == 0) with
        | false =>
          simp only [Bool.false_and]
          go_enter Try.func68, Try.ntmps68
          go_wp2
          go_region
          go_wp2_with (first | (go_at_call 97; (with_reducible refine (HS.out _ _).mono ?_); rintro e w1 ⟨rfl, hb1⟩; have k0 := blk_below K0.out hb1; have k1 := blk_below K1.out hb1; have k2 := blk_below K2.out hb1; clear K0 K1 K2 f00 f01 f10 f11 f12 f13 f14 f15 f16 f20 f21 f22 f23 f24 f25 f26; have HB0 := Aside0.mk (below_then HB.out HB.out.size hb1); clear HB; have HB := HB0; clear HB0; have k3 := cells2 k0; have k4 := cells7 k1; have k5 := cells7 k2; obtain ⟨f00, f01⟩ := k3; obtain ⟨f10, f11, f12, f13, f14, f15, f16⟩ := k4; obtain ⟨f20, f21, f22, f23, f24, f25, f26⟩ := k5; have K0 := Aside0.mk k0; have K1 := Aside0.mk k1; have K2 := Aside0.mk k2; clear k0 k1 k2 hb1) | (go_at_call 66; (with_reducible refine (HI.out _ _ _ _).mono ?_); rintro e w1 ⟨rfl, hb1⟩; replace hb1 := hb1.below; have k0 := blk_below K0.out hb1; have k1 := blk_below K1.out hb1; have k2 := blk_below K2.out hb1; clear K0 K1 K2 f00 f01 f10 f11 f12 f13 f14 f15 f16 f20 f21 f22 f23 f24 f25 f26; have HB0 := Aside0.mk (below_then HB.out HB.out.size hb1); clear HB; have HB := HB0; clear HB0; have k3 := cells2 k0; have k4 := cells7 k1; have k5 := cells7 k2; obtain ⟨f00, f01⟩ := k3; obtain ⟨f10, f11, f12, f13, f14, f15, f16⟩ := k4; obtain ⟨f20, f21, f22, f23, f24, f25, f26⟩ := k5; have K0 := Aside0.mk k0; have K1 := Aside0.mk k1; have K2 := Aside0.mk k2; clear k0 k1 k2 hb1) | (go_at_call 97; (with_reducible refine (HS.out _ _).mono ?_); rintro e w1 ⟨rfl, hb1⟩; obtain ⟨hB, k0, k1, k2⟩ := start3 (w := w) hb1 rfl rfl rfl rfl; have HB := Aside0.mk hB; clear hB; have k3 := cells2 k0; have k4 := cells7 k1; have k5 := cells7 k2; obtain ⟨f00, f01⟩ := k3; obtain ⟨f10, f11, f12, f13, f14, f15, f16⟩ := k4; obtain ⟨f20, f21, f22, f23, f24, f25, f26⟩ := k5; have K0 := Aside0.mk k0; have K1 := Aside0.mk k1; have K2 := Aside0.mk k2; clear k0 k1 k2 hb1) | (go_at_call 66; (with_reducible refine (HI.out _ _ _ _).mono ?_); rintro e w1 ⟨rfl, hb1⟩; replace hb1 := hb1.below; obtain ⟨hB, k0, k1, k2⟩ := start3 (w := w) hb1 rfl rfl rfl rfl; have HB := Aside0.mk hB; clear hB; have k3 := cells2 k0; have k4 := cells7 k1; have k5 := cells7 k2; obtain ⟨f00, f01⟩ := k3; obtain ⟨f10, f11, f12, f13, f14, f15, f16⟩ := k4; obtain ⟨f20, f21, f22, f23, f24, f25, f26⟩ := k5; have K0 := Aside0.mk k0; have K1 := Aside0.mk k1; have K2 := Aside0.mk k2; clear k0 k1 k2 hb1))
          go_ret
          exact ⟨rfl, HB.out⟩
        | true =>
          simp only [Bool.true_and]
          cases h4 : ((G.length : Int) == 0) with
          | false =>
            go_enter Try.func68, Try.ntmps68
            go_wp2
            go_region
            go_wp2_with (first | (go_at_call 97; (with_reducible refine (HS.out _ _).mono ?_); rintro e w1 ⟨rfl, hb1⟩; have k0 := blk_below K0.out hb1; have k1 := blk_below K1.out hb1; have k2 := blk_below K2.out hb1; clear K0 K1 K2 f00 f01 f10 f11 f12 f13 f14 f15 f16 f20 f21 f22 f23 f24 f25 f26; have HB0 := Aside0.mk (below_then HB.out HB.out.size hb1); clear HB; have HB := HB0; clear HB0; have k3 := cells2 k0; have k4 := cells7 k1; have k5 := cells7 k2; obtain ⟨f00, f01⟩ := k3; obtain ⟨f10, f11, f12, f13, f14, f15, f16⟩ := k4; obtain ⟨f20, f21, f22, f23, f24, f25, f26⟩ := k5; have K0 := Aside0.mk k0; have K1 := Aside0.mk k1; have K2 := Aside0.mk k2; clear k0 k1 k2 hb1) | (go_at_call 66; (with_reducible refine (HI.out _ _ _ _).mono ?_); rintro e w1 ⟨rfl, hb1⟩; replace hb1 := hb1.below; have k0 := blk_below K0.out hb1; have k1 := blk_below K1.out hb1; have k2 := blk_below K2.out hb1; clear K0 K1 K2 f00 f01 f10 f11 f12 f13 f14 f15 f16 f20 f21 f22 f23 f24 f25 f26; have HB0 := Aside0.mk (below_then HB.out HB.out.size hb1); clear HB; have HB := HB0; clear HB0; have k3 := cells2 k0; have k4 := cells7 k1; have k5 := cells7 k2; obtain ⟨f00, f01⟩ := k3; obtain ⟨f10, f11, f12, f13, f14, f15, f16⟩ := k4; obtain ⟨f20, f21, f22, f23, f24, f25, f26⟩ := k5; have K0 := Aside0.mk k0; have K1 := Aside0.mk k1; have K2 := Aside0.mk k2; clear k0 k1 k2 hb1) | (go_at_call 97; (with_reducible refine (HS.out _ _).mono ?_); rintro e w1 ⟨rfl, hb1⟩; obtain ⟨hB, k0, k1, k2⟩ := start3 (w := w) hb1 rfl rfl rfl rfl; have HB := Aside0.mk hB; clear hB; have k3 := cells2 k0; have k4 := cells7 k1; have k5 := cells7 k2; obtain ⟨f00, f01⟩ := k3; obtain ⟨f10, f11, f12, f13, f14, f15, f16⟩ := k4; obtain ⟨f20, f21, f22, f23, f24, f25, f26⟩ := k5; have K0 := Aside0.mk k0; have K1 := Aside0.mk k1; have K2 := Aside0.mk k2; clear k0 k1 k2 hb1) | (go_at_call 66; (with_reducible refine (HI.out _ _ _ _).mono ?_); rintro e w1 ⟨rfl, hb1⟩; replace hb1 := hb1.below; obtain ⟨hB, k0, k1, k2⟩ := start3 (w := w) hb1 rfl rfl rfl rfl; have HB := Aside0.mk hB; clear hB; have k3 := cells2 k0; have k4 := cells7 k1; have k5 := cells7 k2; obtain ⟨f00, f01⟩ := k3; obtain ⟨f10, f11, f12, f13, f14, f15, f16⟩ := k4; obtain ⟨f20, f21, f22, f23, f24, f25, f26⟩ := k5; have K0 := Aside0.mk k0; have K1 := Aside0.mk k1; have K2 := Aside0.mk k2; clear k0 k1 k2 hb1))
            go_ret
            exact ⟨rfl, HB.out⟩
          | true =>
            go_enter Try.func68, Try.ntmps68
            go_wp2
            go_region
            go_wp2_with (first | (go_at_call 97; (with_reducible refine (HS.out _ _).mono ?_); rintro e w1 ⟨rfl, hb1⟩; have k0 := blk_below K0.out hb1; have k1 := blk_below K1.out hb1; have k2 := blk_below K2.out hb1; clear K0 K1 K2 f00 f01 f10 f11 f12 f13 f14 f15 f16 f20 f21 f22 f23 f24 f25 f26; have HB0 := Aside0.mk (below_then HB.out HB.out.size hb1); clear HB; have HB := HB0; clear HB0; have k3 := cells2 k0; have k4 := cells7 k1; have k5 := cells7 k2; obtain ⟨f00, f01⟩ := k3; obtain ⟨f10, f11, f12, f13, f14, f15, f16⟩ := k4; obtain ⟨f20, f21, f22, f23, f24, f25, f26⟩ := k5; have K0 := Aside0.mk k0; have K1 := Aside0.mk k1; have K2 := Aside0.mk k2; clear k0 k1 k2 hb1) | (go_at_call 66; (with_reducible refine (HI.out _ _ _ _).mono ?_); rintro e w1 ⟨rfl, hb1⟩; replace hb1 := hb1.below; have k0 := blk_below K0.out hb1; have k1 := blk_below K1.out hb1; have k2 := blk_below K2.out hb1; clear K0 K1 K2 f00 f01 f10 f11 f12 f13 f14 f15 f16 f20 f21 f22 f23 f24 f25 f26; have HB0 := Aside0.mk (below_then HB.out HB.out.size hb1); clear HB; have HB := HB0; clear HB0; have k3 := cells2 k0; have k4 := cells7 k1; have k5 := cells7 k2; obtain ⟨f00, f01⟩ := k3; obtain ⟨f10, f11, f12, f13, f14, f15, f16⟩ := k4; obtain ⟨f20, f21, f22, f23, f24, f25, f26⟩ := k5; have K0 := Aside0.mk k0; have K1 := Aside0.mk k1; have K2 := Aside0.mk k2; clear k0 k1 k2 hb1) | (go_at_call 97; (with_reducible refine (HS.out _ _).mono ?_); rintro e w1 ⟨rfl, hb1⟩; obtain ⟨hB, k0, k1, k2⟩ := start3 (w := w) hb1 rfl rfl rfl rfl; have HB := Aside0.mk hB; clear hB; have k3 := cells2 k0; have k4 := cells7 k1; have k5 := cells7 k2; obtain ⟨f00, f01⟩ := k3; obtain ⟨f10, f11, f12, f13, f14, f15, f16⟩ := k4; obtain ⟨f20, f21, f22, f23, f24, f25, f26⟩ := k5; have K0 := Aside0.mk k0; have K1 := Aside0.mk k1; have K2 := Aside0.mk k2; clear k0 k1 k2 hb1) | (go_at_call 66; (with_reducible refine (HI.out _ _ _ _).mono ?_); rintro e w1 ⟨rfl, hb1⟩; replace hb1 := hb1.below; obtain ⟨hB, k0, k1, k2⟩ := start3 (w := w) hb1 rfl rfl rfl rfl; have HB := Aside0.mk hB; clear hB; have k3 := cells2 k0; have k4 := cells7 k1; have k5 := cells7 k2; obtain ⟨f00, f01⟩ := k3; obtain ⟨f10, f11, f12, f13, f14, f15, f16⟩ := k4; obtain ⟨f20, f21, f22, f23, f24, f25, f26⟩ := k5; have K0 := Aside0.mk k0; have K1 := Aside0.mk k1; have K2 := Aside0.mk k2; clear k0 k1 k2 hb1))
            go_ret
            exact ⟨rfl, HB.out⟩
set_option maxHeartbeats 16000000 in
set_option maxRecDepth 100000 in
theorem clue_k6 (W S A B N M : Int) (A5 : Option Addr) (c5 : Nat) (G : List Int) (nt : Bool) (w : World) (hl : okLock W S) (hr : Kd.C (Kd.int .i64) w A5 G.length G) (hc : G.length ≤ c5) :
    Calls Try.prog 68 #[.agg #[.int .i64 W, .int .i64 S], .agg #[.int .i64 6, .int .i64 A, .int .i64 B, .int .i64 N, .int .i64 M, .slice A5 G.length c5, .bool nt]] w fun e w' => e = .returned (.bool (inRange 0 W N && (inRange 0 W M && (isCodeB W S G && ((A == 0) && (B == 0)))))) ∧ Below w.heap.size w w' := by
  have hu36 := Try.underlying36
  have hu83 := Try.underlying83
  have HW := Aside0.mk fun x w0 => codes_lock_wheel.calls W S x _ w0 (wheel_eq W S x hl)
  have HS := Aside0.mk fun x w0 => codes_lock_symbol.calls W S x _ w0 (symbol_eq W S x hl)
  have HI := Aside0.mk fun x lo hi w0 => codes_within.calls x lo hi _ w0 (within_eq x lo hi)
  have HG : Aside0 (∀ w0, Below w.heap.size w w0 → _) := Aside0.mk fun w0 hb0 => codes_lock_code.calls W S A5 c5 G _ w0 (Kd.C_below hr hb0) hc (by unfold codes_lock_code.f; rw [if_pos hl])
  clear hl hr
  cases h0 : inRange 0 W N with
  | false =>
    simp only [Bool.false_and]
    go_enter Try.func68, Try.ntmps68
    go_wp2
    go_region
    go_wp2_with (first | (go_at_call 66; (with_reducible refine (HI.out _ _ _ _).mono ?_); rintro e w1 ⟨rfl, hb1⟩; replace hb1 := hb1.below; have k0 := blk_below K0.out hb1; have k1 := blk_below K1.out hb1; have k2 := blk_below K2.out hb1; clear K0 K1 K2 f00 f01 f10 f11 f12 f13 f14 f15 f16 f20 f21 f22 f23 f24 f25 f26; have HB0 := Aside0.mk (below_then HB.out HB.out.size hb1); clear HB; have HB := HB0; clear HB0; have k3 := cells2 k0; have k4 := cells7 k1; have k5 := cells7 k2; obtain ⟨f00, f01⟩ := k3; obtain ⟨f10, f11, f12, f13, f14, f15, f16⟩ := k4; obtain ⟨f20, f21, f22, f23, f24, f25, f26⟩ := k5; have K0 := Aside0.mk k0; have K1 := Aside0.mk k1; have K2 := Aside0.mk k2; clear k0 k1 k2 hb1) | (go_at_call 90; (with_reducible refine (HG.out _ HB.out).mono ?_); rintro e w1 ⟨rfl, hb1⟩; have k0 := blk_below K0.out hb1; have k1 := blk_below K1.out hb1; have k2 := blk_below K2.out hb1; clear K0 K1 K2 f00 f01 f10 f11 f12 f13 f14 f15 f16 f20 f21 f22 f23 f24 f25 f26; have HB0 := Aside0.mk (below_then HB.out HB.out.size hb1); clear HB; have HB := HB0; clear HB0; have k3 := cells2 k0; have k4 := cells7 k1; have k5 := cells7 k2; obtain ⟨f00, f01⟩ := k3; obtain ⟨f10, f11, f12, f13, f14, f15, f16⟩ := k4; obtain ⟨f20, f21, f22, f23, f24, f25, f26⟩ := k5; have K0 := Aside0.mk k0; have K1 := Aside0.mk k1; have K2 := Aside0.mk k2; clear k0 k1 k2 hb1) | (go_at_call 66; (with_reducible refine (HI.out _ _ _ _).mono ?_); rintro e w1 ⟨rfl, hb1⟩; replace hb1 := hb1.below; obtain ⟨hB, k0, k1, k2⟩ := start3 (w := w) hb1 rfl rfl rfl rfl; have HB := Aside0.mk hB; clear hB; have k3 := cells2 k0; have k4 := cells7 k1; have k5 := cells7 k2; obtain ⟨f00, f01⟩ := k3; obtain ⟨f10, f11, f12, f13, f14, f15, f16⟩ := k4; obtain ⟨f20, f21, f22, f23, f24, f25, f26⟩ := k5; have K0 := Aside0.mk k0; have K1 := Aside0.mk k1; have K2 := Aside0.mk k2; clear k0 k1 k2 hb1) | (go_at_call 90; (with_reducible refine (HG.out _ HB.out).mono ?_); rintro e w1 ⟨rfl, hb1⟩; obtain ⟨hB, k0, k1, k2⟩ := start3 (w := w) hb1 rfl rfl rfl rfl; have HB := Aside0.mk hB; clear hB; have k3 := cells2 k0; have k4 := cells7 k1; have k5 := cells7 k2; obtain ⟨f00, f01⟩ := k3; obtain ⟨f10, f11, f12, f13, f14, f15, f16⟩ := k4; obtain ⟨f20, f21, f22, f23, f24, f25, f26⟩ := k5; have K0 := Aside0.mk k0; have K1 := Aside0.mk k1; have K2 := Aside0.mk k2; clear k0 k1 k2 hb1))
    go_ret
    exact ⟨rfl, HB.out⟩
  | true =>
    simp only [Bool.true_and]
    cases h1 : inRange 0 W M with
    | false =>
      simp only [Bool.false_and]
      go_enter Try.func68, Try.ntmps68
      go_wp2
      go_region
      go_wp2_with (first | (go_at_call 66; (with_reducible refine (HI.out _ _ _ _).mono ?_); rintro e w1 ⟨rfl, hb1⟩; replace hb1 := hb1.below; have k0 := blk_below K0.out hb1; have k1 := blk_below K1.out hb1; have k2 := blk_below K2.out hb1; clear K0 K1 K2 f00 f01 f10 f11 f12 f13 f14 f15 f16 f20 f21 f22 f23 f24 f25 f26; have HB0 := Aside0.mk (below_then HB.out HB.out.size hb1); clear HB; have HB := HB0; clear HB0; have k3 := cells2 k0; have k4 := cells7 k1; have k5 := cells7 k2; obtain ⟨f00, f01⟩ := k3; obtain ⟨f10, f11, f12, f13, f14, f15, f16⟩ := k4; obtain ⟨f20, f21, f22, f23, f24, f25, f26⟩ := k5; have K0 := Aside0.mk k0; have K1 := Aside0.mk k1; have K2 := Aside0.mk k2; clear k0 k1 k2 hb1) | (go_at_call 90; (with_reducible refine (HG.out _ HB.out).mono ?_); rintro e w1 ⟨rfl, hb1⟩; have k0 := blk_below K0.out hb1; have k1 := blk_below K1.out hb1; have k2 := blk_below K2.out hb1; clear K0 K1 K2 f00 f01 f10 f11 f12 f13 f14 f15 f16 f20 f21 f22 f23 f24 f25 f26; have HB0 := Aside0.mk (below_then HB.out HB.out.size hb1); clear HB; have HB := HB0; clear HB0; have k3 := cells2 k0; have k4 := cells7 k1; have k5 := cells7 k2; obtain ⟨f00, f01⟩ := k3; obtain ⟨f10, f11, f12, f13, f14, f15, f16⟩ := k4; obtain ⟨f20, f21, f22, f23, f24, f25, f26⟩ := k5; have K0 := Aside0.mk k0; have K1 := Aside0.mk k1; have K2 := Aside0.mk k2; clear k0 k1 k2 hb1) | (go_at_call 66; (with_reducible refine (HI.out _ _ _ _).mono ?_); rintro e w1 ⟨rfl, hb1⟩; replace hb1 := hb1.below; obtain ⟨hB, k0, k1, k2⟩ := start3 (w := w) hb1 rfl rfl rfl rfl; have HB := Aside0.mk hB; clear hB; have k3 := cells2 k0; have k4 := cells7 k1; have k5 := cells7 k2; obtain ⟨f00, f01⟩ := k3; obtain ⟨f10, f11, f12, f13, f14, f15, f16⟩ := k4; obtain ⟨f20, f21, f22, f23, f24, f25, f26⟩ := k5; have K0 := Aside0.mk k0; have K1 := Aside0.mk k1; have K2 := Aside0.mk k2; clear k0 k1 k2 hb1) | (go_at_call 90; (with_reducible refine (HG.out _ HB.out).mono ?_); rintro e w1 ⟨rfl, hb1⟩; obtain ⟨hB, k0, k1, k2⟩ := start3 (w := w) hb1 rfl rfl rfl rfl; have HB := Aside0.mk hB; clear hB; have k3 := cells2 k0; have k4 := cells7 k1; have k5 := cells7 k2; obtain ⟨f00, f01⟩ := k3; obtain ⟨f10, f11, f12, f13, f14, f15, f16⟩ := k4; obtain ⟨f20, f21, f22, f23, f24, f25, f26⟩ := k5; have K0 := Aside0.mk k0; have K1 := Aside0.mk k1; have K2 := Aside0.mk k2; clear k0 k1 k2 hb1))
      go_ret
      exact ⟨rfl, HB.out⟩
    | true =>
      simp only [Bool.true_and]
      cases h2 : isCodeB W S G with
      | false =>
        simp only [Bool.false_and]
        go_enter Try.func68, Try.ntmps68
        go_wp2
        go_region
        go_wp2_with (first | (go_at_call 66; (with_reducible refine (HI.out _ _ _ _).mono ?_); rintro e w1 ⟨rfl, hb1⟩; replace hb1 := hb1.below; have k0 := blk_below K0.out hb1; have k1 := blk_below K1.out hb1; have k2 := blk_below K2.out hb1; clear K0 K1 K2 f00 f01 f10 f11 f12 f13 f14 f15 f16 f20 f21 f22 f23 f24 f25 f26; have HB0 := Aside0.mk (below_then HB.out HB.out.size hb1); clear HB; have HB := HB0; clear HB0; have k3 := cells2 k0; have k4 := cells7 k1; have k5 := cells7 k2; obtain ⟨f00, f01⟩ := k3; obtain ⟨f10, f11, f12, f13, f14, f15, f16⟩ := k4; obtain ⟨f20, f21, f22, f23, f24, f25, f26⟩ := k5; have K0 := Aside0.mk k0; have K1 := Aside0.mk k1; have K2 := Aside0.mk k2; clear k0 k1 k2 hb1) | (go_at_call 90; (with_reducible refine (HG.out _ HB.out).mono ?_); rintro e w1 ⟨rfl, hb1⟩; have k0 := blk_below K0.out hb1; have k1 := blk_below K1.out hb1; have k2 := blk_below K2.out hb1; clear K0 K1 K2 f00 f01 f10 f11 f12 f13 f14 f15 f16 f20 f21 f22 f23 f24 f25 f26; have HB0 := Aside0.mk (below_then HB.out HB.out.size hb1); clear HB; have HB := HB0; clear HB0; have k3 := cells2 k0; have k4 := cells7 k1; have k5 := cells7 k2; obtain ⟨f00, f01⟩ := k3; obtain ⟨f10, f11, f12, f13, f14, f15, f16⟩ := k4; obtain ⟨f20, f21, f22, f23, f24, f25, f26⟩ := k5; have K0 := Aside0.mk k0; have K1 := Aside0.mk k1; have K2 := Aside0.mk k2; clear k0 k1 k2 hb1) | (go_at_call 66; (with_reducible refine (HI.out _ _ _ _).mono ?_); rintro e w1 ⟨rfl, hb1⟩; replace hb1 := hb1.below; obtain ⟨hB, k0, k1, k2⟩ := start3 (w := w) hb1 rfl rfl rfl rfl; have HB := Aside0.mk hB; clear hB; have k3 := cells2 k0; have k4 := cells7 k1; have k5 := cells7 k2; obtain ⟨f00, f01⟩ := k3; obtain ⟨f10, f11, f12, f13, f14, f15, f16⟩ := k4; obtain ⟨f20, f21, f22, f23, f24, f25, f26⟩ := k5; have K0 := Aside0.mk k0; have K1 := Aside0.mk k1; have K2 := Aside0.mk k2; clear k0 k1 k2 hb1) | (go_at_call 90; (with_reducible refine (HG.out _ HB.out).mono ?_); rintro e w1 ⟨rfl, hb1⟩; obtain ⟨hB, k0, k1, k2⟩ := start3 (w := w) hb1 rfl rfl rfl rfl; have HB := Aside0.mk hB; clear hB; have k3 := cells2 k0; have k4 := cells7 k1; have k5 := cells7 k2; obtain ⟨f00, f01⟩ := k3; obtain ⟨f10, f11, f12, f13, f14, f15, f16⟩ := k4; obtain ⟨f20, f21, f22, f23, f24, f25, f26⟩ := k5; have K0 := Aside0.mk k0; have K1 := Aside0.mk k1; have K2 := Aside0.mk k2; clear k0 k1 k2 hb1))
        go_ret
        exact ⟨rfl, HB.out⟩
      | true =>
        simp only [Bool.true_and]
        cases h3 : (A == 0) with
        | false =>
          simp only [Bool.false_and]
          go_enter Try.func68, Try.ntmps68
          go_wp2
          go_region
          go_wp2_with (first | (go_at_call 66; (with_reducible refine (HI.out _ _ _ _).mono ?_); rintro e w1 ⟨rfl, hb1⟩; replace hb1 := hb1.below; have k0 := blk_below K0.out hb1; have k1 := blk_below K1.out hb1; have k2 := blk_below K2.out hb1; clear K0 K1 K2 f00 f01 f10 f11 f12 f13 f14 f15 f16 f20 f21 f22 f23 f24 f25 f26; have HB0 := Aside0.mk (below_then HB.out HB.out.size hb1); clear HB; have HB := HB0; clear HB0; have k3 := cells2 k0; have k4 := cells7 k1; have k5 := cells7 k2; obtain ⟨f00, f01⟩ := k3; obtain ⟨f10, f11, f12, f13, f14, f15, f16⟩ := k4; obtain ⟨f20, f21, f22, f23, f24, f25, f26⟩ := k5; have K0 := Aside0.mk k0; have K1 := Aside0.mk k1; have K2 := Aside0.mk k2; clear k0 k1 k2 hb1) | (go_at_call 90; (with_reducible refine (HG.out _ HB.out).mono ?_); rintro e w1 ⟨rfl, hb1⟩; have k0 := blk_below K0.out hb1; have k1 := blk_below K1.out hb1; have k2 := blk_below K2.out hb1; clear K0 K1 K2 f00 f01 f10 f11 f12 f13 f14 f15 f16 f20 f21 f22 f23 f24 f25 f26; have HB0 := Aside0.mk (below_then HB.out HB.out.size hb1); clear HB; have HB := HB0; clear HB0; have k3 := cells2 k0; have k4 := cells7 k1; have k5 := cells7 k2; obtain ⟨f00, f01⟩ := k3; obtain ⟨f10, f11, f12, f13, f14, f15, f16⟩ := k4; obtain ⟨f20, f21, f22, f23, f24, f25, f26⟩ := k5; have K0 := Aside0.mk k0; have K1 := Aside0.mk k1; have K2 := Aside0.mk k2; clear k0 k1 k2 hb1) | (go_at_call 66; (with_reducible refine (HI.out _ _ _ _).mono ?_); rintro e w1 ⟨rfl, hb1⟩; replace hb1 := hb1.below; obtain ⟨hB, k0, k1, k2⟩ := start3 (w := w) hb1 rfl rfl rfl rfl; have HB := Aside0.mk hB; clear hB; have k3 := cells2 k0; have k4 := cells7 k1; have k5 := cells7 k2; obtain ⟨f00, f01⟩ := k3; obtain ⟨f10, f11, f12, f13, f14, f15, f16⟩ := k4; obtain ⟨f20, f21, f22, f23, f24, f25, f26⟩ := k5; have K0 := Aside0.mk k0; have K1 := Aside0.mk k1; have K2 := Aside0.mk k2; clear k0 k1 k2 hb1) | (go_at_call 90; (with_reducible refine (HG.out _ HB.out).mono ?_); rintro e w1 ⟨rfl, hb1⟩; obtain ⟨hB, k0, k1, k2⟩ := start3 (w := w) hb1 rfl rfl rfl rfl; have HB := Aside0.mk hB; clear hB; have k3 := cells2 k0; have k4 := cells7 k1; have k5 := cells7 k2; obtain ⟨f00, f01⟩ := k3; obtain ⟨f10, f11, f12, f13, f14, f15, f16⟩ := k4; obtain ⟨f20, f21, f22, f23, f24, f25, f26⟩ := k5; have K0 := Aside0.mk k0; have K1 := Aside0.mk k1; have K2 := Aside0.mk k2; clear k0 k1 k2 hb1))
          go_ret
          exact ⟨rfl, HB.out⟩
        | true =>
          simp only [Bool.true_and]
          cases h4 : (B == 0) with
          | false =>
            go_enter Try.func68, Try.ntmps68
            go_wp2
            go_region
            go_wp2_with (first | (go_at_call 66; (with_reducible refine (HI.out _ _ _ _).mono ?_); rintro e w1 ⟨rfl, hb1⟩; replace hb1 := hb1.below; have k0 := blk_below K0.out hb1; have k1 := blk_below K1.out hb1; have k2 := blk_below K2.out hb1; clear K0 K1 K2 f00 f01 f10 f11 f12 f13 f14 f15 f16 f20 f21 f22 f23 f24 f25 f26; have HB0 := Aside0.mk (below_then HB.out HB.out.size hb1); clear HB; have HB := HB0; clear HB0; have k3 := cells2 k0; have k4 := cells7 k1; have k5 := cells7 k2; obtain ⟨f00, f01⟩ := k3; obtain ⟨f10, f11, f12, f13, f14, f15, f16⟩ := k4; obtain ⟨f20, f21, f22, f23, f24, f25, f26⟩ := k5; have K0 := Aside0.mk k0; have K1 := Aside0.mk k1; have K2 := Aside0.mk k2; clear k0 k1 k2 hb1) | (go_at_call 90; (with_reducible refine (HG.out _ HB.out).mono ?_); rintro e w1 ⟨rfl, hb1⟩; have k0 := blk_below K0.out hb1; have k1 := blk_below K1.out hb1; have k2 := blk_below K2.out hb1; clear K0 K1 K2 f00 f01 f10 f11 f12 f13 f14 f15 f16 f20 f21 f22 f23 f24 f25 f26; have HB0 := Aside0.mk (below_then HB.out HB.out.size hb1); clear HB; have HB := HB0; clear HB0; have k3 := cells2 k0; have k4 := cells7 k1; have k5 := cells7 k2; obtain ⟨f00, f01⟩ := k3; obtain ⟨f10, f11, f12, f13, f14, f15, f16⟩ := k4; obtain ⟨f20, f21, f22, f23, f24, f25, f26⟩ := k5; have K0 := Aside0.mk k0; have K1 := Aside0.mk k1; have K2 := Aside0.mk k2; clear k0 k1 k2 hb1) | (go_at_call 66; (with_reducible refine (HI.out _ _ _ _).mono ?_); rintro e w1 ⟨rfl, hb1⟩; replace hb1 := hb1.below; obtain ⟨hB, k0, k1, k2⟩ := start3 (w := w) hb1 rfl rfl rfl rfl; have HB := Aside0.mk hB; clear hB; have k3 := cells2 k0; have k4 := cells7 k1; have k5 := cells7 k2; obtain ⟨f00, f01⟩ := k3; obtain ⟨f10, f11, f12, f13, f14, f15, f16⟩ := k4; obtain ⟨f20, f21, f22, f23, f24, f25, f26⟩ := k5; have K0 := Aside0.mk k0; have K1 := Aside0.mk k1; have K2 := Aside0.mk k2; clear k0 k1 k2 hb1) | (go_at_call 90; (with_reducible refine (HG.out _ HB.out).mono ?_); rintro e w1 ⟨rfl, hb1⟩; obtain ⟨hB, k0, k1, k2⟩ := start3 (w := w) hb1 rfl rfl rfl rfl; have HB := Aside0.mk hB; clear hB; have k3 := cells2 k0; have k4 := cells7 k1; have k5 := cells7 k2; obtain ⟨f00, f01⟩ := k3; obtain ⟨f10, f11, f12, f13, f14, f15, f16⟩ := k4; obtain ⟨f20, f21, f22, f23, f24, f25, f26⟩ := k5; have K0 := Aside0.mk k0; have K1 := Aside0.mk k1; have K2 := Aside0.mk k2; clear k0 k1 k2 hb1))
            go_ret
            exact ⟨rfl, HB.out⟩
          | true =>
            go_enter Try.func68, Try.ntmps68
            go_wp2
            go_region
            go_wp2_with (first | (go_at_call 66; (with_reducible refine (HI.out _ _ _ _).mono ?_); rintro e w1 ⟨rfl, hb1⟩; replace hb1 := hb1.below; have k0 := blk_below K0.out hb1; have k1 := blk_below K1.out hb1; have k2 := blk_below K2.out hb1; clear K0 K1 K2 f00 f01 f10 f11 f12 f13 f14 f15 f16 f20 f21 f22 f23 f24 f25 f26; have HB0 := Aside0.mk (below_then HB.out HB.out.size hb1); clear HB; have HB := HB0; clear HB0; have k3 := cells2 k0; have k4 := cells7 k1; have k5 := cells7 k2; obtain ⟨f00, f01⟩ := k3; obtain ⟨f10, f11, f12, f13, f14, f15, f16⟩ := k4; obtain ⟨f20, f21, f22, f23, f24, f25, f26⟩ := k5; have K0 := Aside0.mk k0; have K1 := Aside0.mk k1; have K2 := Aside0.mk k2; clear k0 k1 k2 hb1) | (go_at_call 90; (with_reducible refine (HG.out _ HB.out).mono ?_); rintro e w1 ⟨rfl, hb1⟩; have k0 := blk_below K0.out hb1; have k1 := blk_below K1.out hb1; have k2 := blk_below K2.out hb1; clear K0 K1 K2 f00 f01 f10 f11 f12 f13 f14 f15 f16 f20 f21 f22 f23 f24 f25 f26; have HB0 := Aside0.mk (below_then HB.out HB.out.size hb1); clear HB; have HB := HB0; clear HB0; have k3 := cells2 k0; have k4 := cells7 k1; have k5 := cells7 k2; obtain ⟨f00, f01⟩ := k3; obtain ⟨f10, f11, f12, f13, f14, f15, f16⟩ := k4; obtain ⟨f20, f21, f22, f23, f24, f25, f26⟩ := k5; have K0 := Aside0.mk k0; have K1 := Aside0.mk k1; have K2 := Aside0.mk k2; clear k0 k1 k2 hb1) | (go_at_call 66; (with_reducible refine (HI.out _ _ _ _).mono ?_); rintro e w1 ⟨rfl, hb1⟩; replace hb1 := hb1.below; obtain ⟨hB, k0, k1, k2⟩ := start3 (w := w) hb1 rfl rfl rfl rfl; have HB := Aside0.mk hB; clear hB; have k3 := cells2 k0; have k4 := cells7 k1; have k5 := cells7 k2; obtain ⟨f00, f01⟩ := k3; obtain ⟨f10, f11, f12, f13, f14, f15, f16⟩ := k4; obtain ⟨f20, f21, f22, f23, f24, f25, f26⟩ := k5; have K0 := Aside0.mk k0; have K1 := Aside0.mk k1; have K2 := Aside0.mk k2; clear k0 k1 k2 hb1) | (go_at_call 90; (with_reducible refine (HG.out _ HB.out).mono ?_); rintro e w1 ⟨rfl, hb1⟩; obtain ⟨hB, k0, k1, k2⟩ := start3 (w := w) hb1 rfl rfl rfl rfl; have HB := Aside0.mk hB; clear hB; have k3 := cells2 k0; have k4 := cells7 k1; have k5 := cells7 k2; obtain ⟨f00, f01⟩ := k3; obtain ⟨f10, f11, f12, f13, f14, f15, f16⟩ := k4; obtain ⟨f20, f21, f22, f23, f24, f25, f26⟩ := k5; have K0 := Aside0.mk k0; have K1 := Aside0.mk k1; have K2 := Aside0.mk k2; clear k0 k1 k2 hb1))
            go_ret
            exact ⟨rfl, HB.out⟩
set_option maxHeartbeats 16000000 in
set_option maxRecDepth 100000 in
theorem clue_k7 (W S A B N M : Int) (A5 : Option Addr) (c5 : Nat) (G : List Int) (nt : Bool) (w : World) (hl : okLock W S) (hr : Kd.C (Kd.int .i64) w A5 G.length G) (hc : G.length ≤ c5) :
    Calls Try.prog 68 #[.agg #[.int .i64 W, .int .i64 S], .agg #[.int .i64 7, .int .i64 A, .int .i64 B, .int .i64 N, .int .i64 M, .slice A5 G.length c5, .bool nt]] w fun e w' => e = .returned (.bool (inRange 0 (W - 1) A && (inRange 2 10 N && (inRange 0 (N - 1) M && ((B == 0) && ((G.length : Int) == 0)))))) ∧ Below w.heap.size w w' := by
  have hu36 := Try.underlying36
  have hu83 := Try.underlying83
  have HW := Aside0.mk fun x w0 => codes_lock_wheel.calls W S x _ w0 (wheel_eq W S x hl)
  have HS := Aside0.mk fun x w0 => codes_lock_symbol.calls W S x _ w0 (symbol_eq W S x hl)
  have HI := Aside0.mk fun x lo hi w0 => codes_within.calls x lo hi _ w0 (within_eq x lo hi)
  have HG : Aside0 (∀ w0, Below w.heap.size w w0 → _) := Aside0.mk fun w0 hb0 => codes_lock_code.calls W S A5 c5 G _ w0 (Kd.C_below hr hb0) hc (by unfold codes_lock_code.f; rw [if_pos hl])
  clear hl hr
  cases h0 : inRange 0 (W - 1) A with
  | false =>
    simp only [Bool.false_and]
    go_enter Try.func68, Try.ntmps68
    go_wp2
    go_region
    go_wp2_with (first | (go_at_call 96; (with_reducible refine (HW.out _ _).mono ?_); rintro e w1 ⟨rfl, hb1⟩; have k0 := blk_below K0.out hb1; have k1 := blk_below K1.out hb1; have k2 := blk_below K2.out hb1; clear K0 K1 K2 f00 f01 f10 f11 f12 f13 f14 f15 f16 f20 f21 f22 f23 f24 f25 f26; have HB0 := Aside0.mk (below_then HB.out HB.out.size hb1); clear HB; have HB := HB0; clear HB0; have k3 := cells2 k0; have k4 := cells7 k1; have k5 := cells7 k2; obtain ⟨f00, f01⟩ := k3; obtain ⟨f10, f11, f12, f13, f14, f15, f16⟩ := k4; obtain ⟨f20, f21, f22, f23, f24, f25, f26⟩ := k5; have K0 := Aside0.mk k0; have K1 := Aside0.mk k1; have K2 := Aside0.mk k2; clear k0 k1 k2 hb1) | (go_at_call 66; (with_reducible refine (HI.out _ _ _ _).mono ?_); rintro e w1 ⟨rfl, hb1⟩; replace hb1 := hb1.below; have k0 := blk_below K0.out hb1; have k1 := blk_below K1.out hb1; have k2 := blk_below K2.out hb1; clear K0 K1 K2 f00 f01 f10 f11 f12 f13 f14 f15 f16 f20 f21 f22 f23 f24 f25 f26; have HB0 := Aside0.mk (below_then HB.out HB.out.size hb1); clear HB; have HB := HB0; clear HB0; have k3 := cells2 k0; have k4 := cells7 k1; have k5 := cells7 k2; obtain ⟨f00, f01⟩ := k3; obtain ⟨f10, f11, f12, f13, f14, f15, f16⟩ := k4; obtain ⟨f20, f21, f22, f23, f24, f25, f26⟩ := k5; have K0 := Aside0.mk k0; have K1 := Aside0.mk k1; have K2 := Aside0.mk k2; clear k0 k1 k2 hb1) | (go_at_call 96; (with_reducible refine (HW.out _ _).mono ?_); rintro e w1 ⟨rfl, hb1⟩; obtain ⟨hB, k0, k1, k2⟩ := start3 (w := w) hb1 rfl rfl rfl rfl; have HB := Aside0.mk hB; clear hB; have k3 := cells2 k0; have k4 := cells7 k1; have k5 := cells7 k2; obtain ⟨f00, f01⟩ := k3; obtain ⟨f10, f11, f12, f13, f14, f15, f16⟩ := k4; obtain ⟨f20, f21, f22, f23, f24, f25, f26⟩ := k5; have K0 := Aside0.mk k0; have K1 := Aside0.mk k1; have K2 := Aside0.mk k2; clear k0 k1 k2 hb1) | (go_at_call 66; (with_reducible refine (HI.out _ _ _ _).mono ?_); rintro e w1 ⟨rfl, hb1⟩; replace hb1 := hb1.below; obtain ⟨hB, k0, k1, k2⟩ := start3 (w := w) hb1 rfl rfl rfl rfl; have HB := Aside0.mk hB; clear hB; have k3 := cells2 k0; have k4 := cells7 k1; have k5 := cells7 k2; obtain ⟨f00, f01⟩ := k3; obtain ⟨f10, f11, f12, f13, f14, f15, f16⟩ := k4; obtain ⟨f20, f21, f22, f23, f24, f25, f26⟩ := k5; have K0 := Aside0.mk k0; have K1 := Aside0.mk k1; have K2 := Aside0.mk k2; clear k0 k1 k2 hb1))
    go_ret
    exact ⟨rfl, HB.out⟩
  | true =>
    simp only [Bool.true_and]
    cases h1 : inRange 2 10 N with
    | false =>
      simp only [Bool.false_and]
      go_enter Try.func68, Try.ntmps68
      go_wp2
      go_region
      go_wp2_with (first | (go_at_call 96; (with_reducible refine (HW.out _ _).mono ?_); rintro e w1 ⟨rfl, hb1⟩; have k0 := blk_below K0.out hb1; have k1 := blk_below K1.out hb1; have k2 := blk_below K2.out hb1; clear K0 K1 K2 f00 f01 f10 f11 f12 f13 f14 f15 f16 f20 f21 f22 f23 f24 f25 f26; have HB0 := Aside0.mk (below_then HB.out HB.out.size hb1); clear HB; have HB := HB0; clear HB0; have k3 := cells2 k0; have k4 := cells7 k1; have k5 := cells7 k2; obtain ⟨f00, f01⟩ := k3; obtain ⟨f10, f11, f12, f13, f14, f15, f16⟩ := k4; obtain ⟨f20, f21, f22, f23, f24, f25, f26⟩ := k5; have K0 := Aside0.mk k0; have K1 := Aside0.mk k1; have K2 := Aside0.mk k2; clear k0 k1 k2 hb1) | (go_at_call 66; (with_reducible refine (HI.out _ _ _ _).mono ?_); rintro e w1 ⟨rfl, hb1⟩; replace hb1 := hb1.below; have k0 := blk_below K0.out hb1; have k1 := blk_below K1.out hb1; have k2 := blk_below K2.out hb1; clear K0 K1 K2 f00 f01 f10 f11 f12 f13 f14 f15 f16 f20 f21 f22 f23 f24 f25 f26; have HB0 := Aside0.mk (below_then HB.out HB.out.size hb1); clear HB; have HB := HB0; clear HB0; have k3 := cells2 k0; have k4 := cells7 k1; have k5 := cells7 k2; obtain ⟨f00, f01⟩ := k3; obtain ⟨f10, f11, f12, f13, f14, f15, f16⟩ := k4; obtain ⟨f20, f21, f22, f23, f24, f25, f26⟩ := k5; have K0 := Aside0.mk k0; have K1 := Aside0.mk k1; have K2 := Aside0.mk k2; clear k0 k1 k2 hb1) | (go_at_call 96; (with_reducible refine (HW.out _ _).mono ?_); rintro e w1 ⟨rfl, hb1⟩; obtain ⟨hB, k0, k1, k2⟩ := start3 (w := w) hb1 rfl rfl rfl rfl; have HB := Aside0.mk hB; clear hB; have k3 := cells2 k0; have k4 := cells7 k1; have k5 := cells7 k2; obtain ⟨f00, f01⟩ := k3; obtain ⟨f10, f11, f12, f13, f14, f15, f16⟩ := k4; obtain ⟨f20, f21, f22, f23, f24, f25, f26⟩ := k5; have K0 := Aside0.mk k0; have K1 := Aside0.mk k1; have K2 := Aside0.mk k2; clear k0 k1 k2 hb1) | (go_at_call 66; (with_reducible refine (HI.out _ _ _ _).mono ?_); rintro e w1 ⟨rfl, hb1⟩; replace hb1 := hb1.below; obtain ⟨hB, k0, k1, k2⟩ := start3 (w := w) hb1 rfl rfl rfl rfl; have HB := Aside0.mk hB; clear hB; have k3 := cells2 k0; have k4 := cells7 k1; have k5 := cells7 k2; obtain ⟨f00, f01⟩ := k3; obtain ⟨f10, f11, f12, f13, f14, f15, f16⟩ := k4; obtain ⟨f20, f21, f22, f23, f24, f25, f26⟩ := k5; have K0 := Aside0.mk k0; have K1 := Aside0.mk k1; have K2 := Aside0.mk k2; clear k0 k1 k2 hb1))
      go_ret
      exact ⟨rfl, HB.out⟩
    | true =>
      simp only [Bool.true_and]
      have hN := inRange_iff.1 h1
      have hN1 := hN.1
      have hN2 := hN.2
      clear hN
      cases h2 : inRange 0 (N - 1) M with
      | false =>
        simp only [Bool.false_and]
        go_enter Try.func68, Try.ntmps68
        go_wp2
        go_region
        go_wp2_with (first | (go_at_call 96; (with_reducible refine (HW.out _ _).mono ?_); rintro e w1 ⟨rfl, hb1⟩; have k0 := blk_below K0.out hb1; have k1 := blk_below K1.out hb1; have k2 := blk_below K2.out hb1; clear K0 K1 K2 f00 f01 f10 f11 f12 f13 f14 f15 f16 f20 f21 f22 f23 f24 f25 f26; have HB0 := Aside0.mk (below_then HB.out HB.out.size hb1); clear HB; have HB := HB0; clear HB0; have k3 := cells2 k0; have k4 := cells7 k1; have k5 := cells7 k2; obtain ⟨f00, f01⟩ := k3; obtain ⟨f10, f11, f12, f13, f14, f15, f16⟩ := k4; obtain ⟨f20, f21, f22, f23, f24, f25, f26⟩ := k5; have K0 := Aside0.mk k0; have K1 := Aside0.mk k1; have K2 := Aside0.mk k2; clear k0 k1 k2 hb1) | (go_at_call 66; (with_reducible refine (HI.out _ _ _ _).mono ?_); rintro e w1 ⟨rfl, hb1⟩; replace hb1 := hb1.below; have k0 := blk_below K0.out hb1; have k1 := blk_below K1.out hb1; have k2 := blk_below K2.out hb1; clear K0 K1 K2 f00 f01 f10 f11 f12 f13 f14 f15 f16 f20 f21 f22 f23 f24 f25 f26; have HB0 := Aside0.mk (below_then HB.out HB.out.size hb1); clear HB; have HB := HB0; clear HB0; have k3 := cells2 k0; have k4 := cells7 k1; have k5 := cells7 k2; obtain ⟨f00, f01⟩ := k3; obtain ⟨f10, f11, f12, f13, f14, f15, f16⟩ := k4; obtain ⟨f20, f21, f22, f23, f24, f25, f26⟩ := k5; have K0 := Aside0.mk k0; have K1 := Aside0.mk k1; have K2 := Aside0.mk k2; clear k0 k1 k2 hb1) | (go_at_call 96; (with_reducible refine (HW.out _ _).mono ?_); rintro e w1 ⟨rfl, hb1⟩; obtain ⟨hB, k0, k1, k2⟩ := start3 (w := w) hb1 rfl rfl rfl rfl; have HB := Aside0.mk hB; clear hB; have k3 := cells2 k0; have k4 := cells7 k1; have k5 := cells7 k2; obtain ⟨f00, f01⟩ := k3; obtain ⟨f10, f11, f12, f13, f14, f15, f16⟩ := k4; obtain ⟨f20, f21, f22, f23, f24, f25, f26⟩ := k5; have K0 := Aside0.mk k0; have K1 := Aside0.mk k1; have K2 := Aside0.mk k2; clear k0 k1 k2 hb1) | (go_at_call 66; (with_reducible refine (HI.out _ _ _ _).mono ?_); rintro e w1 ⟨rfl, hb1⟩; replace hb1 := hb1.below; obtain ⟨hB, k0, k1, k2⟩ := start3 (w := w) hb1 rfl rfl rfl rfl; have HB := Aside0.mk hB; clear hB; have k3 := cells2 k0; have k4 := cells7 k1; have k5 := cells7 k2; obtain ⟨f00, f01⟩ := k3; obtain ⟨f10, f11, f12, f13, f14, f15, f16⟩ := k4; obtain ⟨f20, f21, f22, f23, f24, f25, f26⟩ := k5; have K0 := Aside0.mk k0; have K1 := Aside0.mk k1; have K2 := Aside0.mk k2; clear k0 k1 k2 hb1))
        go_ret
        exact ⟨rfl, HB.out⟩
      | true =>
        simp only [Bool.true_and]
        cases h3 : (B == 0) with
        | false =>
          simp only [Bool.false_and]
          go_enter Try.func68, Try.ntmps68
          go_wp2
          go_region
          go_wp2_with (first | (go_at_call 96; (with_reducible refine (HW.out _ _).mono ?_); rintro e w1 ⟨rfl, hb1⟩; have k0 := blk_below K0.out hb1; have k1 := blk_below K1.out hb1; have k2 := blk_below K2.out hb1; clear K0 K1 K2 f00 f01 f10 f11 f12 f13 f14 f15 f16 f20 f21 f22 f23 f24 f25 f26; have HB0 := Aside0.mk (below_then HB.out HB.out.size hb1); clear HB; have HB := HB0; clear HB0; have k3 := cells2 k0; have k4 := cells7 k1; have k5 := cells7 k2; obtain ⟨f00, f01⟩ := k3; obtain ⟨f10, f11, f12, f13, f14, f15, f16⟩ := k4; obtain ⟨f20, f21, f22, f23, f24, f25, f26⟩ := k5; have K0 := Aside0.mk k0; have K1 := Aside0.mk k1; have K2 := Aside0.mk k2; clear k0 k1 k2 hb1) | (go_at_call 66; (with_reducible refine (HI.out _ _ _ _).mono ?_); rintro e w1 ⟨rfl, hb1⟩; replace hb1 := hb1.below; have k0 := blk_below K0.out hb1; have k1 := blk_below K1.out hb1; have k2 := blk_below K2.out hb1; clear K0 K1 K2 f00 f01 f10 f11 f12 f13 f14 f15 f16 f20 f21 f22 f23 f24 f25 f26; have HB0 := Aside0.mk (below_then HB.out HB.out.size hb1); clear HB; have HB := HB0; clear HB0; have k3 := cells2 k0; have k4 := cells7 k1; have k5 := cells7 k2; obtain ⟨f00, f01⟩ := k3; obtain ⟨f10, f11, f12, f13, f14, f15, f16⟩ := k4; obtain ⟨f20, f21, f22, f23, f24, f25, f26⟩ := k5; have K0 := Aside0.mk k0; have K1 := Aside0.mk k1; have K2 := Aside0.mk k2; clear k0 k1 k2 hb1) | (go_at_call 96; (with_reducible refine (HW.out _ _).mono ?_); rintro e w1 ⟨rfl, hb1⟩; obtain ⟨hB, k0, k1, k2⟩ := start3 (w := w) hb1 rfl rfl rfl rfl; have HB := Aside0.mk hB; clear hB; have k3 := cells2 k0; have k4 := cells7 k1; have k5 := cells7 k2; obtain ⟨f00, f01⟩ := k3; obtain ⟨f10, f11, f12, f13, f14, f15, f16⟩ := k4; obtain ⟨f20, f21, f22, f23, f24, f25, f26⟩ := k5; have K0 := Aside0.mk k0; have K1 := Aside0.mk k1; have K2 := Aside0.mk k2; clear k0 k1 k2 hb1) | (go_at_call 66; (with_reducible refine (HI.out _ _ _ _).mono ?_); rintro e w1 ⟨rfl, hb1⟩; replace hb1 := hb1.below; obtain ⟨hB, k0, k1, k2⟩ := start3 (w := w) hb1 rfl rfl rfl rfl; have HB := Aside0.mk hB; clear hB; have k3 := cells2 k0; have k4 := cells7 k1; have k5 := cells7 k2; obtain ⟨f00, f01⟩ := k3; obtain ⟨f10, f11, f12, f13, f14, f15, f16⟩ := k4; obtain ⟨f20, f21, f22, f23, f24, f25, f26⟩ := k5; have K0 := Aside0.mk k0; have K1 := Aside0.mk k1; have K2 := Aside0.mk k2; clear k0 k1 k2 hb1))
          go_ret
          exact ⟨rfl, HB.out⟩
        | true =>
          simp only [Bool.true_and]
          cases h4 : ((G.length : Int) == 0) with
          | false =>
            go_enter Try.func68, Try.ntmps68
            go_wp2
            go_region
            go_wp2_with (first | (go_at_call 96; (with_reducible refine (HW.out _ _).mono ?_); rintro e w1 ⟨rfl, hb1⟩; have k0 := blk_below K0.out hb1; have k1 := blk_below K1.out hb1; have k2 := blk_below K2.out hb1; clear K0 K1 K2 f00 f01 f10 f11 f12 f13 f14 f15 f16 f20 f21 f22 f23 f24 f25 f26; have HB0 := Aside0.mk (below_then HB.out HB.out.size hb1); clear HB; have HB := HB0; clear HB0; have k3 := cells2 k0; have k4 := cells7 k1; have k5 := cells7 k2; obtain ⟨f00, f01⟩ := k3; obtain ⟨f10, f11, f12, f13, f14, f15, f16⟩ := k4; obtain ⟨f20, f21, f22, f23, f24, f25, f26⟩ := k5; have K0 := Aside0.mk k0; have K1 := Aside0.mk k1; have K2 := Aside0.mk k2; clear k0 k1 k2 hb1) | (go_at_call 66; (with_reducible refine (HI.out _ _ _ _).mono ?_); rintro e w1 ⟨rfl, hb1⟩; replace hb1 := hb1.below; have k0 := blk_below K0.out hb1; have k1 := blk_below K1.out hb1; have k2 := blk_below K2.out hb1; clear K0 K1 K2 f00 f01 f10 f11 f12 f13 f14 f15 f16 f20 f21 f22 f23 f24 f25 f26; have HB0 := Aside0.mk (below_then HB.out HB.out.size hb1); clear HB; have HB := HB0; clear HB0; have k3 := cells2 k0; have k4 := cells7 k1; have k5 := cells7 k2; obtain ⟨f00, f01⟩ := k3; obtain ⟨f10, f11, f12, f13, f14, f15, f16⟩ := k4; obtain ⟨f20, f21, f22, f23, f24, f25, f26⟩ := k5; have K0 := Aside0.mk k0; have K1 := Aside0.mk k1; have K2 := Aside0.mk k2; clear k0 k1 k2 hb1) | (go_at_call 96; (with_reducible refine (HW.out _ _).mono ?_); rintro e w1 ⟨rfl, hb1⟩; obtain ⟨hB, k0, k1, k2⟩ := start3 (w := w) hb1 rfl rfl rfl rfl; have HB := Aside0.mk hB; clear hB; have k3 := cells2 k0; have k4 := cells7 k1; have k5 := cells7 k2; obtain ⟨f00, f01⟩ := k3; obtain ⟨f10, f11, f12, f13, f14, f15, f16⟩ := k4; obtain ⟨f20, f21, f22, f23, f24, f25, f26⟩ := k5; have K0 := Aside0.mk k0; have K1 := Aside0.mk k1; have K2 := Aside0.mk k2; clear k0 k1 k2 hb1) | (go_at_call 66; (with_reducible refine (HI.out _ _ _ _).mono ?_); rintro e w1 ⟨rfl, hb1⟩; replace hb1 := hb1.below; obtain ⟨hB, k0, k1, k2⟩ := start3 (w := w) hb1 rfl rfl rfl rfl; have HB := Aside0.mk hB; clear hB; have k3 := cells2 k0; have k4 := cells7 k1; have k5 := cells7 k2; obtain ⟨f00, f01⟩ := k3; obtain ⟨f10, f11, f12, f13, f14, f15, f16⟩ := k4; obtain ⟨f20, f21, f22, f23, f24, f25, f26⟩ := k5; have K0 := Aside0.mk k0; have K1 := Aside0.mk k1; have K2 := Aside0.mk k2; clear k0 k1 k2 hb1))
            go_ret
            exact ⟨rfl, HB.out⟩
          | true =>
            go_enter Try.func68, Try.ntmps68
            go_wp2
            go_region
            go_wp2_with (first | (go_at_call 96; (with_reducible refine (HW.out _ _).mono ?_); rintro e w1 ⟨rfl, hb1⟩; have k0 := blk_below K0.out hb1; have k1 := blk_below K1.out hb1; have k2 := blk_below K2.out hb1; clear K0 K1 K2 f00 f01 f10 f11 f12 f13 f14 f15 f16 f20 f21 f22 f23 f24 f25 f26; have HB0 := Aside0.mk (below_then HB.out HB.out.size hb1); clear HB; have HB := HB0; clear HB0; have k3 := cells2 k0; have k4 := cells7 k1; have k5 := cells7 k2; obtain ⟨f00, f01⟩ := k3; obtain ⟨f10, f11, f12, f13, f14, f15, f16⟩ := k4; obtain ⟨f20, f21, f22, f23, f24, f25, f26⟩ := k5; have K0 := Aside0.mk k0; have K1 := Aside0.mk k1; have K2 := Aside0.mk k2; clear k0 k1 k2 hb1) | (go_at_call 66; (with_reducible refine (HI.out _ _ _ _).mono ?_); rintro e w1 ⟨rfl, hb1⟩; replace hb1 := hb1.below; have k0 := blk_below K0.out hb1; have k1 := blk_below K1.out hb1; have k2 := blk_below K2.out hb1; clear K0 K1 K2 f00 f01 f10 f11 f12 f13 f14 f15 f16 f20 f21 f22 f23 f24 f25 f26; have HB0 := Aside0.mk (below_then HB.out HB.out.size hb1); clear HB; have HB := HB0; clear HB0; have k3 := cells2 k0; have k4 := cells7 k1; have k5 := cells7 k2; obtain ⟨f00, f01⟩ := k3; obtain ⟨f10, f11, f12, f13, f14, f15, f16⟩ := k4; obtain ⟨f20, f21, f22, f23, f24, f25, f26⟩ := k5; have K0 := Aside0.mk k0; have K1 := Aside0.mk k1; have K2 := Aside0.mk k2; clear k0 k1 k2 hb1) | (go_at_call 96; (with_reducible refine (HW.out _ _).mono ?_); rintro e w1 ⟨rfl, hb1⟩; obtain ⟨hB, k0, k1, k2⟩ := start3 (w := w) hb1 rfl rfl rfl rfl; have HB := Aside0.mk hB; clear hB; have k3 := cells2 k0; have k4 := cells7 k1; have k5 := cells7 k2; obtain ⟨f00, f01⟩ := k3; obtain ⟨f10, f11, f12, f13, f14, f15, f16⟩ := k4; obtain ⟨f20, f21, f22, f23, f24, f25, f26⟩ := k5; have K0 := Aside0.mk k0; have K1 := Aside0.mk k1; have K2 := Aside0.mk k2; clear k0 k1 k2 hb1) | (go_at_call 66; (with_reducible refine (HI.out _ _ _ _).mono ?_); rintro e w1 ⟨rfl, hb1⟩; replace hb1 := hb1.below; obtain ⟨hB, k0, k1, k2⟩ := start3 (w := w) hb1 rfl rfl rfl rfl; have HB := Aside0.mk hB; clear hB; have k3 := cells2 k0; have k4 := cells7 k1; have k5 := cells7 k2; obtain ⟨f00, f01⟩ := k3; obtain ⟨f10, f11, f12, f13, f14, f15, f16⟩ := k4; obtain ⟨f20, f21, f22, f23, f24, f25, f26⟩ := k5; have K0 := Aside0.mk k0; have K1 := Aside0.mk k1; have K2 := Aside0.mk k2; clear k0 k1 k2 hb1))
            go_ret
            exact ⟨rfl, HB.out⟩
set_option maxHeartbeats 16000000 in
set_option maxRecDepth 100000 in
theorem clue_else (W S k A B N M : Int) (A5 : Option Addr) (c5 : Nat) (G : List Int) (nt : Bool) (w : World) (h1 : (k == 1) = false) (h2 : (k == 2) = false) (h3 : (k == 3) = false) (h4 : (k == 4) = false) (h5 : (k == 5) = false) (h6 : (k == 6) = false) (h7 : (k == 7) = false) :
    Calls Try.prog 68 #[.agg #[.int .i64 W, .int .i64 S], .agg #[.int .i64 k, .int .i64 A, .int .i64 B, .int .i64 N, .int .i64 M, .slice A5 G.length c5, .bool nt]] w fun e w' => e = .returned (.bool false) ∧ Below w.heap.size w w' := by
  have hu36 := Try.underlying36
  have hu83 := Try.underlying83
  go_enter Try.func68, Try.ntmps68
  go_wp2
  go_ret
  exact ⟨rfl, ((((Below.refl _ w).alloc (Nat.le_refl _) _).alloc (by simp) _).alloc (by simp; omega) _)⟩
end Go.Proofs.Ytimkchehdaadeaa.P
