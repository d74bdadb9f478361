/- Part 20 of a proof: the statement CodesFewest: for every input its law returns true (its texts without what nothing here names). -/
import Derived.Test.YtimkchehdaadeaaZFewest7
import Derived.Test.YtimkchehdaadeaaZFewest9
import Derived.Test.YtimkchehdaadeaaZFewest12
import Derived.Test.YtimkchehdaadeaaZFewest14
import Derived.Test.YtimkchehdaadeaaZFewest15
import Derived.Test.YtimkchehdaadeaaZFewest18
import Derived.Test.YtimkchehdaadeaaZFewest19

section
namespace Go.Proofs.Ytimkchehdaadeaa.P
open Go.RowKit Go.Proofs.YtimkchehdaadeaaW.PrintWords Go.Proofs.YtimkchehdaadeaaW.PrintLast Go.Proofs.YtimkchehdaadeaaW.PrintMore
attribute [local go_sem] max2_int min2_int max_two min_two max_three min_three max_four min_four
set_option linter.unusedVariables false
set_option linter.unusedSimpArgs false
def codes_Count.f (a0_0 : Int) (a0_1 : Int) (l1 : List (S36)) : Option (Int × Int) := (codes_checkClues.f a0_0 a0_1 l1).bind fun t35102 => (if t35102 = 0 then ((codes_lock_count.f a0_0 a0_1 l1).bind fun t35103 => (some (t35103, 0))) else (some (0, t35102)))
set_option maxHeartbeats 8000000 in
set_option maxRecDepth 100000 in
theorem codes_Count.calls (a0_0 : Int) (a0_1 : Int) (A1 : Option Addr) (c1 : Nat) (l1 : List (S36)) (r1 : Int) (r2 : Int) (w : World) (hr1 : Kd.C k36 w A1 l1.length l1) (hc1 : l1.length ≤ c1) (h : codes_Count.f a0_0 a0_1 l1 = some (r1, r2)) :
    Calls Try.prog 35 #[.agg #[.int .i64 a0_0, .int .i64 a0_1], .slice A1 l1.length c1] w fun e w' => e = .returned (.tuple #[.int .i64 r1, .int .i64 r2]) ∧ Below w.heap.size w w' := by
  have hu23 := Try.underlying23
  have HR1 := Aside0.mk hr1
  have HC1 := Aside0.mk hc1
  clear hr1 hc1
  have HB := Aside0.mk (Below.refl w.heap.size w)
  have H : ((codes_checkClues.f a0_0 a0_1 l1).bind fun t35102 => (if t35102 = 0 then ((codes_lock_count.f a0_0 a0_1 l1).bind fun t35103 => (some (t35103, 0))) else (some (0, t35102)))) = some (r1, r2) := h
  clear h
  replace H := Option.bind_eq_some_iff.mp H
  obtain ⟨t35102, A30, H⟩ := H
  replace H : (if t35102 = 0 then ((codes_lock_count.f a0_0 a0_1 l1).bind fun t35103 => (some (t35103, 0))) else (some (0, t35102))) = some (r1, r2) := H
  have A3 := Aside0.mk A30
  clear A30
  by_cases c4 : t35102 = 0
  · rw [if_pos c4] at H
    have c4b0 : (t35102 == 0) = true := beq_iff_eq.mpr c4
    have c4b1 : (t35102 != 0) = false := bne_eq_false_iff_eq.mpr c4
    clear c4
    replace H := Option.bind_eq_some_iff.mp H
    obtain ⟨t35103, A50, H⟩ := H
    replace H : (some (t35103, 0)) = some (r1, r2) := H
    have A5 := Aside0.mk A50
    clear A50
    simp only [Option.some.injEq, Prod.mk.injEq] at H
    obtain ⟨rfl, rfl⟩ := H
    go_enter Try.func35, Try.ntmps35
    go_wp2_with (first | ((with_reducible refine gate_dst (N := 2) rfl ?_); refine box_event ?hg (N := 2) ?hd (cs := #[.int .i64 a0_0, .int .i64 a0_1]) (t := 23) ?hr ?_; (case hd => rfl); (case hg => rfl); (case hr => first | (go_simp; done) | (go_simp; rfl)); intro gb35101 hg w6 hbox hb; have n0_ := Aside0.mk (below_step (by repeat (first | (with_reducible first | exact HB.out | apply below_alloc | apply pw_below_drewN | apply below_drew1) | exact HB.out)) hb); have n1_ := Aside0.mk (hbox); have n2_ := Aside0.mk ((by rw [hg]; exact (below_size (by repeat (first | (with_reducible first | exact HB.out | apply below_alloc | apply pw_below_drewN | apply below_drew1) | exact HB.out))) : w.heap.size ≤ gb35101)); have n3_ := Aside0.mk ((by rw [hg]; exact (below_size (by repeat (first | (with_reducible first | exact HB.out | apply below_alloc | apply pw_below_drewN | apply below_drew1) | exact HB.out))) : w.heap.size ≤ gb35101)); clear HB; have HB := n0_; have BK35101 := n1_; have GW35101 := n2_; have GE35101 := n3_; clear n0_ n1_ n2_ n3_; clear hb hbox hg; have hcz7_0 : w6.cell? ⟨gb35101, 0, none⟩ = some (.int .i64 a0_0) := (blk_cell BK35101.out 0).trans rfl; have hcz7_1 : w6.cell? ⟨gb35101, 1, none⟩ = some (.int .i64 a0_1) := (blk_cell BK35101.out 1).trans rfl; have hfz7_0 := blk_frozen BK35101.out 0; have hfz7_1 := blk_frozen BK35101.out 1) | ((with_reducible refine gate_callee (f := 62) rfl ?_); refine goesL_ (some 9) rfl rfl Try.func62 (by kernel_rfl) rfl #[.agg #[.int .i64 a0_0, .int .i64 a0_1], .slice A1 l1.length c1] rfl (by (try simp only [List.map_toArray, List.map_cons, List.map_nil]); first | done | rfl | (simp only [List.length_drop, List.length_take]; rfl)) ?_; (with_reducible refine (codes_checkClues.calls a0_0 a0_1 _ _ l1 t35102 _ ?side1 ?side2 A3.out).mono ?_); (case side1 => repeat (first | exact (Kd.C_below HR1.out HB.out) | (with_reducible refine Kd.C_alloc ?_ _) | (with_reducible refine Kd.C_drewN ?_ _) | (with_reducible refine Kd.C_drew ?_))); (case side2 => exact HC1.out); rintro e w8 ⟨rfl, hb⟩; refine ⟨_, rfl, ?_⟩; have n0_ := Aside0.mk (blk_below (g := gb35101) (o := .cells #[.int .i64 a0_0, .int .i64 a0_1] 23 (0, 0)) (by (with_reducible repeat (first | refine blk_drewN ?_ _ | refine blk_drew ?_ | refine blk_alloc ?_ _)); exact BK35101.out) hb); have n1_ := Aside0.mk (below_step (by repeat (first | (with_reducible first | exact HB.out | apply below_alloc | apply pw_below_drewN | apply below_drew1 | refine below_set ?_ GE35101.out) | exact HB.out)) hb); clear BK35101; clear HB; have BK35101 := n0_; have HB := n1_; clear n0_ n1_; (try clear hb); (try clear hb2); (try clear hk); (try clear hi); have hcz9_0 : w8.cell? ⟨gb35101, 0, none⟩ = some (.int .i64 a0_0) := (blk_cell BK35101.out 0).trans rfl; have hcz9_1 : w8.cell? ⟨gb35101, 1, none⟩ = some (.int .i64 a0_1) := (blk_cell BK35101.out 1).trans rfl; have hfz9_0 := blk_frozen BK35101.out 0; have hfz9_1 := blk_frozen BK35101.out 1) | ((with_reducible refine gate_callee (f := 75) rfl ?_); refine goesL_ (some 15) rfl rfl Try.func75 (by kernel_rfl) rfl #[.agg #[.int .i64 a0_0, .int .i64 a0_1], .slice A1 l1.length c1] rfl (by (try simp only [List.map_toArray, List.map_cons, List.map_nil]); first | done | rfl | (simp only [List.length_drop, List.length_take]; rfl)) ?_; (with_reducible refine (codes_lock_count.calls a0_0 a0_1 _ _ l1 t35103 _ ?side1 ?side2 A5.out).mono ?_); (case side1 => repeat (first | exact (Kd.C_below HR1.out HB.out) | (with_reducible refine Kd.C_alloc ?_ _) | (with_reducible refine Kd.C_drewN ?_ _) | (with_reducible refine Kd.C_drew ?_))); (case side2 => exact HC1.out); rintro e w10 ⟨rfl, hb⟩; refine ⟨_, rfl, ?_⟩; have n0_ := Aside0.mk (blk_below (g := gb35101) (o := .cells #[.int .i64 a0_0, .int .i64 a0_1] 23 (0, 0)) (by (with_reducible repeat (first | refine blk_drewN ?_ _ | refine blk_drew ?_ | refine blk_alloc ?_ _)); exact BK35101.out) hb); have n1_ := Aside0.mk (below_step (by repeat (first | (with_reducible first | exact HB.out | apply below_alloc | apply pw_below_drewN | apply below_drew1 | refine below_set ?_ GE35101.out) | exact HB.out)) hb); clear BK35101; clear HB; have BK35101 := n0_; have HB := n1_; clear n0_ n1_; (try clear hb); (try clear hb2); (try clear hk); (try clear hi)))
    go_ret2
    exact ⟨by first | rfl | (simp [errW_none, errW_some] <;> rfl) | (simp [*, errW_none, errW_some] <;> rfl), by repeat (first | (with_reducible first | exact HB.out | apply below_alloc | apply pw_below_drewN | apply below_drew1 | refine below_set ?_ GE35101.out) | exact HB.out)⟩
  · rw [if_neg c4] at H
    have c4b0 : (t35102 == 0) = false := beq_eq_false_iff_ne.mpr c4
    have c4b1 : (t35102 != 0) = true := bne_iff_ne.mpr c4
    simp only [Option.some.injEq, Prod.mk.injEq] at H
    obtain ⟨rfl, rfl⟩ := H
    go_enter Try.func35, Try.ntmps35
    go_wp2_with (first | ((with_reducible refine gate_dst (N := 2) rfl ?_); refine box_event ?hg (N := 2) ?hd (cs := #[.int .i64 a0_0, .int .i64 a0_1]) (t := 23) ?hr ?_; (case hd => rfl); (case hg => rfl); (case hr => first | (go_simp; done) | (go_simp; rfl)); intro gb35101 hg w11 hbox hb; have n0_ := Aside0.mk (below_step (by repeat (first | (with_reducible first | exact HB.out | apply below_alloc | apply pw_below_drewN | apply below_drew1) | exact HB.out)) hb); have n1_ := Aside0.mk (hbox); have n2_ := Aside0.mk ((by rw [hg]; exact (below_size (by repeat (first | (with_reducible first | exact HB.out | apply below_alloc | apply pw_below_drewN | apply below_drew1) | exact HB.out))) : w.heap.size ≤ gb35101)); have n3_ := Aside0.mk ((by rw [hg]; exact (below_size (by repeat (first | (with_reducible first | exact HB.out | apply below_alloc | apply pw_below_drewN | apply below_drew1) | exact HB.out))) : w.heap.size ≤ gb35101)); clear HB; have HB := n0_; have BK35101 := n1_; have GW35101 := n2_; have GE35101 := n3_; clear n0_ n1_ n2_ n3_; clear hb hbox hg; have hcz12_0 : w11.cell? ⟨gb35101, 0, none⟩ = some (.int .i64 a0_0) := (blk_cell BK35101.out 0).trans rfl; have hcz12_1 : w11.cell? ⟨gb35101, 1, none⟩ = some (.int .i64 a0_1) := (blk_cell BK35101.out 1).trans rfl; have hfz12_0 := blk_frozen BK35101.out 0; have hfz12_1 := blk_frozen BK35101.out 1) | ((with_reducible refine gate_callee (f := 62) rfl ?_); refine goesL_ (some 9) rfl rfl Try.func62 (by kernel_rfl) rfl #[.agg #[.int .i64 a0_0, .int .i64 a0_1], .slice A1 l1.length c1] rfl (by (try simp only [List.map_toArray, List.map_cons, List.map_nil]); first | done | rfl | (simp only [List.length_drop, List.length_take]; rfl)) ?_; (with_reducible refine (codes_checkClues.calls a0_0 a0_1 _ _ l1 t35102 _ ?side1 ?side2 A3.out).mono ?_); (case side1 => repeat (first | exact (Kd.C_below HR1.out HB.out) | (with_reducible refine Kd.C_alloc ?_ _) | (with_reducible refine Kd.C_drewN ?_ _) | (with_reducible refine Kd.C_drew ?_))); (case side2 => exact HC1.out); rintro e w13 ⟨rfl, hb⟩; refine ⟨_, rfl, ?_⟩; have n0_ := Aside0.mk (blk_below (g := gb35101) (o := .cells #[.int .i64 a0_0, .int .i64 a0_1] 23 (0, 0)) (by (with_reducible repeat (first | refine blk_drewN ?_ _ | refine blk_drew ?_ | refine blk_alloc ?_ _)); exact BK35101.out) hb); have n1_ := Aside0.mk (below_step (by repeat (first | (with_reducible first | exact HB.out | apply below_alloc | apply pw_below_drewN | apply below_drew1 | refine below_set ?_ GE35101.out) | exact HB.out)) hb); clear BK35101; clear HB; have BK35101 := n0_; have HB := n1_; clear n0_ n1_; (try clear hb); (try clear hb2); (try clear hk); (try clear hi)))
    go_ret2
    exact ⟨by first | rfl | (simp [errW_none, errW_some] <;> rfl) | (simp [*, errW_none, errW_some] <;> rfl), by repeat (first | (with_reducible first | exact HB.out | apply below_alloc | apply pw_below_drewN | apply below_drew1 | refine below_set ?_ GE35101.out) | exact HB.out)⟩
def codes_Fits.f (a0_0 : Int) (a0_1 : Int) (l1 : List (S36)) (l2 : List Int) : Option (Int × Bool × Int) := (codes_checkClues.f a0_0 a0_1 l1).bind fun t22102 => (if t22102 = 0 then ((codes_CheckCode.f a0_0 a0_1 l2).bind fun t22103 => (if t22103 = 0 then ((codes_fails.f l1 l2).bind fun t22104 => (some (t22104, decide (t22104 < 0), 0))) else (some (0, false, t22103)))) else (some (0, false, t22102)))
set_option maxHeartbeats 8000000 in
set_option maxRecDepth 100000 in
theorem codes_Fits.calls (a0_0 : Int) (a0_1 : Int) (A1 : Option Addr) (c1 : Nat) (l1 : List (S36)) (A2 : Option Addr) (c2 : Nat) (l2 : List Int) (r1 : Int) (r2 : Bool) (r3 : Int) (w : World) (hr1 : Kd.C k36 w A1 l1.length l1) (hc1 : l1.length ≤ c1) (hr2 : Kd.C (Kd.int .i64) w A2 l2.length l2) (hc2 : l2.length ≤ c2) (h : codes_Fits.f a0_0 a0_1 l1 l2 = some (r1, r2, r3)) :
    Calls Try.prog 22 #[.agg #[.int .i64 a0_0, .int .i64 a0_1], .slice A1 l1.length c1, .slice A2 l2.length c2] w fun e w' => e = .returned (.tuple #[.int .i64 r1, .bool r2, .int .i64 r3]) ∧ Below w.heap.size w w' := by
  have hu23 := Try.underlying23
  have HR1 := Aside0.mk hr1
  have HC1 := Aside0.mk hc1
  clear hr1 hc1
  have HR2 := Aside0.mk hr2
  have HC2 := Aside0.mk hc2
  clear hr2 hc2
  have HB := Aside0.mk (Below.refl w.heap.size w)
  have H : ((codes_checkClues.f a0_0 a0_1 l1).bind fun t22102 => (if t22102 = 0 then ((codes_CheckCode.f a0_0 a0_1 l2).bind fun t22103 => (if t22103 = 0 then ((codes_fails.f l1 l2).bind fun t22104 => (some (t22104, decide (t22104 < 0), 0))) else (some (0, false, t22103)))) else (some (0, false, t22102)))) = some (r1, r2, r3) := h
  clear h
  replace H := Option.bind_eq_some_iff.mp H
  obtain ⟨t22102, A40, H⟩ := H
  replace H : (if t22102 = 0 then ((codes_CheckCode.f a0_0 a0_1 l2).bind fun t22103 => (if t22103 = 0 then ((codes_fails.f l1 l2).bind fun t22104 => (some (t22104, decide (t22104 < 0), 0))) else (some (0, false, t22103)))) else (some (0, false, t22102))) = some (r1, r2, r3) := H
  have A4 := Aside0.mk A40
  clear A40
  by_cases c5 : t22102 = 0
  · rw [if_pos c5] at H
    have c5b0 : (t22102 == 0) = true := beq_iff_eq.mpr c5
    have c5b1 : (t22102 != 0) = false := bne_eq_false_iff_eq.mpr c5
    clear c5
    replace H := Option.bind_eq_some_iff.mp H
    obtain ⟨t22103, A60, H⟩ := H
    replace H : (if t22103 = 0 then ((codes_fails.f l1 l2).bind fun t22104 => (some (t22104, decide (t22104 < 0), 0))) else (some (0, false, t22103))) = some (r1, r2, r3) := H
    have A6 := Aside0.mk A60
    clear A60
    by_cases c7 : t22103 = 0
    · rw [if_pos c7] at H
      have c7b0 : (t22103 == 0) = true := beq_iff_eq.mpr c7
      have c7b1 : (t22103 != 0) = false := bne_eq_false_iff_eq.mpr c7
      clear c7
      replace H := Option.bind_eq_some_iff.mp H
      obtain ⟨t22104, A80, H⟩ := H
      replace H : (some (t22104, decide (t22104 < 0), 0)) = some (r1, r2, r3) := H
      have A8 := Aside0.mk A80
      clear A80
      simp only [Option.some.injEq, Prod.mk.injEq] at H
      obtain ⟨rfl, rfl, rfl⟩ := H
      go_enter Try.func22, Try.ntmps22
      go_wp2_with (first | ((with_reducible refine gate_dst (N := 3) rfl ?_); refine box_event ?hg (N := 3) ?hd (cs := #[.int .i64 a0_0, .int .i64 a0_1]) (t := 23) ?hr ?_; (case hd => rfl); (case hg => rfl); (case hr => first | (go_simp; done) | (go_simp; rfl)); intro gb22101 hg w9 hbox hb; have n0_ := Aside0.mk (below_step (by repeat (first | (with_reducible first | exact HB.out | apply below_alloc | apply pw_below_drewN | apply below_drew1) | exact HB.out)) hb); have n1_ := Aside0.mk (hbox); have n2_ := Aside0.mk ((by rw [hg]; exact (below_size (by repeat (first | (with_reducible first | exact HB.out | apply below_alloc | apply pw_below_drewN | apply below_drew1) | exact HB.out))) : w.heap.size ≤ gb22101)); have n3_ := Aside0.mk ((by rw [hg]; exact (below_size (by repeat (first | (with_reducible first | exact HB.out | apply below_alloc | apply pw_below_drewN | apply below_drew1) | exact HB.out))) : w.heap.size ≤ gb22101)); clear HB; have HB := n0_; have BK22101 := n1_; have GW22101 := n2_; have GE22101 := n3_; clear n0_ n1_ n2_ n3_; clear hb hbox hg; have hcz10_0 : w9.cell? ⟨gb22101, 0, none⟩ = some (.int .i64 a0_0) := (blk_cell BK22101.out 0).trans rfl; have hcz10_1 : w9.cell? ⟨gb22101, 1, none⟩ = some (.int .i64 a0_1) := (blk_cell BK22101.out 1).trans rfl; have hfz10_0 := blk_frozen BK22101.out 0; have hfz10_1 := blk_frozen BK22101.out 1) | ((with_reducible refine gate_callee (f := 62) rfl ?_); refine goesL_ (some 13) rfl rfl Try.func62 (by kernel_rfl) rfl #[.agg #[.int .i64 a0_0, .int .i64 a0_1], .slice A1 l1.length c1] rfl (by (try simp only [List.map_toArray, List.map_cons, List.map_nil]); first | done | rfl | (simp only [List.length_drop, List.length_take]; rfl)) ?_; (with_reducible refine (codes_checkClues.calls a0_0 a0_1 _ _ l1 t22102 _ ?side1 ?side2 A4.out).mono ?_); (case side1 => repeat (first | exact (Kd.C_below HR1.out HB.out) | (with_reducible refine Kd.C_alloc ?_ _) | (with_reducible refine Kd.C_drewN ?_ _) | (with_reducible refine Kd.C_drew ?_))); (case side2 => exact HC1.out); rintro e w11 ⟨rfl, hb⟩; refine ⟨_, rfl, ?_⟩; have n0_ := Aside0.mk (blk_below (g := gb22101) (o := .cells #[.int .i64 a0_0, .int .i64 a0_1] 23 (0, 0)) (by (with_reducible repeat (first | refine blk_drewN ?_ _ | refine blk_drew ?_ | refine blk_alloc ?_ _)); exact BK22101.out) hb); have n1_ := Aside0.mk (below_step (by repeat (first | (with_reducible first | exact HB.out | apply below_alloc | apply pw_below_drewN | apply below_drew1 | refine below_set ?_ GE22101.out) | exact HB.out)) hb); clear BK22101; clear HB; have BK22101 := n0_; have HB := n1_; clear n0_ n1_; (try clear hb); (try clear hb2); (try clear hk); (try clear hi); have hcz12_0 : w11.cell? ⟨gb22101, 0, none⟩ = some (.int .i64 a0_0) := (blk_cell BK22101.out 0).trans rfl; have hcz12_1 : w11.cell? ⟨gb22101, 1, none⟩ = some (.int .i64 a0_1) := (blk_cell BK22101.out 1).trans rfl; have hfz12_0 := blk_frozen BK22101.out 0; have hfz12_1 := blk_frozen BK22101.out 1) | ((with_reducible refine gate_callee (f := 28) rfl ?_); refine goesL_ (some 19) rfl rfl Try.func28 (by kernel_rfl) rfl #[.agg #[.int .i64 a0_0, .int .i64 a0_1], .slice A2 l2.length c2] rfl (by (try simp only [List.map_toArray, List.map_cons, List.map_nil]); first | done | rfl | (simp only [List.length_drop, List.length_take]; rfl)) ?_; (with_reducible refine (codes_CheckCode.calls a0_0 a0_1 (fun k_ => k_ < w.heap.size) _ _ l2 t22103 _ ?side1 A6.out).mono ?_); (case side1 => exact Kd.V_mk HC2.out (Kd.F_below (Kd.C_F (Kd.heap_int .i64) HR2.out) (by repeat (first | (with_reducible first | exact HB.out | apply below_alloc | apply pw_below_drewN | apply below_drew1 | refine below_set ?_ GE22101.out) | exact HB.out)))); rintro e w13 ⟨rfl, hb⟩; refine ⟨_, rfl, ?_⟩; have n0_ := Aside0.mk (blk_below (g := gb22101) (o := .cells #[.int .i64 a0_0, .int .i64 a0_1] 23 (0, 0)) (by (with_reducible repeat (first | refine blk_drewN ?_ _ | refine blk_drew ?_ | refine blk_alloc ?_ _)); exact BK22101.out) hb); have n1_ := Aside0.mk (below_step (by repeat (first | (with_reducible first | exact HB.out | apply below_alloc | apply pw_below_drewN | apply below_drew1 | refine below_set ?_ GE22101.out) | exact HB.out)) hb); clear BK22101; clear HB; have BK22101 := n0_; have HB := n1_; clear n0_ n1_; (try clear hb); (try clear hb2); (try clear hk); (try clear hi)) | ((with_reducible refine gate_callee (f := 63) rfl ?_); refine goesL_ (some 25) rfl rfl Try.func63 (by kernel_rfl) rfl #[.slice A1 l1.length c1, .slice A2 l2.length c2] rfl (by (try simp only [List.map_toArray, List.map_cons, List.map_nil]); first | done | rfl | (simp only [List.length_drop, List.length_take]; rfl)) ?_; (with_reducible refine (codes_fails.calls _ _ l1 _ _ l2 t22104 _ ?side1 ?side2 ?side3 ?side4 A8.out).mono ?_); (case side1 => repeat (first | exact (Kd.C_below HR1.out HB.out) | (with_reducible refine Kd.C_alloc ?_ _) | (with_reducible refine Kd.C_drewN ?_ _) | (with_reducible refine Kd.C_drew ?_))); (case side2 => exact HC1.out); (case side3 => repeat (first | exact (Kd.C_below HR2.out HB.out) | (with_reducible refine Kd.C_alloc ?_ _) | (with_reducible refine Kd.C_drewN ?_ _) | (with_reducible refine Kd.C_drew ?_))); (case side4 => exact HC2.out); rintro e w14 ⟨rfl, hb⟩; refine ⟨_, rfl, ?_⟩; have n0_ := Aside0.mk (blk_below (g := gb22101) (o := .cells #[.int .i64 a0_0, .int .i64 a0_1] 23 (0, 0)) (by (with_reducible repeat (first | refine blk_drewN ?_ _ | refine blk_drew ?_ | refine blk_alloc ?_ _)); exact BK22101.out) hb); have n1_ := Aside0.mk (below_step (by repeat (first | (with_reducible first | exact HB.out | apply below_alloc | apply pw_below_drewN | apply below_drew1 | refine below_set ?_ GE22101.out) | exact HB.out)) hb); clear BK22101; clear HB; have BK22101 := n0_; have HB := n1_; clear n0_ n1_; (try clear hb); (try clear hb2); (try clear hk); (try clear hi)))
      go_ret3
      exact ⟨by first | rfl | (simp [errW_none, errW_some] <;> rfl) | (simp [*, errW_none, errW_some] <;> rfl), by repeat (first | (with_reducible first | exact HB.out | apply below_alloc | apply pw_below_drewN | apply below_drew1 | refine below_set ?_ GE22101.out) | exact HB.out)⟩
    · rw [if_neg c7] at H
      have c7b0 : (t22103 == 0) = false := beq_eq_false_iff_ne.mpr c7
      have c7b1 : (t22103 != 0) = true := bne_iff_ne.mpr c7
      simp only [Option.some.injEq, Prod.mk.injEq] at H
      obtain ⟨rfl, rfl, rfl⟩ := H
      go_enter Try.func22, Try.ntmps22
      go_wp2_with (first | ((with_reducible refine gate_dst (N := 3) rfl ?_); refine box_event ?hg (N := 3) ?hd (cs := #[.int .i64 a0_0, .int .i64 a0_1]) (t := 23) ?hr ?_; (case hd => rfl); (case hg => rfl); (case hr => first | (go_simp; done) | (go_simp; rfl)); intro gb22101 hg w15 hbox hb; have n0_ := Aside0.mk (below_step (by repeat (first | (with_reducible first | exact HB.out | apply below_alloc | apply pw_below_drewN | apply below_drew1) | exact HB.out)) hb); have n1_ := Aside0.mk (hbox); have n2_ := Aside0.mk ((by rw [hg]; exact (below_size (by repeat (first | (with_reducible first | exact HB.out | apply below_alloc | apply pw_below_drewN | apply below_drew1) | exact HB.out))) : w.heap.size ≤ gb22101)); have n3_ := Aside0.mk ((by rw [hg]; exact (below_size (by repeat (first | (with_reducible first | exact HB.out | apply below_alloc | apply pw_below_drewN | apply below_drew1) | exact HB.out))) : w.heap.size ≤ gb22101)); clear HB; have HB := n0_; have BK22101 := n1_; have GW22101 := n2_; have GE22101 := n3_; clear n0_ n1_ n2_ n3_; clear hb hbox hg; have hcz16_0 : w15.cell? ⟨gb22101, 0, none⟩ = some (.int .i64 a0_0) := (blk_cell BK22101.out 0).trans rfl; have hcz16_1 : w15.cell? ⟨gb22101, 1, none⟩ = some (.int .i64 a0_1) := (blk_cell BK22101.out 1).trans rfl; have hfz16_0 := blk_frozen BK22101.out 0; have hfz16_1 := blk_frozen BK22101.out 1) | ((with_reducible refine gate_callee (f := 62) rfl ?_); refine goesL_ (some 13) rfl rfl Try.func62 (by kernel_rfl) rfl #[.agg #[.int .i64 a0_0, .int .i64 a0_1], .slice A1 l1.length c1] rfl (by (try simp only [List.map_toArray, List.map_cons, List.map_nil]); first | done | rfl | (simp only [List.length_drop, List.length_take]; rfl)) ?_; (with_reducible refine (codes_checkClues.calls a0_0 a0_1 _ _ l1 t22102 _ ?side1 ?side2 A4.out).mono ?_); (case side1 => repeat (first | exact (Kd.C_below HR1.out HB.out) | (with_reducible refine Kd.C_alloc ?_ _) | (with_reducible refine Kd.C_drewN ?_ _) | (with_reducible refine Kd.C_drew ?_))); (case side2 => exact HC1.out); rintro e w17 ⟨rfl, hb⟩; refine ⟨_, rfl, ?_⟩; have n0_ := Aside0.mk (blk_below (g := gb22101) (o := .cells #[.int .i64 a0_0, .int .i64 a0_1] 23 (0, 0)) (by (with_reducible repeat (first | refine blk_drewN ?_ _ | refine blk_drew ?_ | refine blk_alloc ?_ _)); exact BK22101.out) hb); have n1_ := Aside0.mk (below_step (by repeat (first | (with_reducible first | exact HB.out | apply below_alloc | apply pw_below_drewN | apply below_drew1 | refine below_set ?_ GE22101.out) | exact HB.out)) hb); clear BK22101; clear HB; have BK22101 := n0_; have HB := n1_; clear n0_ n1_; (try clear hb); (try clear hb2); (try clear hk); (try clear hi); have hcz18_0 : w17.cell? ⟨gb22101, 0, none⟩ = some (.int .i64 a0_0) := (blk_cell BK22101.out 0).trans rfl; have hcz18_1 : w17.cell? ⟨gb22101, 1, none⟩ = some (.int .i64 a0_1) := (blk_cell BK22101.out 1).trans rfl; have hfz18_0 := blk_frozen BK22101.out 0; have hfz18_1 := blk_frozen BK22101.out 1) | ((with_reducible refine gate_callee (f := 28) rfl ?_); refine goesL_ (some 19) rfl rfl Try.func28 (by kernel_rfl) rfl #[.agg #[.int .i64 a0_0, .int .i64 a0_1], .slice A2 l2.length c2] rfl (by (try simp only [List.map_toArray, List.map_cons, List.map_nil]); first | done | rfl | (simp only [List.length_drop, List.length_take]; rfl)) ?_; (with_reducible refine (codes_CheckCode.calls a0_0 a0_1 (fun k_ => k_ < w.heap.size) _ _ l2 t22103 _ ?side1 A6.out).mono ?_); (case side1 => exact Kd.V_mk HC2.out (Kd.F_below (Kd.C_F (Kd.heap_int .i64) HR2.out) (by repeat (first | (with_reducible first | exact HB.out | apply below_alloc | apply pw_below_drewN | apply below_drew1 | refine below_set ?_ GE22101.out) | exact HB.out)))); rintro e w19 ⟨rfl, hb⟩; refine ⟨_, rfl, ?_⟩; have n0_ := Aside0.mk (blk_below (g := gb22101) (o := .cells #[.int .i64 a0_0, .int .i64 a0_1] 23 (0, 0)) (by (with_reducible repeat (first | refine blk_drewN ?_ _ | refine blk_drew ?_ | refine blk_alloc ?_ _)); exact BK22101.out) hb); have n1_ := Aside0.mk (below_step (by repeat (first | (with_reducible first | exact HB.out | apply below_alloc | apply pw_below_drewN | apply below_drew1 | refine below_set ?_ GE22101.out) | exact HB.out)) hb); clear BK22101; clear HB; have BK22101 := n0_; have HB := n1_; clear n0_ n1_; (try clear hb); (try clear hb2); (try clear hk); (try clear hi)))
      go_ret3
      exact ⟨by first | rfl | (simp [errW_none, errW_some] <;> rfl) | (simp [*, errW_none, errW_some] <;> rfl), by repeat (first | (with_reducible first | exact HB.out | apply below_alloc | apply pw_below_drewN | apply below_drew1 | refine below_set ?_ GE22101.out) | exact HB.out)⟩
  · rw [if_neg c5] at H
    have c5b0 : (t22102 == 0) = false := beq_eq_false_iff_ne.mpr c5
    have c5b1 : (t22102 != 0) = true := bne_iff_ne.mpr c5
    simp only [Option.some.injEq, Prod.mk.injEq] at H
    obtain ⟨rfl, rfl, rfl⟩ := H
    go_enter Try.func22, Try.ntmps22
    go_wp2_with (first | ((with_reducible refine gate_dst (N := 3) rfl ?_); refine box_event ?hg (N := 3) ?hd (cs := #[.int .i64 a0_0, .int .i64 a0_1]) (t := 23) ?hr ?_; (case hd => rfl); (case hg => rfl); (case hr => first | (go_simp; done) | (go_simp; rfl)); intro gb22101 hg w20 hbox hb; have n0_ := Aside0.mk (below_step (by repeat (first | (with_reducible first | exact HB.out | apply below_alloc | apply pw_below_drewN | apply below_drew1) | exact HB.out)) hb); have n1_ := Aside0.mk (hbox); have n2_ := Aside0.mk ((by rw [hg]; exact (below_size (by repeat (first | (with_reducible first | exact HB.out | apply below_alloc | apply pw_below_drewN | apply below_drew1) | exact HB.out))) : w.heap.size ≤ gb22101)); have n3_ := Aside0.mk ((by rw [hg]; exact (below_size (by repeat (first | (with_reducible first | exact HB.out | apply below_alloc | apply pw_below_drewN | apply below_drew1) | exact HB.out))) : w.heap.size ≤ gb22101)); clear HB; have HB := n0_; have BK22101 := n1_; have GW22101 := n2_; have GE22101 := n3_; clear n0_ n1_ n2_ n3_; clear hb hbox hg; have hcz21_0 : w20.cell? ⟨gb22101, 0, none⟩ = some (.int .i64 a0_0) := (blk_cell BK22101.out 0).trans rfl; have hcz21_1 : w20.cell? ⟨gb22101, 1, none⟩ = some (.int .i64 a0_1) := (blk_cell BK22101.out 1).trans rfl; have hfz21_0 := blk_frozen BK22101.out 0; have hfz21_1 := blk_frozen BK22101.out 1) | ((with_reducible refine gate_callee (f := 62) rfl ?_); refine goesL_ (some 13) rfl rfl Try.func62 (by kernel_rfl) rfl #[.agg #[.int .i64 a0_0, .int .i64 a0_1], .slice A1 l1.length c1] rfl (by (try simp only [List.map_toArray, List.map_cons, List.map_nil]); first | done | rfl | (simp only [List.length_drop, List.length_take]; rfl)) ?_; (with_reducible refine (codes_checkClues.calls a0_0 a0_1 _ _ l1 t22102 _ ?side1 ?side2 A4.out).mono ?_); (case side1 => repeat (first | exact (Kd.C_below HR1.out HB.out) | (with_reducible refine Kd.C_alloc ?_ _) | (with_reducible refine Kd.C_drewN ?_ _) | (with_reducible refine Kd.C_drew ?_))); (case side2 => exact HC1.out); rintro e w22 ⟨rfl, hb⟩; refine ⟨_, rfl, ?_⟩; have n0_ := Aside0.mk (blk_below (g := gb22101) (o := .cells #[.int .i64 a0_0, .int .i64 a0_1] 23 (0, 0)) (by (with_reducible repeat (first | refine blk_drewN ?_ _ | refine blk_drew ?_ | refine blk_alloc ?_ _)); exact BK22101.out) hb); have n1_ := Aside0.mk (below_step (by repeat (first | (with_reducible first | exact HB.out | apply below_alloc | apply pw_below_drewN | apply below_drew1 | refine below_set ?_ GE22101.out) | exact HB.out)) hb); clear BK22101; clear HB; have BK22101 := n0_; have HB := n1_; clear n0_ n1_; (try clear hb); (try clear hb2); (try clear hk); (try clear hi)))
    go_ret3
    exact ⟨by first | rfl | (simp [errW_none, errW_some] <;> rfl) | (simp [*, errW_none, errW_some] <;> rfl), by repeat (first | (with_reducible first | exact HB.out | apply below_alloc | apply pw_below_drewN | apply below_drew1 | refine below_set ?_ GE22101.out) | exact HB.out)⟩
end Go.Proofs.Ytimkchehdaadeaa.P
end
section
namespace Go.Proofs.Ytimkchehdaadeaa.P
open Go.RowKit Go.Shelf Go.Proofs.YtimkchehdaadeaaW.PrintWords Go.Proofs.YtimkchehdaadeaaW.PrintLast Go.Proofs.YtimkchehdaadeaaW.PrintMore
set_option linter.unusedVariables false
set_option linter.unusedSimpArgs false
def wq0 : S36 := ⟨2, 0, 2, 4, 0, [], false⟩
def wq1 : S36 := ⟨3, 0, 1, 0, 0, [], false⟩
def padlocklaw01_works.f : Option Bool := some true
def wcells : Array Value := #[.int .i64 2, .int .i64 0, .int .i64 2, .int .i64 4, .int .i64 0, .slice none 0 0, .bool false, .int .i64 3, .int .i64 0, .int .i64 1, .int .i64 0, .int .i64 0, .slice none 0 0, .bool false]
theorem works_C {w : World} {B : Nat} (h : w.heap[B]? = some (.cells wcells 36 (0, 0))) : Kd.C k36 w (some ⟨B, 0, none⟩) 2 [wq0, wq1] := by
  have hn : (Kd.int .i64).C w none ([] : List Int).length [] := Kd.C_nil _ _
  refine ⟨rfl, by omega, fun _ => ⟨_, rfl, fun j p hj => ?_⟩⟩
  match j with
  | 0 =>
    obtain rfl := Option.some.inj hj
    refine ⟨_, rfl, k36_mk w wq0 (Nat.le_refl 0) hn, fun i u hu => ?_⟩
    match i with
    | 0 | 1 | 2 | 3 | 4 | 5 | 6 => obtain rfl := Option.some.inj hu; exact (blk_cell h _).trans rfl
    | i + 7 => simp at hu
  | 1 =>
    obtain rfl := Option.some.inj hj
    refine ⟨_, rfl, k36_mk w wq1 (Nat.le_refl 0) hn, fun i u hu => ?_⟩
    match i with
    | 0 | 1 | 2 | 3 | 4 | 5 | 6 => obtain rfl := Option.some.inj hu; exact (blk_cell h _).trans rfl
    | i + 7 => simp at hu
  | j + 2 => simp at hj
set_option maxHeartbeats 8000000 in
set_option maxRecDepth 100000 in
theorem padlocklaw01_works.calls (r : Bool) (w : World) (h : padlocklaw01_works.f = some r) :
    Calls Try.prog 20 #[] w fun e w' => e = .returned (.bool r) ∧ Below w.heap.size w w' := by
  obtain rfl := Option.some.inj h
  have hu23 := Try.underlying23
  have hu36 := Try.underlying36
  have hu24 := Try.underlying24
  have hu31 := Try.underlying31
  have HC := Aside0.mk fun A w1 h1 => codes_Count.calls 3 4 A 2 [wq0, wq1] 5 0 w1 h1 (Nat.le_refl 2) (by decide)
  have HA := Aside0.mk fun A1 A2 w1 (h1 : (Kd.int .i64).C w1 A1 3 [0, 3, 1]) (h2 : (Kd.int .i64).C w1 A2 3 [3, 3, 0]) => codes_Answer.calls 3 4 (fun k => k < w1.heap.size) A1 3 [0, 3, 1] (fun k => k < w1.heap.size) A2 3 [3, 3, 0] 1 1 0 w1 (Kd.V_mk (Nat.le_refl 3) (Kd.C_F (Kd.heap_int .i64) h1)) (Kd.V_mk (Nat.le_refl 3) (Kd.C_F (Kd.heap_int .i64) h2)) (by decide)
  have hb0 := blk_alloc (blk_new w (.cells #[.int .i64 3, .int .i64 4] 23)) (.cells wcells 36)
  have hb1 : ((w.alloc (.cells #[.int .i64 3, .int .i64 4] 23)).alloc (.cells wcells 36)).heap[w.heap.size + 1]? = some (.cells wcells 36 (0, 0)) := by
    have := blk_new (w.alloc (.cells #[.int .i64 3, .int .i64 4] 23)) (.cells wcells 36); rwa [World.size_alloc] at this
  have HB := Aside0.mk (((Below.refl w.heap.size w).alloc (Nat.le_refl _) (.cells #[.int .i64 3, .int .i64 4] 23)).alloc (by simp) (.cells wcells 36))
  have HC1 := Aside0.mk (HC.out _ _ (works_C hb1))
  have HX := Aside0.mk hb0
  clear hb0 hb1 HC
  unfold wcells at HX HC1 HB
  go_enter Try.func20, Try.ntmps20
  go_wp2_with (first | (go_at_call 35; refine HC1.out.mono ?_; rintro e w1 ⟨rfl, h1⟩; have hB1 := blk_below HX.out h1; obtain ⟨hc0, hc1⟩ := cells2 hB1; have HB1 := Aside0.mk (below_then HB.out HB.out.size h1); clear h1) | (go_at_call 18; refine (HA.out _ _ _ (lent_C (x := [0, 3, 1]) (blk_alloc (blk_new w1 _) _) (by decide)) (lent_C (x := [3, 3, 0]) (by have := blk_new (w1.alloc (.cells #[.int .i64 0, .int .i64 3, .int .i64 1] 3)) (.cells #[.int .i64 3, .int .i64 3, .int .i64 0] 3); rw [World.size_alloc] at this; exact this) (by decide))).mono ?_; rintro e w2 ⟨rfl, h2⟩))
  go_ret
  exact ⟨rfl, below_then ((HB1.out.alloc HB1.out.size _).alloc (by have := HB1.out.size; simp; omega) _) (by have := HB1.out.size; simp; omega) h2⟩
end Go.Proofs.Ytimkchehdaadeaa.P
end
section
namespace Go.Proofs.Ytimkchehdaadeaa.P
open Go.RowKit Go.Proofs.YtimkchehdaadeaaW.PrintWords Go.Proofs.YtimkchehdaadeaaW.PrintLast Go.Proofs.YtimkchehdaadeaaW.PrintMore
set_option linter.unusedVariables false
set_option linter.unusedSimpArgs false
end Go.Proofs.Ytimkchehdaadeaa.P
end
