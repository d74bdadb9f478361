-- Printed for this claim by a program of the session (wip/tools/pr.py) over the kit's print.py.
import Derived.Test.YtimkchehdaadeaaPx0
import Derived.Test.YtimkchehdaadeaaPx2
import Derived.Test.YtimkchehdaadeaaPx3
import Derived.Test.YtimkchehdaadeaaPx6
import Derived.Test.YtimkchehdaadeaaHIsClue
namespace Go.Proofs.Ytimkchehdaadeaa.P
open Go.RowKit Go.Proofs.YtimkchehdaadeaaW.PrintWords Go.Proofs.YtimkchehdaadeaaW.PrintLast Go.Proofs.YtimkchehdaadeaaW.PrintMore
attribute [local go_sem] max2_int min2_int max_two min_two max_three min_three max_four min_four   -- for this text's walks alone
set_option linter.unusedVariables false
set_option linter.unusedSimpArgs false

/-! ### padlockref01_Implies: function 33 -/
def padlockref01_Implies.l0 : Nat → List (List Int) → Int → Int → Int → Int → Int → Int → List Int → Bool → Option (List Int × Bool × Int)
  | 0, _, _, _, _, _, _, _, _, _ => none
  | k + 1, x10, x11, x33103000, x33103001, x33103002, x33103003, x33103004, x33103005, x33103006 => if x11 < (x10.length : Int) then (if 0 ≤ x11 then ((padlockref01_True.f k x33103000 x33103001 x33103002 x33103003 x33103004 x33103005 x33103006 (rd_L2 x10 x11)).bind fun t33109 => (if t33109 = true then (padlockref01_Implies.l0 k x10 (wrap64 (x11 + 1)) x33103000 x33103001 x33103002 x33103003 x33103004 x33103005 x33103006) else (some (rd_L2 x10 x11, false, 0)))) else (none)) else (some (([] : List Int), true, 0))
def padlockref01_Implies.f (k : Nat) (a0_0 : Int) (a0_1 : Int) (l1 : List (S36)) (a2_0 : Int) (a2_1 : Int) (a2_2 : Int) (a2_3 : Int) (a2_4 : Int) (l2_5 : List Int) (a2_6 : Bool) : Option (List Int × Bool × Int) := (padlockref01_CheckClues.f k a0_0 a0_1 l1).bind fun t33103 => (if t33103 = 0 then ((padlockref01_isClue.f a0_0 a0_1 a2_0 a2_1 a2_2 a2_3 a2_4 l2_5 a2_6).bind fun t33104 => (if t33104 = true then ((padlockref01_All.f k a0_0 a0_1 l1).bind fun t33105 => (padlockref01_Implies.l0 k t33105 0 a2_0 a2_1 a2_2 a2_3 a2_4 l2_5 a2_6)) else (some (([] : List Int), false, 11)))) else (some (([] : List Int), false, t33103)))
theorem padlockref01_Implies.mono_l : ∀ k, (∀ y0 y1 y2 y3 y4 y5 y6 y7 y8, LeO (padlockref01_Implies.l0 k y0 y1 y2 y3 y4 y5 y6 y7 y8) (padlockref01_Implies.l0 (k + 1) y0 y1 y2 y3 y4 y5 y6 y7 y8))
  | 0 => fun _ _ _ _ _ _ _ _ _ r h => by simp [padlockref01_Implies.l0] at h
  | k + 1 => by
    have ih0 := padlockref01_Implies.mono_l k
    · intro y0 y1 y2 y3 y4 y5 y6 y7 y8
      unfold padlockref01_Implies.l0
      repeat' first
      | (with_reducible exact ih0 _ _ _ _ _ _ _ _ _)
      | (with_reducible exact padlockref01_All.mono _ _ _ _)
      | (with_reducible exact padlockref01_CheckClues.mono _ _ _ _)
      | (with_reducible exact padlockref01_True.mono _ _ _ _ _ _ _ _ _)
      | (with_reducible exact LeO.refl _)
      | (with_reducible exact LeO.none _)
      | (with_reducible refine LeO.ite ?_ ?_)
      | (with_reducible refine LeO.bind ?_ (fun _ => ?_))
      | exact ih0 _ _ _ _ _ _ _ _ _
      | exact padlockref01_All.mono _ _ _ _
      | exact padlockref01_CheckClues.mono _ _ _ _
      | exact padlockref01_True.mono _ _ _ _ _ _ _ _ _
      | exact LeO.none _
      | refine LeO.ite ?_ ?_
      | refine LeO.bind ?_ (fun _ => ?_)
theorem padlockref01_Implies.mono : ∀ a0 a1 a2 a3 a4 a5 a6 a7 a8 a9 k, LeO (padlockref01_Implies.f k a0 a1 a2 a3 a4 a5 a6 a7 a8 a9) (padlockref01_Implies.f (k + 1) a0 a1 a2 a3 a4 a5 a6 a7 a8 a9) := by
  intro a0 a1 a2 a3 a4 a5 a6 a7 a8 a9 k
  have ih0 := padlockref01_Implies.mono_l k
  unfold padlockref01_Implies.f
  repeat' first
      | (with_reducible exact ih0 _ _ _ _ _ _ _ _ _)
      | (with_reducible exact padlockref01_All.mono _ _ _ _)
      | (with_reducible exact padlockref01_CheckClues.mono _ _ _ _)
      | (with_reducible exact padlockref01_True.mono _ _ _ _ _ _ _ _ _)
      | (with_reducible exact LeO.refl _)
      | (with_reducible exact LeO.none _)
      | (with_reducible refine LeO.ite ?_ ?_)
      | (with_reducible refine LeO.bind ?_ (fun _ => ?_))
      | exact ih0 _ _ _ _ _ _ _ _ _
      | exact padlockref01_All.mono _ _ _ _
      | exact padlockref01_CheckClues.mono _ _ _ _
      | exact padlockref01_True.mono _ _ _ _ _ _ _ _ _
      | exact LeO.none _
      | refine LeO.ite ?_ ?_
      | refine LeO.bind ?_ (fun _ => ?_)
set_option maxHeartbeats 8000000 in
set_option maxRecDepth 100000 in
theorem padlockref01_Implies.calls (k : Nat) (a0_0 : Int) (a0_1 : Int) (A1 : Option Addr) (c1 : Nat) (l1 : List (S36)) (a2_0 : Int) (a2_1 : Int) (a2_2 : Int) (a2_3 : Int) (a2_4 : Int) (A2_5 : Option Addr) (c2_5 : Nat) (l2_5 : List Int) (a2_6 : Bool) (r1 : List Int) (r2 : Bool) (r3 : Int) (w : World) (hr1 : Kd.C k36 w A1 l1.length l1) (hc1 : l1.length ≤ c1) (hr2_5 : Kd.C (Kd.int .i64) w A2_5 l2_5.length l2_5) (hc2_5 : l2_5.length ≤ c2_5) (h : padlockref01_Implies.f k a0_0 a0_1 l1 a2_0 a2_1 a2_2 a2_3 a2_4 l2_5 a2_6 = some (r1, r2, r3)) :
    Calls Try.prog 33 #[.agg #[.int .i64 a0_0, .int .i64 a0_1], .slice A1 l1.length c1, .agg #[.int .i64 a2_0, .int .i64 a2_1, .int .i64 a2_2, .int .i64 a2_3, .int .i64 a2_4, .slice A2_5 l2_5.length c2_5, .bool a2_6]] w fun e w' => ∃ v0_ : Value, e = .returned (.tuple #[v0_, .bool r2, .int .i64 r3]) ∧ Kd.R (Kd.int .i64) 3 w' w.heap.size (fun _ => True) v0_ r1 ∧ Below w.heap.size w w' := by
  have hu23 := Try.underlying23
  have hu36 := Try.underlying36
  have HR1 := Aside0.mk hr1
  have HC1 := Aside0.mk hc1
  clear hr1 hc1
  have HR2_5 := Aside0.mk hr2_5
  have HC2_5 := Aside0.mk hc2_5
  clear hr2_5 hc2_5
  have HB := Aside0.mk (Below.refl w.heap.size w)
  have H : ((padlockref01_CheckClues.f k a0_0 a0_1 l1).bind fun t33103 => (if t33103 = 0 then ((padlockref01_isClue.f a0_0 a0_1 a2_0 a2_1 a2_2 a2_3 a2_4 l2_5 a2_6).bind fun t33104 => (if t33104 = true then ((padlockref01_All.f k a0_0 a0_1 l1).bind fun t33105 => (padlockref01_Implies.l0 k t33105 0 a2_0 a2_1 a2_2 a2_3 a2_4 l2_5 a2_6)) else (some (([] : List Int), false, 11)))) else (some (([] : List Int), false, t33103)))) = some (r1, r2, r3) := h
  clear h
  replace H := Option.bind_eq_some_iff.mp H
  obtain ⟨t33103, A40, H⟩ := H
  replace H : (if t33103 = 0 then ((padlockref01_isClue.f a0_0 a0_1 a2_0 a2_1 a2_2 a2_3 a2_4 l2_5 a2_6).bind fun t33104 => (if t33104 = true then ((padlockref01_All.f k a0_0 a0_1 l1).bind fun t33105 => (padlockref01_Implies.l0 k t33105 0 a2_0 a2_1 a2_2 a2_3 a2_4 l2_5 a2_6)) else (some (([] : List Int), false, 11)))) else (some (([] : List Int), false, t33103))) = some (r1, r2, r3) := H
  have A4 := Aside0.mk A40
  clear A40
  by_cases c5 : t33103 = 0
  · rw [if_pos c5] at H
    have c5b0 : (t33103 == 0) = true := beq_iff_eq.mpr c5
    have c5b1 : (t33103 != 0) = false := bne_eq_false_iff_eq.mpr c5
    clear c5
    replace H := Option.bind_eq_some_iff.mp H
    obtain ⟨t33104, A60, H⟩ := H
    replace H : (if t33104 = true then ((padlockref01_All.f k a0_0 a0_1 l1).bind fun t33105 => (padlockref01_Implies.l0 k t33105 0 a2_0 a2_1 a2_2 a2_3 a2_4 l2_5 a2_6)) else (some (([] : List Int), false, 11))) = some (r1, r2, r3) := H
    have A6 := Aside0.mk A60
    clear A60
    by_cases c7 : t33104 = true
    · subst c7
      have H1 : ((padlockref01_All.f k a0_0 a0_1 l1).bind fun t33105 => (padlockref01_Implies.l0 k t33105 0 a2_0 a2_1 a2_2 a2_3 a2_4 l2_5 a2_6)) = some (r1, r2, r3) := by rw [if_pos rfl] at H; exact H
      clear H
      have H := H1
      clear H1
      replace H := Option.bind_eq_some_iff.mp H
      obtain ⟨t33105, A80, H⟩ := H
      replace H : (padlockref01_Implies.l0 k t33105 0 a2_0 a2_1 a2_2 a2_3 a2_4 l2_5 a2_6) = some (r1, r2, r3) := H
      have A8 := Aside0.mk A80
      clear A80
      have H' := Aside0.mk H
      clear H
      go_enter Try.func33, Try.ntmps33
      go_wp2_with (first | ((with_reducible refine gate_dst (N := 3) rfl ?_); refine box_event ?hg (N := 3) ?hd (cs := #[.int .i64 a0_0, .int .i64 a0_1]) (t := 23) ?hr ?_; (case hd => rfl); (case hg => rfl); (case hr => first | (go_simp; done) | (go_simp; rfl)); intro gb33101 hg w9 hbox hb; have n0_ := Aside0.mk (below_step (by repeat (first | (with_reducible first | exact HB.out | apply below_alloc | apply pw_below_drewN | apply below_drew1) | exact HB.out)) hb); have n1_ := Aside0.mk (hbox); have n2_ := Aside0.mk ((by rw [hg]; exact (below_size (by repeat (first | (with_reducible first | exact HB.out | apply below_alloc | apply pw_below_drewN | apply below_drew1) | exact HB.out))) : w.heap.size ≤ gb33101)); have n3_ := Aside0.mk ((by rw [hg]; exact (below_size (by repeat (first | (with_reducible first | exact HB.out | apply below_alloc | apply pw_below_drewN | apply below_drew1) | exact HB.out))) : w.heap.size ≤ gb33101)); clear HB; have HB := n0_; have BK33101 := n1_; have GW33101 := n2_; have GE33101 := n3_; clear n0_ n1_ n2_ n3_; clear hb hbox hg) | ((with_reducible refine gate_dst (N := 5) rfl ?_); refine box_event ?hg (N := 5) ?hd (cs := #[.int .i64 a2_0, .int .i64 a2_1, .int .i64 a2_2, .int .i64 a2_3, .int .i64 a2_4, .slice A2_5 l2_5.length c2_5, .bool a2_6]) (t := 36) ?hr ?_; (case hd => rfl); (case hg => rfl); (case hr => first | (go_simp; done) | (go_simp; rfl)); intro gb33102 hg w10 hbox hb; have n0_ := Aside0.mk (blk_below (g := gb33101) (o := .cells #[.int .i64 a0_0, .int .i64 a0_1] 23 (0, 0)) (by (with_reducible repeat (first | refine blk_drewN ?_ _ | refine blk_drew ?_ | refine blk_alloc ?_ _)); exact BK33101.out) hb); have n1_ := Aside0.mk (below_step (by repeat (first | (with_reducible first | exact HB.out | apply below_alloc | apply pw_below_drewN | apply below_drew1 | refine below_set ?_ GE33101.out) | exact HB.out)) hb); have n2_ := Aside0.mk (hbox); have n3_ := Aside0.mk ((by rw [hg]; exact (below_size (by repeat (first | (with_reducible first | exact HB.out | apply below_alloc | apply pw_below_drewN | apply below_drew1 | refine below_set ?_ GE33101.out) | exact HB.out))) : w.heap.size ≤ gb33102)); have n4_ := Aside0.mk ((by rw [hg]; exact (below_size (by repeat (first | (with_reducible first | exact HB.out | apply below_alloc | apply pw_below_drewN | apply below_drew1 | refine below_set ?_ GE33101.out) | exact HB.out))) : w.heap.size ≤ gb33102)); have n5_ := Aside0.mk ((by rw [hg]; exact Nat.ne_of_lt (blk_lt (g := gb33101) (o := .cells #[.int .i64 a0_0, .int .i64 a0_1] 23 (0, 0)) (by (with_reducible repeat (first | refine blk_drewN ?_ _ | refine blk_drew ?_ | refine blk_alloc ?_ _)); exact BK33101.out)) : gb33101 ≠ gb33102)); have n6_ := Aside0.mk ((by rw [hg]; exact Nat.ne_of_gt (blk_lt (g := gb33101) (o := .cells #[.int .i64 a0_0, .int .i64 a0_1] 23 (0, 0)) (by (with_reducible repeat (first | refine blk_drewN ?_ _ | refine blk_drew ?_ | refine blk_alloc ?_ _)); exact BK33101.out)) : gb33102 ≠ gb33101)); clear BK33101; clear HB; have BK33101 := n0_; have HB := n1_; have BK33102 := n2_; have GW33102 := n3_; have GE33102 := n4_; have NB33101_33102 := n5_; have NB33102_33101 := n6_; clear n0_ n1_ n2_ n3_ n4_ n5_ n6_; clear hb hbox hg; have hnb11 := NB33101_33102.out; have hnc11 := NB33102_33101.out; have hcz12_0 : w10.cell? ⟨gb33101, 0, none⟩ = some (.int .i64 a0_0) := (blk_cell BK33101.out 0).trans rfl; have hcz12_1 : w10.cell? ⟨gb33101, 1, none⟩ = some (.int .i64 a0_1) := (blk_cell BK33101.out 1).trans rfl; have hfz12_0 := blk_frozen BK33101.out 0; have hfz12_1 := blk_frozen BK33101.out 1) | ((with_reducible refine gate_callee (f := 34) rfl ?_); refine goesL_ (some 14) rfl rfl Try.func34 (by kernel_rfl) rfl #[.agg #[.int .i64 a0_0, .int .i64 a0_1], .slice A1 l1.length c1] rfl (by (try simp only [List.map_toArray, List.map_cons, List.map_nil]); first | done | rfl | (simp only [List.length_drop, List.length_take]; rfl)) ?_; (with_reducible refine (padlockref01_CheckClues.calls k a0_0 a0_1 _ _ l1 t33103 _ ?side1 ?side2 A4.out).mono ?_); (case side1 => repeat (first | exact (Kd.C_below HR1.out HB.out) | (with_reducible refine Kd.C_alloc ?_ _) | (with_reducible refine Kd.C_drewN ?_ _) | (with_reducible refine Kd.C_drew ?_))); (case side2 => exact HC1.out); rintro e w13 ⟨rfl, hb⟩; refine ⟨_, rfl, ?_⟩; have n0_ := Aside0.mk (blk_below (g := gb33101) (o := .cells #[.int .i64 a0_0, .int .i64 a0_1] 23 (0, 0)) (by (with_reducible repeat (first | refine blk_drewN ?_ _ | refine blk_drew ?_ | refine blk_alloc ?_ _)); exact BK33101.out) hb); have n1_ := Aside0.mk (blk_below (g := gb33102) (o := .cells #[.int .i64 a2_0, .int .i64 a2_1, .int .i64 a2_2, .int .i64 a2_3, .int .i64 a2_4, .slice A2_5 l2_5.length c2_5, .bool a2_6] 36 (0, 0)) (by (with_reducible repeat (first | refine blk_drewN ?_ _ | refine blk_drew ?_ | refine blk_alloc ?_ _)); exact BK33102.out) hb); have n2_ := Aside0.mk (below_step (by repeat (first | (with_reducible first | exact HB.out | apply below_alloc | apply pw_below_drewN | apply below_drew1 | refine below_set ?_ GE33101.out | refine below_set ?_ GE33102.out) | exact HB.out)) hb); clear BK33101; clear BK33102; clear HB; have BK33101 := n0_; have BK33102 := n1_; have HB := n2_; clear n0_ n1_ n2_; (try clear hb); (try clear hb2); (try clear hk); (try clear hi); have hcz14_0 : w13.cell? ⟨gb33101, 0, none⟩ = some (.int .i64 a0_0) := (blk_cell BK33101.out 0).trans rfl; have hcz14_1 : w13.cell? ⟨gb33101, 1, none⟩ = some (.int .i64 a0_1) := (blk_cell BK33101.out 1).trans rfl; have hfz14_0 := blk_frozen BK33101.out 0; have hfz14_1 := blk_frozen BK33101.out 1; have hcz15_0 : w13.cell? ⟨gb33102, 0, none⟩ = some (.int .i64 a2_0) := (blk_cell BK33102.out 0).trans rfl; have hcz15_1 : w13.cell? ⟨gb33102, 1, none⟩ = some (.int .i64 a2_1) := (blk_cell BK33102.out 1).trans rfl; have hcz15_2 : w13.cell? ⟨gb33102, 2, none⟩ = some (.int .i64 a2_2) := (blk_cell BK33102.out 2).trans rfl; have hcz15_3 : w13.cell? ⟨gb33102, 3, none⟩ = some (.int .i64 a2_3) := (blk_cell BK33102.out 3).trans rfl; have hcz15_4 : w13.cell? ⟨gb33102, 4, none⟩ = some (.int .i64 a2_4) := (blk_cell BK33102.out 4).trans rfl; have hcz15_5 : w13.cell? ⟨gb33102, 5, none⟩ = some (.slice A2_5 l2_5.length c2_5) := (blk_cell BK33102.out 5).trans rfl; have hcz15_6 : w13.cell? ⟨gb33102, 6, none⟩ = some (.bool a2_6) := (blk_cell BK33102.out 6).trans rfl; have hfz15_0 := blk_frozen BK33102.out 0; have hfz15_1 := blk_frozen BK33102.out 1; have hfz15_2 := blk_frozen BK33102.out 2; have hfz15_3 := blk_frozen BK33102.out 3; have hfz15_4 := blk_frozen BK33102.out 4; have hfz15_5 := blk_frozen BK33102.out 5; have hfz15_6 := blk_frozen BK33102.out 6) | ((with_reducible refine gate_callee (f := 69) rfl ?_); refine goesL_ (some 20) rfl rfl Try.func69 (by kernel_rfl) rfl #[.agg #[.int .i64 a0_0, .int .i64 a0_1], .agg #[.int .i64 a2_0, .int .i64 a2_1, .int .i64 a2_2, .int .i64 a2_3, .int .i64 a2_4, .slice A2_5 l2_5.length c2_5, .bool a2_6]] rfl (by (try simp only [List.map_toArray, List.map_cons, List.map_nil]); first | done | rfl | (simp only [List.length_drop, List.length_take]; rfl)) ?_; (with_reducible refine (padlockref01_isClue.calls a0_0 a0_1 a2_0 a2_1 a2_2 a2_3 a2_4 _ _ l2_5 a2_6 true _ ?side1 ?side2 A6.out).mono ?_); (case side1 => repeat (first | exact (Kd.C_below HR2_5.out HB.out) | (with_reducible refine Kd.C_alloc ?_ _) | (with_reducible refine Kd.C_drewN ?_ _) | (with_reducible refine Kd.C_drew ?_))); (case side2 => exact HC2_5.out); rintro e w16 ⟨rfl, hb⟩; refine ⟨_, rfl, ?_⟩; have n0_ := Aside0.mk (blk_below (g := gb33101) (o := .cells #[.int .i64 a0_0, .int .i64 a0_1] 23 (0, 0)) (by (with_reducible repeat (first | refine blk_drewN ?_ _ | refine blk_drew ?_ | refine blk_alloc ?_ _)); exact BK33101.out) hb); have n1_ := Aside0.mk (blk_below (g := gb33102) (o := .cells #[.int .i64 a2_0, .int .i64 a2_1, .int .i64 a2_2, .int .i64 a2_3, .int .i64 a2_4, .slice A2_5 l2_5.length c2_5, .bool a2_6] 36 (0, 0)) (by (with_reducible repeat (first | refine blk_drewN ?_ _ | refine blk_drew ?_ | refine blk_alloc ?_ _)); exact BK33102.out) hb); have n2_ := Aside0.mk (below_step (by repeat (first | (with_reducible first | exact HB.out | apply below_alloc | apply pw_below_drewN | apply below_drew1 | refine below_set ?_ GE33101.out | refine below_set ?_ GE33102.out) | exact HB.out)) hb); clear BK33101; clear BK33102; clear HB; have BK33101 := n0_; have BK33102 := n1_; have HB := n2_; clear n0_ n1_ n2_; (try clear hb); (try clear hb2); (try clear hk); (try clear hi); have hcz17_0 : w16.cell? ⟨gb33101, 0, none⟩ = some (.int .i64 a0_0) := (blk_cell BK33101.out 0).trans rfl; have hcz17_1 : w16.cell? ⟨gb33101, 1, none⟩ = some (.int .i64 a0_1) := (blk_cell BK33101.out 1).trans rfl; have hfz17_0 := blk_frozen BK33101.out 0; have hfz17_1 := blk_frozen BK33101.out 1) | ((with_reducible refine gate_callee (f := 74) rfl ?_); refine goesL_ (some 24) rfl rfl Try.func74 (by kernel_rfl) rfl #[.agg #[.int .i64 a0_0, .int .i64 a0_1], .slice A1 l1.length c1] rfl (by (try simp only [List.map_toArray, List.map_cons, List.map_nil]); first | done | rfl | (simp only [List.length_drop, List.length_take]; rfl)) ?_; (with_reducible refine (padlockref01_All.calls k a0_0 a0_1 _ _ l1 t33105 _ ?side1 ?side2 A8.out).mono ?_); (case side1 => repeat (first | exact (Kd.C_below HR1.out HB.out) | (with_reducible refine Kd.C_alloc ?_ _) | (with_reducible refine Kd.C_drewN ?_ _) | (with_reducible refine Kd.C_drew ?_))); (case side2 => exact HC1.out); rintro e w18 ⟨v33106, rfl, ho0, hb⟩; refine ⟨_, rfl, ?_⟩; have n0_ := Aside0.mk (Kd.S_lower ho0 (below_size (by repeat (first | (with_reducible first | exact HB.out | apply below_alloc | apply pw_below_drewN | apply below_drew1 | refine below_set ?_ GE33101.out | refine below_set ?_ GE33102.out) | exact HB.out)))); have n1_ := Aside0.mk (blk_below (g := gb33101) (o := .cells #[.int .i64 a0_0, .int .i64 a0_1] 23 (0, 0)) (by (with_reducible repeat (first | refine blk_drewN ?_ _ | refine blk_drew ?_ | refine blk_alloc ?_ _)); exact BK33101.out) hb); have n2_ := Aside0.mk (blk_below (g := gb33102) (o := .cells #[.int .i64 a2_0, .int .i64 a2_1, .int .i64 a2_2, .int .i64 a2_3, .int .i64 a2_4, .slice A2_5 l2_5.length c2_5, .bool a2_6] 36 (0, 0)) (by (with_reducible repeat (first | refine blk_drewN ?_ _ | refine blk_drew ?_ | refine blk_alloc ?_ _)); exact BK33102.out) hb); have n3_ := Aside0.mk (below_step (by repeat (first | (with_reducible first | exact HB.out | apply below_alloc | apply pw_below_drewN | apply below_drew1 | refine below_set ?_ GE33101.out | refine below_set ?_ GE33102.out) | exact HB.out)) hb); clear BK33101; clear BK33102; clear HB; have HO33107 := n0_; have BK33101 := n1_; have BK33102 := n2_; have HB := n3_; clear n0_ n1_ n2_ n3_; (try clear hb); (try clear hb2); (try clear hk); (try clear hi); (try clear ho0)))
      go_loopg [11] k (fun kq v11 w' => ∃ (x11_1 : Int), v11 = .int .i64 x11_1 ∧ Aside0 (padlockref01_Implies.l0 kq t33105 x11_1 a2_0 a2_1 a2_2 a2_3 a2_4 l2_5 a2_6 = some (r1, r2, r3)) ∧ Aside0 (kq ≤ k) ∧ Aside0 (Kd.S (Kd.slice 3 (Kd.int .i64)) 24 w' w.heap.size (fun _ => True) v33106 t33105) ∧ Aside0 (w'.heap[gb33101]? = some (.cells #[.int .i64 a0_0, .int .i64 a0_1] 23 (0, 0))) ∧ Aside0 (w'.heap[gb33102]? = some (.cells #[.int .i64 a2_0, .int .i64 a2_1, .int .i64 a2_2, .int .i64 a2_3, .int .i64 a2_4, (.slice A2_5 l2_5.length c2_5), .bool a2_6] 36 (0, 0))) ∧ Aside0 (Below w.heap.size w w'))
      case atStart => exact ⟨(0), (by first | rfl | (simp; done) | (simp [*]; done)), H', ⟨Nat.le_refl _⟩, ⟨by (with_reducible repeat (first | apply Kd.S_alloc | apply Kd.S_drewN | apply Kd.S_drew)); exact HO33107.out⟩, ⟨by (with_reducible repeat (first | refine blk_drewN ?_ _ | refine blk_drew ?_ | refine blk_alloc ?_ _)); exact BK33101.out⟩, ⟨by (with_reducible repeat (first | refine blk_drewN ?_ _ | refine blk_drew ?_ | refine blk_alloc ?_ _)); exact BK33102.out⟩, ⟨by repeat (first | (with_reducible first | exact HB.out | apply below_alloc | apply pw_below_drewN | apply below_drew1 | refine below_set ?_ GE33101.out | refine below_set ?_ GE33102.out) | exact HB.out)⟩⟩
      case round =>
        clear H'
        try clear c1
        try clear c2
        try clear p2
        try clear c3
        try clear c5
        try clear c5b0
        try clear c5b1
        try clear c6
        try clear c7
        try clear c11
        try clear hcz12_0
        try clear hcz12_1
        try clear hcz14_0
        try clear hcz14_1
        try clear hcz15_0
        try clear hcz15_1
        try clear hcz15_2
        try clear hcz15_3
        try clear hcz15_4
        try clear hcz15_5
        try clear hcz15_6
        try clear hcz17_0
        try clear hcz17_1
        try clear hfz12_0
        try clear hfz12_1
        try clear hfz14_0
        try clear hfz14_1
        try clear hfz15_0
        try clear hfz15_1
        try clear hfz15_2
        try clear hfz15_3
        try clear hfz15_4
        try clear hfz15_5
        try clear hfz15_6
        try clear hfz17_0
        try clear hfz17_1
        obtain ⟨x11_1, rfl, HA, HK1, HO_10, BK33101, BK33102, HB⟩ := hrel
        cases gk with
        | zero => exact absurd HA.out (by simp [padlockref01_Implies.l0])
        | succ k1 =>
          have H := HA.out
          clear HA
          simp only [padlockref01_Implies.l0] at H
          by_cases c19 : x11_1 < (t33105.length : Int)
          · rw [if_pos c19] at H
            have c19b0 : decide (x11_1 < (t33105.length : Int)) = true := decide_eq_true c19
            clear c19
            by_cases c20 : 0 ≤ x11_1
            · rw [if_pos c20] at H
              have c20b0 : decide (0 ≤ x11_1) = true := decide_eq_true c20
              clear c20
              replace H := Option.bind_eq_some_iff.mp H
              obtain ⟨t33109, A210, H⟩ := H
              replace H : (if t33109 = true then (padlockref01_Implies.l0 k1 t33105 (wrap64 (x11_1 + 1)) a2_0 a2_1 a2_2 a2_3 a2_4 l2_5 a2_6) else (some (rd_L2 t33105 x11_1, false, 0))) = some (r1, r2, r3) := H
              have A21 := Aside0.mk A210
              clear A210
              by_cases c22 : t33109 = true
              · subst c22
                have H1 : (padlockref01_Implies.l0 k1 t33105 (wrap64 (x11_1 + 1)) a2_0 a2_1 a2_2 a2_3 a2_4 l2_5 a2_6) = some (r1, r2, r3) := by rw [if_pos rfl] at H; exact H
                clear H
                have H := H1
                clear H1
                have H' := Aside0.mk H
                clear H
                obtain ⟨Ao23, co23, eo23⟩ := Kd.S_slice HO_10.out
                subst eo23
                try go_wp2
                have n0_ := Aside0.mk (Kd.S_drew HO_10.out)
                have n1_ := Aside0.mk (blk_drew BK33101.out)
                have n2_ := Aside0.mk (blk_drew BK33102.out)
                have n3_ := Aside0.mk (below_drew1 HB.out)
                clear HO_10
                clear BK33101
                clear BK33102
                clear HB
                have HO_10 := n0_
                have BK33101 := n1_
                have BK33102 := n2_
                have HB := n3_
                clear n0_ n1_ n2_ n3_
                have p33108 : 0 ≤ (x11_1 : Int) := of_decide_eq_true (by first | (with_reducible assumption) | assumption)
                have q33108 : x11_1 < (t33105.length : Int) := of_decide_eq_true (by first | (with_reducible assumption) | assumption)
                obtain ⟨ad33108, A33108_0, c33108_0, e33108, hx33108_0, hl33108_0, hi33108_0⟩ := at_L2 (Kd.S_reads' HO_10.out).2.2 x11_1 p33108 q33108
                cases e33108
                obtain ⟨ce33108, hce33108, hMe33108, hcc33108⟩ := Kd.S_get HO_10.out [] x11_1 p33108 (by first | exact q33108 | exact of_decide_eq_true (by first | (with_reducible assumption) | assumption) | (have e_ := (Kd.S_reads' HO_10.out).1; omega))
                obtain ⟨ve33108_0, rfl, ge33108_0⟩ := hMe33108
                have hv33108_0 := hcc33108 0 _ rfl
                rw [Nat.add_zero, show ((Kd.slice 3 (Kd.int .i64))).sz = 1 from rfl, Nat.mul_one] at hv33108_0
                replace hv33108_0 := Option.some.inj (hv33108_0.symm.trans hx33108_0)
                rw [hv33108_0] at ge33108_0
                have HL33108_0 := Aside0.mk (show Kd.R (Kd.int .i64) 3 _ _ _ _ (rd_L2 t33105 x11_1) from ge33108_0)
                clear hv33108_0 ge33108_0
                clear hcc33108 hce33108
                have HR33108_0 := Aside0.mk hi33108_0
                have HC33108_0 := Aside0.mk hl33108_0
                clear hi33108_0 hl33108_0
                replace p33108 := eq_true p33108
                replace q33108 := eq_true q33108
                refine start_ (n := 7) (S := fun w' => w'.cell? ⟨gb33102, 0, none⟩ = some (.int .i64 a2_0) ∧ w'.cell? ⟨gb33102, 1, none⟩ = some (.int .i64 a2_1) ∧ w'.cell? ⟨gb33102, 2, none⟩ = some (.int .i64 a2_2) ∧ w'.cell? ⟨gb33102, 3, none⟩ = some (.int .i64 a2_3) ∧ w'.cell? ⟨gb33102, 4, none⟩ = some (.int .i64 a2_4) ∧ w'.cell? ⟨gb33102, 5, none⟩ = some (.slice A2_5 l2_5.length c2_5) ∧ w'.cell? ⟨gb33102, 6, none⟩ = some (.bool a2_6) ∧ w'.cell? (ad33108.add (x11_1).toNat) = some (.slice A33108_0 (rd_L2 t33105 x11_1).length c33108_0)) (ds := []) #[false, false, false, false, false, false, false] (by kernel_rfl) rfl rfl ⟨(blk_cell BK33102.out 0).trans rfl, (blk_cell BK33102.out 1).trans rfl, (blk_cell BK33102.out 2).trans rfl, (blk_cell BK33102.out 3).trans rfl, (blk_cell BK33102.out 4).trans rfl, (blk_cell BK33102.out 5).trans rfl, (blk_cell BK33102.out 6).trans rfl, hx33108_0⟩ (fun hHeld => ?_)
                generalize wr.drew = w24 at HO_10 BK33101 BK33102 HB HL33108_0 HR33108_0 hx33108_0 hHeld ⊢
                refine pure_ (i := 1) (N := some 32) (v := ?_) (a' := ?_) #[false, true, false, false, false, false, false] rfl rfl (by kernel_rfl) (fun _ _ _ h => h) (Or.inl ⟨by rfl, ?_⟩) ?_ ?_
                rotate_left
                · intro w'
                  go_simp
                  with_reducible rfl
                rotate_left
                · simp only [Act.put, List.setIfInBounds_toArray, List.set_cons_zero, List.set_cons_succ, i64_w, i32_w]
                  rfl
                refine pure_ (i := 2) (N := some 33) (v := ?_) (a' := ?_) #[false, true, true, false, false, false, false] rfl rfl (by kernel_rfl) (fun _ _ _ h => h) (Or.inl ⟨by rfl, ?_⟩) ?_ ?_
                rotate_left
                · intro w'
                  go_simp
                  with_reducible rfl
                rotate_left
                · simp only [Act.put, List.setIfInBounds_toArray, List.set_cons_zero, List.set_cons_succ, i64_w, i32_w]
                  rfl
                refine pure_ (i := 3) (N := some 34) (v := ?_) (a' := ?_) #[false, true, true, true, false, false, false] rfl rfl (by kernel_rfl) (fun _ _ _ h => h) (Or.inl ⟨by rfl, ?_⟩) ?_ ?_
                rotate_left
                · intro w'
                  go_simp
                  with_reducible rfl
                rotate_left
                · simp only [Act.put, List.setIfInBounds_toArray, List.set_cons_zero, List.set_cons_succ, i64_w, i32_w]
                  rfl
                refine take_ (i := 0) (N := some 31) (v := ?_) (a' := ?_) #[true, true, true, true, false, false, false] rfl rfl (by kernel_rfl) (fun _ _ _ h => h) (Or.inl ⟨by rfl, ?_⟩) hHeld ?_ ?_
                rotate_left
                · rintro w' ⟨s0, s1, s2, s3, s4, s5, s6, s7⟩
                  go_simp
                  with_reducible rfl
                rotate_left
                · simp only [Act.put, List.setIfInBounds_toArray, List.set_cons_zero, List.set_cons_succ, i64_w, i32_w]
                  rfl
                refine take_ (i := 4) (N := some 35) (v := ?_) (a' := ?_) #[true, true, true, true, true, false, false] rfl rfl (by kernel_rfl) (fun _ _ _ h => h) (Or.inl ⟨by rfl, ?_⟩) hHeld ?_ ?_
                rotate_left
                · rintro w' ⟨s0, s1, s2, s3, s4, s5, s6, s7⟩
                  go_simp
                  with_reducible rfl
                rotate_left
                · simp only [Act.put, List.setIfInBounds_toArray, List.set_cons_zero, List.set_cons_succ, i64_w, i32_w]
                  rfl
                refine one_ (i := 5) (N := some 36) #[true, true, true, true, true, true, false] rfl rfl (by kernel_rfl) (by decide) (fun K hK => ?_)
                refine goes_ Try.func71 (by kernel_rfl) rfl #[.agg #[.int .i64 a2_0, .int .i64 a2_1, .int .i64 a2_2, .int .i64 a2_3, .int .i64 a2_4, .slice A2_5 l2_5.length c2_5, .bool a2_6], .slice A33108_0 (rd_L2 t33105 x11_1).length c33108_0] (by rfl) rfl rfl (by (try simp only [List.map_toArray, List.map_cons, List.map_nil]); first | done | rfl | (simp only [List.length_drop, List.length_take]; rfl)) ?_
                with_reducible refine (padlockref01_True.calls k1 a2_0 a2_1 a2_2 a2_3 a2_4 _ _ l2_5 a2_6 _ _ (rd_L2 t33105 x11_1) true _ ?side1 ?side2 ?side3 ?side4 A21.out).mono ?_
                (case side1 => repeat (first | exact (Kd.C_below HR2_5.out HB.out) | (with_reducible refine Kd.C_alloc ?_ _) | (with_reducible refine Kd.C_drewN ?_ _) | (with_reducible refine Kd.C_drew ?_)))
                (case side2 => exact HC2_5.out)
                (case side3 => repeat (first | exact (by repeat (first | (with_reducible exact HR33108_0.out) | (with_reducible refine Kd.C_alloc ?_ _) | (with_reducible refine Kd.C_drewN ?_ _) | (with_reducible refine Kd.C_drew ?_) | exact HR33108_0.out)) | (with_reducible refine Kd.C_alloc ?_ _) | (with_reducible refine Kd.C_drewN ?_ _) | (with_reducible refine Kd.C_drew ?_)))
                (case side4 => exact HC33108_0.out)
                rintro e w25 ⟨rfl, hb⟩
                have HS7_ := (hb.cell (World.block_lt_of_cell? _ _ (hHeld.2.2.2.2.2.2.2))).trans (hHeld.2.2.2.2.2.2.2)
                refine ⟨_, rfl, ?_⟩
                have n0_ := Aside0.mk (Kd.S_below (by (with_reducible repeat (first | apply Kd.S_alloc | apply Kd.S_drewN | apply Kd.S_drew)); exact HO_10.out) hb)
                have n1_ := Aside0.mk (Kd.R_below (by (with_reducible repeat (first | apply Kd.R_alloc | apply Kd.R_drewN | apply Kd.R_drew)); exact HL33108_0.out) hb)
                have n2_ := Aside0.mk (blk_below (g := gb33101) (o := .cells #[.int .i64 a0_0, .int .i64 a0_1] 23 (0, 0)) (by (with_reducible repeat (first | refine blk_drewN ?_ _ | refine blk_drew ?_ | refine blk_alloc ?_ _)); exact BK33101.out) hb)
                have n3_ := Aside0.mk (blk_below (g := gb33102) (o := .cells #[.int .i64 a2_0, .int .i64 a2_1, .int .i64 a2_2, .int .i64 a2_3, .int .i64 a2_4, .slice A2_5 l2_5.length c2_5, .bool a2_6] 36 (0, 0)) (by (with_reducible repeat (first | refine blk_drewN ?_ _ | refine blk_drew ?_ | refine blk_alloc ?_ _)); exact BK33102.out) hb)
                have n4_ := Aside0.mk (Kd.C_below (by repeat (first | (with_reducible exact HR33108_0.out) | (with_reducible refine Kd.C_alloc ?_ _) | (with_reducible refine Kd.C_drewN ?_ _) | (with_reducible refine Kd.C_drew ?_) | exact HR33108_0.out)) hb)
                have n5_ := Aside0.mk (below_step (by repeat (first | (with_reducible first | exact HB.out | apply below_alloc | apply pw_below_drewN | apply below_drew1 | refine below_set ?_ GE33101.out | refine below_set ?_ GE33102.out) | exact HB.out)) hb)
                clear HO_10
                clear HL33108_0
                clear BK33101
                clear BK33102
                clear HR33108_0
                clear HB
                have HO_10 := n0_
                have HL33108_0 := n1_
                have BK33101 := n2_
                have BK33102 := n3_
                have HR33108_0 := n4_
                have HB := n5_
                clear n0_ n1_ n2_ n3_ n4_ n5_
                (try clear hb)
                (try clear hb2)
                (try clear hk)
                (try clear hi)
                refine hK.out _ _ ⟨(blk_cell BK33102.out 0).trans rfl, (blk_cell BK33102.out 1).trans rfl, (blk_cell BK33102.out 2).trans rfl, (blk_cell BK33102.out 3).trans rfl, (blk_cell BK33102.out 4).trans rfl, (blk_cell BK33102.out 5).trans rfl, (blk_cell BK33102.out 6).trans rfl, HS7_⟩ (fun hHeld => ?_)
                clear hK K
                refine norm_ (a' := ?_) ?_ ?_
                rotate_left
                · show Act.put _ (some 36) _ = _
                  simp only [Act.put, List.setIfInBounds_toArray, List.set_cons_zero, List.set_cons_succ, i64_w, i32_w]
                  rfl
                refine pure_ (i := 6) (N := some 37) (v := ?_) (a' := ?_) #[true, true, true, true, true, true, true] rfl rfl (by kernel_rfl) (fun _ _ _ h => h) (Or.inl ⟨by rfl, ?_⟩) ?_ ?_
                rotate_left
                · intro w'
                  go_simp
                  with_reducible rfl
                rotate_left
                · simp only [Act.put, List.setIfInBounds_toArray, List.set_cons_zero, List.set_cons_succ, i64_w, i32_w]
                  rfl
                refine done_ (by kernel_rfl) ?_
                try go_wp2
                go_roundg k1
                case measure => have := HK1.out; omega
                case rel => exact ⟨(wrap64 (x11_1 + 1)), (by first | rfl | (simp; done) | (simp [*]; done)), H', ⟨by have := HK1.out; omega⟩, ⟨by (with_reducible repeat (first | apply Kd.S_alloc | apply Kd.S_drewN | apply Kd.S_drew)); exact HO_10.out⟩, ⟨by (with_reducible repeat (first | refine blk_drewN ?_ _ | refine blk_drew ?_ | refine blk_alloc ?_ _)); exact BK33101.out⟩, ⟨by (with_reducible repeat (first | refine blk_drewN ?_ _ | refine blk_drew ?_ | refine blk_alloc ?_ _)); exact BK33102.out⟩, ⟨by repeat (first | (with_reducible first | exact HB.out | apply below_alloc | apply pw_below_drewN | apply below_drew1 | refine below_set ?_ GE33101.out | refine below_set ?_ GE33102.out) | exact HB.out)⟩⟩
              · replace c22 := Bool.eq_false_iff.mpr c22
                subst c22
                have H1 : (some (rd_L2 t33105 x11_1, false, 0)) = some (r1, r2, r3) := by rw [if_neg (show ¬ (false = true) by decide)] at H; exact H
                clear H
                have H := H1
                clear H1
                simp only [Option.some.injEq, Prod.mk.injEq] at H
                obtain ⟨rfl, rfl, rfl⟩ := H
                obtain ⟨Ao26, co26, eo26⟩ := Kd.S_slice HO_10.out
                subst eo26
                try go_wp2
                have n0_ := Aside0.mk (Kd.S_drew HO_10.out)
                have n1_ := Aside0.mk (blk_drew BK33101.out)
                have n2_ := Aside0.mk (blk_drew BK33102.out)
                have n3_ := Aside0.mk (below_drew1 HB.out)
                clear HO_10
                clear BK33101
                clear BK33102
                clear HB
                have HO_10 := n0_
                have BK33101 := n1_
                have BK33102 := n2_
                have HB := n3_
                clear n0_ n1_ n2_ n3_
                have p33108 : 0 ≤ (x11_1 : Int) := of_decide_eq_true (by first | (with_reducible assumption) | assumption)
                have q33108 : x11_1 < (t33105.length : Int) := of_decide_eq_true (by first | (with_reducible assumption) | assumption)
                obtain ⟨ad33108, A33108_0, c33108_0, e33108, hx33108_0, hl33108_0, hi33108_0⟩ := at_L2 (Kd.S_reads' HO_10.out).2.2 x11_1 p33108 q33108
                cases e33108
                obtain ⟨ce33108, hce33108, hMe33108, hcc33108⟩ := Kd.S_get HO_10.out [] x11_1 p33108 (by first | exact q33108 | exact of_decide_eq_true (by first | (with_reducible assumption) | assumption) | (have e_ := (Kd.S_reads' HO_10.out).1; omega))
                obtain ⟨ve33108_0, rfl, ge33108_0⟩ := hMe33108
                have hv33108_0 := hcc33108 0 _ rfl
                rw [Nat.add_zero, show ((Kd.slice 3 (Kd.int .i64))).sz = 1 from rfl, Nat.mul_one] at hv33108_0
                replace hv33108_0 := Option.some.inj (hv33108_0.symm.trans hx33108_0)
                rw [hv33108_0] at ge33108_0
                have HL33108_0 := Aside0.mk (show Kd.R (Kd.int .i64) 3 _ _ _ _ (rd_L2 t33105 x11_1) from ge33108_0)
                clear hv33108_0 ge33108_0
                clear hcc33108 hce33108
                have HR33108_0 := Aside0.mk hi33108_0
                have HC33108_0 := Aside0.mk hl33108_0
                clear hi33108_0 hl33108_0
                replace p33108 := eq_true p33108
                replace q33108 := eq_true q33108
                refine start_ (n := 7) (S := fun w' => w'.cell? ⟨gb33102, 0, none⟩ = some (.int .i64 a2_0) ∧ w'.cell? ⟨gb33102, 1, none⟩ = some (.int .i64 a2_1) ∧ w'.cell? ⟨gb33102, 2, none⟩ = some (.int .i64 a2_2) ∧ w'.cell? ⟨gb33102, 3, none⟩ = some (.int .i64 a2_3) ∧ w'.cell? ⟨gb33102, 4, none⟩ = some (.int .i64 a2_4) ∧ w'.cell? ⟨gb33102, 5, none⟩ = some (.slice A2_5 l2_5.length c2_5) ∧ w'.cell? ⟨gb33102, 6, none⟩ = some (.bool a2_6) ∧ w'.cell? (ad33108.add (x11_1).toNat) = some (.slice A33108_0 (rd_L2 t33105 x11_1).length c33108_0)) (ds := []) #[false, false, false, false, false, false, false] (by kernel_rfl) rfl rfl ⟨(blk_cell BK33102.out 0).trans rfl, (blk_cell BK33102.out 1).trans rfl, (blk_cell BK33102.out 2).trans rfl, (blk_cell BK33102.out 3).trans rfl, (blk_cell BK33102.out 4).trans rfl, (blk_cell BK33102.out 5).trans rfl, (blk_cell BK33102.out 6).trans rfl, hx33108_0⟩ (fun hHeld => ?_)
                generalize wr.drew = w27 at HO_10 BK33101 BK33102 HB HL33108_0 HR33108_0 hx33108_0 hHeld ⊢
                refine pure_ (i := 1) (N := some 32) (v := ?_) (a' := ?_) #[false, true, false, false, false, false, false] rfl rfl (by kernel_rfl) (fun _ _ _ h => h) (Or.inl ⟨by rfl, ?_⟩) ?_ ?_
                rotate_left
                · intro w'
                  go_simp
                  with_reducible rfl
                rotate_left
                · simp only [Act.put, List.setIfInBounds_toArray, List.set_cons_zero, List.set_cons_succ, i64_w, i32_w]
                  rfl
                refine pure_ (i := 2) (N := some 33) (v := ?_) (a' := ?_) #[false, true, true, false, false, false, false] rfl rfl (by kernel_rfl) (fun _ _ _ h => h) (Or.inl ⟨by rfl, ?_⟩) ?_ ?_
                rotate_left
                · intro w'
                  go_simp
                  with_reducible rfl
                rotate_left
                · simp only [Act.put, List.setIfInBounds_toArray, List.set_cons_zero, List.set_cons_succ, i64_w, i32_w]
                  rfl
                refine pure_ (i := 3) (N := some 34) (v := ?_) (a' := ?_) #[false, true, true, true, false, false, false] rfl rfl (by kernel_rfl) (fun _ _ _ h => h) (Or.inl ⟨by rfl, ?_⟩) ?_ ?_
                rotate_left
                · intro w'
                  go_simp
                  with_reducible rfl
                rotate_left
                · simp only [Act.put, List.setIfInBounds_toArray, List.set_cons_zero, List.set_cons_succ, i64_w, i32_w]
                  rfl
                refine take_ (i := 0) (N := some 31) (v := ?_) (a' := ?_) #[true, true, true, true, false, false, false] rfl rfl (by kernel_rfl) (fun _ _ _ h => h) (Or.inl ⟨by rfl, ?_⟩) hHeld ?_ ?_
                rotate_left
                · rintro w' ⟨s0, s1, s2, s3, s4, s5, s6, s7⟩
                  go_simp
                  with_reducible rfl
                rotate_left
                · simp only [Act.put, List.setIfInBounds_toArray, List.set_cons_zero, List.set_cons_succ, i64_w, i32_w]
                  rfl
                refine take_ (i := 4) (N := some 35) (v := ?_) (a' := ?_) #[true, true, true, true, true, false, false] rfl rfl (by kernel_rfl) (fun _ _ _ h => h) (Or.inl ⟨by rfl, ?_⟩) hHeld ?_ ?_
                rotate_left
                · rintro w' ⟨s0, s1, s2, s3, s4, s5, s6, s7⟩
                  go_simp
                  with_reducible rfl
                rotate_left
                · simp only [Act.put, List.setIfInBounds_toArray, List.set_cons_zero, List.set_cons_succ, i64_w, i32_w]
                  rfl
                refine one_ (i := 5) (N := some 36) #[true, true, true, true, true, true, false] rfl rfl (by kernel_rfl) (by decide) (fun K hK => ?_)
                refine goes_ Try.func71 (by kernel_rfl) rfl #[.agg #[.int .i64 a2_0, .int .i64 a2_1, .int .i64 a2_2, .int .i64 a2_3, .int .i64 a2_4, .slice A2_5 l2_5.length c2_5, .bool a2_6], .slice A33108_0 (rd_L2 t33105 x11_1).length c33108_0] (by rfl) rfl rfl (by (try simp only [List.map_toArray, List.map_cons, List.map_nil]); first | done | rfl | (simp only [List.length_drop, List.length_take]; rfl)) ?_
                with_reducible refine (padlockref01_True.calls k1 a2_0 a2_1 a2_2 a2_3 a2_4 _ _ l2_5 a2_6 _ _ (rd_L2 t33105 x11_1) false _ ?side1 ?side2 ?side3 ?side4 A21.out).mono ?_
                (case side1 => repeat (first | exact (Kd.C_below HR2_5.out HB.out) | (with_reducible refine Kd.C_alloc ?_ _) | (with_reducible refine Kd.C_drewN ?_ _) | (with_reducible refine Kd.C_drew ?_)))
                (case side2 => exact HC2_5.out)
                (case side3 => repeat (first | exact (by repeat (first | (with_reducible exact HR33108_0.out) | (with_reducible refine Kd.C_alloc ?_ _) | (with_reducible refine Kd.C_drewN ?_ _) | (with_reducible refine Kd.C_drew ?_) | exact HR33108_0.out)) | (with_reducible refine Kd.C_alloc ?_ _) | (with_reducible refine Kd.C_drewN ?_ _) | (with_reducible refine Kd.C_drew ?_)))
                (case side4 => exact HC33108_0.out)
                rintro e w28 ⟨rfl, hb⟩
                have HS7_ := (hb.cell (World.block_lt_of_cell? _ _ (hHeld.2.2.2.2.2.2.2))).trans (hHeld.2.2.2.2.2.2.2)
                refine ⟨_, rfl, ?_⟩
                have n0_ := Aside0.mk (Kd.S_below (by (with_reducible repeat (first | apply Kd.S_alloc | apply Kd.S_drewN | apply Kd.S_drew)); exact HO_10.out) hb)
                have n1_ := Aside0.mk (Kd.R_below (by (with_reducible repeat (first | apply Kd.R_alloc | apply Kd.R_drewN | apply Kd.R_drew)); exact HL33108_0.out) hb)
                have n2_ := Aside0.mk (blk_below (g := gb33101) (o := .cells #[.int .i64 a0_0, .int .i64 a0_1] 23 (0, 0)) (by (with_reducible repeat (first | refine blk_drewN ?_ _ | refine blk_drew ?_ | refine blk_alloc ?_ _)); exact BK33101.out) hb)
                have n3_ := Aside0.mk (blk_below (g := gb33102) (o := .cells #[.int .i64 a2_0, .int .i64 a2_1, .int .i64 a2_2, .int .i64 a2_3, .int .i64 a2_4, .slice A2_5 l2_5.length c2_5, .bool a2_6] 36 (0, 0)) (by (with_reducible repeat (first | refine blk_drewN ?_ _ | refine blk_drew ?_ | refine blk_alloc ?_ _)); exact BK33102.out) hb)
                have n4_ := Aside0.mk (Kd.C_below (by repeat (first | (with_reducible exact HR33108_0.out) | (with_reducible refine Kd.C_alloc ?_ _) | (with_reducible refine Kd.C_drewN ?_ _) | (with_reducible refine Kd.C_drew ?_) | exact HR33108_0.out)) hb)
                have n5_ := Aside0.mk (below_step (by repeat (first | (with_reducible first | exact HB.out | apply below_alloc | apply pw_below_drewN | apply below_drew1 | refine below_set ?_ GE33101.out | refine below_set ?_ GE33102.out) | exact HB.out)) hb)
                clear HO_10
                clear HL33108_0
                clear BK33101
                clear BK33102
                clear HR33108_0
                clear HB
                have HO_10 := n0_
                have HL33108_0 := n1_
                have BK33101 := n2_
                have BK33102 := n3_
                have HR33108_0 := n4_
                have HB := n5_
                clear n0_ n1_ n2_ n3_ n4_ n5_
                (try clear hb)
                (try clear hb2)
                (try clear hk)
                (try clear hi)
                refine hK.out _ _ ⟨(blk_cell BK33102.out 0).trans rfl, (blk_cell BK33102.out 1).trans rfl, (blk_cell BK33102.out 2).trans rfl, (blk_cell BK33102.out 3).trans rfl, (blk_cell BK33102.out 4).trans rfl, (blk_cell BK33102.out 5).trans rfl, (blk_cell BK33102.out 6).trans rfl, HS7_⟩ (fun hHeld => ?_)
                clear hK K
                refine norm_ (a' := ?_) ?_ ?_
                rotate_left
                · show Act.put _ (some 36) _ = _
                  simp only [Act.put, List.setIfInBounds_toArray, List.set_cons_zero, List.set_cons_succ, i64_w, i32_w]
                  rfl
                refine pure_ (i := 6) (N := some 37) (v := ?_) (a' := ?_) #[true, true, true, true, true, true, true] rfl rfl (by kernel_rfl) (fun _ _ _ h => h) (Or.inl ⟨by rfl, ?_⟩) ?_ ?_
                rotate_left
                · intro w'
                  go_simp
                  with_reducible rfl
                rotate_left
                · simp only [Act.put, List.setIfInBounds_toArray, List.set_cons_zero, List.set_cons_succ, i64_w, i32_w]
                  rfl
                refine done_ (by kernel_rfl) ?_
                have p33110 : 0 ≤ (x11_1 : Int) := of_decide_eq_true (by first | (with_reducible assumption) | assumption)
                have q33110 : x11_1 < (t33105.length : Int) := of_decide_eq_true (by first | (with_reducible assumption) | assumption)
                obtain ⟨ad33110, A33110_0, c33110_0, e33110, hx33110_0, hl33110_0, hi33110_0⟩ := at_L2 (Kd.S_reads' HO_10.out).2.2 x11_1 p33110 q33110
                obtain rfl : ad33108 = ad33110 := (by injection e33110)
                obtain ⟨ce33110, hce33110, hMe33110, hcc33110⟩ := Kd.S_get HO_10.out [] x11_1 p33110 (by first | exact q33110 | exact of_decide_eq_true (by first | (with_reducible assumption) | assumption) | (have e_ := (Kd.S_reads' HO_10.out).1; omega))
                obtain ⟨ve33110_0, rfl, ge33110_0⟩ := hMe33110
                have hv33110_0 := hcc33110 0 _ rfl
                rw [Nat.add_zero, show ((Kd.slice 3 (Kd.int .i64))).sz = 1 from rfl, Nat.mul_one] at hv33110_0
                replace hv33110_0 := Option.some.inj (hv33110_0.symm.trans hx33110_0)
                rw [hv33110_0] at ge33110_0
                have HL33110_0 := Aside0.mk (show Kd.R (Kd.int .i64) 3 _ _ _ _ (rd_L2 t33105 x11_1) from ge33110_0)
                clear hv33110_0 ge33110_0
                clear hcc33110 hce33110
                have HR33110_0 := Aside0.mk hi33110_0
                have HC33110_0 := Aside0.mk hl33110_0
                clear hi33110_0 hl33110_0
                obtain ⟨rfl, rfl⟩ : A33108_0 = A33110_0 ∧ c33108_0 = c33110_0 := by
                  have e_ := Option.some.inj ((by first | exact hx33108_0.symm.trans hx33110_0 | exact HS7_.symm.trans hx33110_0))
                  injection e_ with e1_ _ e2_
                  exact ⟨e1_, e2_⟩
                replace p33110 := eq_true p33110
                replace q33110 := eq_true q33110
                try go_wp2
                go_ret3
                exact ⟨_, by first | rfl | (simp [errW_none, errW_some] <;> rfl) | (simp [*, errW_none, errW_some] <;> rfl), by (with_reducible repeat (first | apply Kd.R_alloc | apply Kd.R_drewN | apply Kd.R_drew)); exact Kd.R_mono HL33110_0.out (fun _ hk => trivial), by repeat (first | (with_reducible first | exact HB.out | apply below_alloc | apply pw_below_drewN | apply below_drew1 | refine below_set ?_ GE33101.out | refine below_set ?_ GE33102.out) | exact HB.out)⟩
            · rw [if_neg c20] at H
              exact absurd H (by simp)
          · rw [if_neg c19] at H
            have c19b0 : decide (x11_1 < (t33105.length : Int)) = false := decide_eq_false c19
            clear c19
            simp only [Option.some.injEq, Prod.mk.injEq] at H
            obtain ⟨rfl, rfl, rfl⟩ := H
            obtain ⟨Ao29, co29, eo29⟩ := Kd.S_slice HO_10.out
            subst eo29
            go_wp2
            go_ret3
            exact ⟨_, by first | rfl | (simp [errW_none, errW_some] <;> rfl) | (simp [*, errW_none, errW_some] <;> rfl), by first | exact Kd.R_nil _ _ _ _ _ | exact Kd.N_nil _ _ _ _ _ | exact Kd.V_nil _ _ _ _ _ | exact Kd.Q_nil _ _ _ _ _ | exact Kd.S_nil _ _ _ _ _, by repeat (first | (with_reducible first | exact HB.out | apply below_alloc | apply pw_below_drewN | apply below_drew1 | refine below_set ?_ GE33101.out | refine below_set ?_ GE33102.out) | exact HB.out)⟩
    · replace c7 := Bool.eq_false_iff.mpr c7
      subst c7
      have H1 : (some (([] : List Int), false, 11)) = some (r1, r2, r3) := by rw [if_neg (show ¬ (false = true) by decide)] at H; exact H
      clear H
      have H := H1
      clear H1
      simp only [Option.some.injEq, Prod.mk.injEq] at H
      obtain ⟨rfl, rfl, rfl⟩ := H
      go_enter Try.func33, Try.ntmps33
      go_wp2_with (first | ((with_reducible refine gate_dst (N := 3) rfl ?_); refine box_event ?hg (N := 3) ?hd (cs := #[.int .i64 a0_0, .int .i64 a0_1]) (t := 23) ?hr ?_; (case hd => rfl); (case hg => rfl); (case hr => first | (go_simp; done) | (go_simp; rfl)); intro gb33101 hg w30 hbox hb; have n0_ := Aside0.mk (below_step (by repeat (first | (with_reducible first | exact HB.out | apply below_alloc | apply pw_below_drewN | apply below_drew1) | exact HB.out)) hb); have n1_ := Aside0.mk (hbox); have n2_ := Aside0.mk ((by rw [hg]; exact (below_size (by repeat (first | (with_reducible first | exact HB.out | apply below_alloc | apply pw_below_drewN | apply below_drew1) | exact HB.out))) : w.heap.size ≤ gb33101)); have n3_ := Aside0.mk ((by rw [hg]; exact (below_size (by repeat (first | (with_reducible first | exact HB.out | apply below_alloc | apply pw_below_drewN | apply below_drew1) | exact HB.out))) : w.heap.size ≤ gb33101)); clear HB; have HB := n0_; have BK33101 := n1_; have GW33101 := n2_; have GE33101 := n3_; clear n0_ n1_ n2_ n3_; clear hb hbox hg) | ((with_reducible refine gate_dst (N := 5) rfl ?_); refine box_event ?hg (N := 5) ?hd (cs := #[.int .i64 a2_0, .int .i64 a2_1, .int .i64 a2_2, .int .i64 a2_3, .int .i64 a2_4, .slice A2_5 l2_5.length c2_5, .bool a2_6]) (t := 36) ?hr ?_; (case hd => rfl); (case hg => rfl); (case hr => first | (go_simp; done) | (go_simp; rfl)); intro gb33102 hg w31 hbox hb; have n0_ := Aside0.mk (blk_below (g := gb33101) (o := .cells #[.int .i64 a0_0, .int .i64 a0_1] 23 (0, 0)) (by (with_reducible repeat (first | refine blk_drewN ?_ _ | refine blk_drew ?_ | refine blk_alloc ?_ _)); exact BK33101.out) hb); have n1_ := Aside0.mk (below_step (by repeat (first | (with_reducible first | exact HB.out | apply below_alloc | apply pw_below_drewN | apply below_drew1 | refine below_set ?_ GE33101.out) | exact HB.out)) hb); have n2_ := Aside0.mk (hbox); have n3_ := Aside0.mk ((by rw [hg]; exact (below_size (by repeat (first | (with_reducible first | exact HB.out | apply below_alloc | apply pw_below_drewN | apply below_drew1 | refine below_set ?_ GE33101.out) | exact HB.out))) : w.heap.size ≤ gb33102)); have n4_ := Aside0.mk ((by rw [hg]; exact (below_size (by repeat (first | (with_reducible first | exact HB.out | apply below_alloc | apply pw_below_drewN | apply below_drew1 | refine below_set ?_ GE33101.out) | exact HB.out))) : w.heap.size ≤ gb33102)); have n5_ := Aside0.mk ((by rw [hg]; exact Nat.ne_of_lt (blk_lt (g := gb33101) (o := .cells #[.int .i64 a0_0, .int .i64 a0_1] 23 (0, 0)) (by (with_reducible repeat (first | refine blk_drewN ?_ _ | refine blk_drew ?_ | refine blk_alloc ?_ _)); exact BK33101.out)) : gb33101 ≠ gb33102)); have n6_ := Aside0.mk ((by rw [hg]; exact Nat.ne_of_gt (blk_lt (g := gb33101) (o := .cells #[.int .i64 a0_0, .int .i64 a0_1] 23 (0, 0)) (by (with_reducible repeat (first | refine blk_drewN ?_ _ | refine blk_drew ?_ | refine blk_alloc ?_ _)); exact BK33101.out)) : gb33102 ≠ gb33101)); clear BK33101; clear HB; have BK33101 := n0_; have HB := n1_; have BK33102 := n2_; have GW33102 := n3_; have GE33102 := n4_; have NB33101_33102 := n5_; have NB33102_33101 := n6_; clear n0_ n1_ n2_ n3_ n4_ n5_ n6_; clear hb hbox hg; have hnb32 := NB33101_33102.out; have hnc32 := NB33102_33101.out; have hcz33_0 : w31.cell? ⟨gb33101, 0, none⟩ = some (.int .i64 a0_0) := (blk_cell BK33101.out 0).trans rfl; have hcz33_1 : w31.cell? ⟨gb33101, 1, none⟩ = some (.int .i64 a0_1) := (blk_cell BK33101.out 1).trans rfl; have hfz33_0 := blk_frozen BK33101.out 0; have hfz33_1 := blk_frozen BK33101.out 1) | ((with_reducible refine gate_callee (f := 34) rfl ?_); refine goesL_ (some 14) rfl rfl Try.func34 (by kernel_rfl) rfl #[.agg #[.int .i64 a0_0, .int .i64 a0_1], .slice A1 l1.length c1] rfl (by (try simp only [List.map_toArray, List.map_cons, List.map_nil]); first | done | rfl | (simp only [List.length_drop, List.length_take]; rfl)) ?_; (with_reducible refine (padlockref01_CheckClues.calls k a0_0 a0_1 _ _ l1 t33103 _ ?side1 ?side2 A4.out).mono ?_); (case side1 => repeat (first | exact (Kd.C_below HR1.out HB.out) | (with_reducible refine Kd.C_alloc ?_ _) | (with_reducible refine Kd.C_drewN ?_ _) | (with_reducible refine Kd.C_drew ?_))); (case side2 => exact HC1.out); rintro e w34 ⟨rfl, hb⟩; refine ⟨_, rfl, ?_⟩; have n0_ := Aside0.mk (blk_below (g := gb33101) (o := .cells #[.int .i64 a0_0, .int .i64 a0_1] 23 (0, 0)) (by (with_reducible repeat (first | refine blk_drewN ?_ _ | refine blk_drew ?_ | refine blk_alloc ?_ _)); exact BK33101.out) hb); have n1_ := Aside0.mk (blk_below (g := gb33102) (o := .cells #[.int .i64 a2_0, .int .i64 a2_1, .int .i64 a2_2, .int .i64 a2_3, .int .i64 a2_4, .slice A2_5 l2_5.length c2_5, .bool a2_6] 36 (0, 0)) (by (with_reducible repeat (first | refine blk_drewN ?_ _ | refine blk_drew ?_ | refine blk_alloc ?_ _)); exact BK33102.out) hb); have n2_ := Aside0.mk (below_step (by repeat (first | (with_reducible first | exact HB.out | apply below_alloc | apply pw_below_drewN | apply below_drew1 | refine below_set ?_ GE33101.out | refine below_set ?_ GE33102.out) | exact HB.out)) hb); clear BK33101; clear BK33102; clear HB; have BK33101 := n0_; have BK33102 := n1_; have HB := n2_; clear n0_ n1_ n2_; (try clear hb); (try clear hb2); (try clear hk); (try clear hi); have hcz35_0 : w34.cell? ⟨gb33101, 0, none⟩ = some (.int .i64 a0_0) := (blk_cell BK33101.out 0).trans rfl; have hcz35_1 : w34.cell? ⟨gb33101, 1, none⟩ = some (.int .i64 a0_1) := (blk_cell BK33101.out 1).trans rfl; have hfz35_0 := blk_frozen BK33101.out 0; have hfz35_1 := blk_frozen BK33101.out 1; have hcz36_0 : w34.cell? ⟨gb33102, 0, none⟩ = some (.int .i64 a2_0) := (blk_cell BK33102.out 0).trans rfl; have hcz36_1 : w34.cell? ⟨gb33102, 1, none⟩ = some (.int .i64 a2_1) := (blk_cell BK33102.out 1).trans rfl; have hcz36_2 : w34.cell? ⟨gb33102, 2, none⟩ = some (.int .i64 a2_2) := (blk_cell BK33102.out 2).trans rfl; have hcz36_3 : w34.cell? ⟨gb33102, 3, none⟩ = some (.int .i64 a2_3) := (blk_cell BK33102.out 3).trans rfl; have hcz36_4 : w34.cell? ⟨gb33102, 4, none⟩ = some (.int .i64 a2_4) := (blk_cell BK33102.out 4).trans rfl; have hcz36_5 : w34.cell? ⟨gb33102, 5, none⟩ = some (.slice A2_5 l2_5.length c2_5) := (blk_cell BK33102.out 5).trans rfl; have hcz36_6 : w34.cell? ⟨gb33102, 6, none⟩ = some (.bool a2_6) := (blk_cell BK33102.out 6).trans rfl; have hfz36_0 := blk_frozen BK33102.out 0; have hfz36_1 := blk_frozen BK33102.out 1; have hfz36_2 := blk_frozen BK33102.out 2; have hfz36_3 := blk_frozen BK33102.out 3; have hfz36_4 := blk_frozen BK33102.out 4; have hfz36_5 := blk_frozen BK33102.out 5; have hfz36_6 := blk_frozen BK33102.out 6) | ((with_reducible refine gate_callee (f := 69) rfl ?_); refine goesL_ (some 20) rfl rfl Try.func69 (by kernel_rfl) rfl #[.agg #[.int .i64 a0_0, .int .i64 a0_1], .agg #[.int .i64 a2_0, .int .i64 a2_1, .int .i64 a2_2, .int .i64 a2_3, .int .i64 a2_4, .slice A2_5 l2_5.length c2_5, .bool a2_6]] rfl (by (try simp only [List.map_toArray, List.map_cons, List.map_nil]); first | done | rfl | (simp only [List.length_drop, List.length_take]; rfl)) ?_; (with_reducible refine (padlockref01_isClue.calls a0_0 a0_1 a2_0 a2_1 a2_2 a2_3 a2_4 _ _ l2_5 a2_6 false _ ?side1 ?side2 A6.out).mono ?_); (case side1 => repeat (first | exact (Kd.C_below HR2_5.out HB.out) | (with_reducible refine Kd.C_alloc ?_ _) | (with_reducible refine Kd.C_drewN ?_ _) | (with_reducible refine Kd.C_drew ?_))); (case side2 => exact HC2_5.out); rintro e w37 ⟨rfl, hb⟩; refine ⟨_, rfl, ?_⟩; have n0_ := Aside0.mk (blk_below (g := gb33101) (o := .cells #[.int .i64 a0_0, .int .i64 a0_1] 23 (0, 0)) (by (with_reducible repeat (first | refine blk_drewN ?_ _ | refine blk_drew ?_ | refine blk_alloc ?_ _)); exact BK33101.out) hb); have n1_ := Aside0.mk (blk_below (g := gb33102) (o := .cells #[.int .i64 a2_0, .int .i64 a2_1, .int .i64 a2_2, .int .i64 a2_3, .int .i64 a2_4, .slice A2_5 l2_5.length c2_5, .bool a2_6] 36 (0, 0)) (by (with_reducible repeat (first | refine blk_drewN ?_ _ | refine blk_drew ?_ | refine blk_alloc ?_ _)); exact BK33102.out) hb); have n2_ := Aside0.mk (below_step (by repeat (first | (with_reducible first | exact HB.out | apply below_alloc | apply pw_below_drewN | apply below_drew1 | refine below_set ?_ GE33101.out | refine below_set ?_ GE33102.out) | exact HB.out)) hb); clear BK33101; clear BK33102; clear HB; have BK33101 := n0_; have BK33102 := n1_; have HB := n2_; clear n0_ n1_ n2_; (try clear hb); (try clear hb2); (try clear hk); (try clear hi)))
      go_ret3
      exact ⟨_, by first | rfl | (simp [errW_none, errW_some] <;> rfl) | (simp [*, errW_none, errW_some] <;> rfl), by first | exact Kd.R_nil _ _ _ _ _ | exact Kd.N_nil _ _ _ _ _ | exact Kd.V_nil _ _ _ _ _ | exact Kd.Q_nil _ _ _ _ _ | exact Kd.S_nil _ _ _ _ _, by repeat (first | (with_reducible first | exact HB.out | apply below_alloc | apply pw_below_drewN | apply below_drew1 | refine below_set ?_ GE33101.out | refine below_set ?_ GE33102.out) | exact HB.out)⟩
  · rw [if_neg c5] at H
    have c5b0 : (t33103 == 0) = false := beq_eq_false_iff_ne.mpr c5
    have c5b1 : (t33103 != 0) = true := bne_iff_ne.mpr c5
    simp only [Option.some.injEq, Prod.mk.injEq] at H
    obtain ⟨rfl, rfl, rfl⟩ := H
    go_enter Try.func33, Try.ntmps33
    go_wp2_with (first | ((with_reducible refine gate_dst (N := 3) rfl ?_); refine box_event ?hg (N := 3) ?hd (cs := #[.int .i64 a0_0, .int .i64 a0_1]) (t := 23) ?hr ?_; (case hd => rfl); (case hg => rfl); (case hr => first | (go_simp; done) | (go_simp; rfl)); intro gb33101 hg w38 hbox hb; have n0_ := Aside0.mk (below_step (by repeat (first | (with_reducible first | exact HB.out | apply below_alloc | apply pw_below_drewN | apply below_drew1) | exact HB.out)) hb); have n1_ := Aside0.mk (hbox); have n2_ := Aside0.mk ((by rw [hg]; exact (below_size (by repeat (first | (with_reducible first | exact HB.out | apply below_alloc | apply pw_below_drewN | apply below_drew1) | exact HB.out))) : w.heap.size ≤ gb33101)); have n3_ := Aside0.mk ((by rw [hg]; exact (below_size (by repeat (first | (with_reducible first | exact HB.out | apply below_alloc | apply pw_below_drewN | apply below_drew1) | exact HB.out))) : w.heap.size ≤ gb33101)); clear HB; have HB := n0_; have BK33101 := n1_; have GW33101 := n2_; have GE33101 := n3_; clear n0_ n1_ n2_ n3_; clear hb hbox hg) | ((with_reducible refine gate_dst (N := 5) rfl ?_); refine box_event ?hg (N := 5) ?hd (cs := #[.int .i64 a2_0, .int .i64 a2_1, .int .i64 a2_2, .int .i64 a2_3, .int .i64 a2_4, .slice A2_5 l2_5.length c2_5, .bool a2_6]) (t := 36) ?hr ?_; (case hd => rfl); (case hg => rfl); (case hr => first | (go_simp; done) | (go_simp; rfl)); intro gb33102 hg w39 hbox hb; have n0_ := Aside0.mk (blk_below (g := gb33101) (o := .cells #[.int .i64 a0_0, .int .i64 a0_1] 23 (0, 0)) (by (with_reducible repeat (first | refine blk_drewN ?_ _ | refine blk_drew ?_ | refine blk_alloc ?_ _)); exact BK33101.out) hb); have n1_ := Aside0.mk (below_step (by repeat (first | (with_reducible first | exact HB.out | apply below_alloc | apply pw_below_drewN | apply below_drew1 | refine below_set ?_ GE33101.out) | exact HB.out)) hb); have n2_ := Aside0.mk (hbox); have n3_ := Aside0.mk ((by rw [hg]; exact (below_size (by repeat (first | (with_reducible first | exact HB.out | apply below_alloc | apply pw_below_drewN | apply below_drew1 | refine below_set ?_ GE33101.out) | exact HB.out))) : w.heap.size ≤ gb33102)); have n4_ := Aside0.mk ((by rw [hg]; exact (below_size (by repeat (first | (with_reducible first | exact HB.out | apply below_alloc | apply pw_below_drewN | apply below_drew1 | refine below_set ?_ GE33101.out) | exact HB.out))) : w.heap.size ≤ gb33102)); have n5_ := Aside0.mk ((by rw [hg]; exact Nat.ne_of_lt (blk_lt (g := gb33101) (o := .cells #[.int .i64 a0_0, .int .i64 a0_1] 23 (0, 0)) (by (with_reducible repeat (first | refine blk_drewN ?_ _ | refine blk_drew ?_ | refine blk_alloc ?_ _)); exact BK33101.out)) : gb33101 ≠ gb33102)); have n6_ := Aside0.mk ((by rw [hg]; exact Nat.ne_of_gt (blk_lt (g := gb33101) (o := .cells #[.int .i64 a0_0, .int .i64 a0_1] 23 (0, 0)) (by (with_reducible repeat (first | refine blk_drewN ?_ _ | refine blk_drew ?_ | refine blk_alloc ?_ _)); exact BK33101.out)) : gb33102 ≠ gb33101)); clear BK33101; clear HB; have BK33101 := n0_; have HB := n1_; have BK33102 := n2_; have GW33102 := n3_; have GE33102 := n4_; have NB33101_33102 := n5_; have NB33102_33101 := n6_; clear n0_ n1_ n2_ n3_ n4_ n5_ n6_; clear hb hbox hg; have hnb40 := NB33101_33102.out; have hnc40 := NB33102_33101.out; have hcz41_0 : w39.cell? ⟨gb33101, 0, none⟩ = some (.int .i64 a0_0) := (blk_cell BK33101.out 0).trans rfl; have hcz41_1 : w39.cell? ⟨gb33101, 1, none⟩ = some (.int .i64 a0_1) := (blk_cell BK33101.out 1).trans rfl; have hfz41_0 := blk_frozen BK33101.out 0; have hfz41_1 := blk_frozen BK33101.out 1) | ((with_reducible refine gate_callee (f := 34) rfl ?_); refine goesL_ (some 14) rfl rfl Try.func34 (by kernel_rfl) rfl #[.agg #[.int .i64 a0_0, .int .i64 a0_1], .slice A1 l1.length c1] rfl (by (try simp only [List.map_toArray, List.map_cons, List.map_nil]); first | done | rfl | (simp only [List.length_drop, List.length_take]; rfl)) ?_; (with_reducible refine (padlockref01_CheckClues.calls k a0_0 a0_1 _ _ l1 t33103 _ ?side1 ?side2 A4.out).mono ?_); (case side1 => repeat (first | exact (Kd.C_below HR1.out HB.out) | (with_reducible refine Kd.C_alloc ?_ _) | (with_reducible refine Kd.C_drewN ?_ _) | (with_reducible refine Kd.C_drew ?_))); (case side2 => exact HC1.out); rintro e w42 ⟨rfl, hb⟩; refine ⟨_, rfl, ?_⟩; have n0_ := Aside0.mk (blk_below (g := gb33101) (o := .cells #[.int .i64 a0_0, .int .i64 a0_1] 23 (0, 0)) (by (with_reducible repeat (first | refine blk_drewN ?_ _ | refine blk_drew ?_ | refine blk_alloc ?_ _)); exact BK33101.out) hb); have n1_ := Aside0.mk (blk_below (g := gb33102) (o := .cells #[.int .i64 a2_0, .int .i64 a2_1, .int .i64 a2_2, .int .i64 a2_3, .int .i64 a2_4, .slice A2_5 l2_5.length c2_5, .bool a2_6] 36 (0, 0)) (by (with_reducible repeat (first | refine blk_drewN ?_ _ | refine blk_drew ?_ | refine blk_alloc ?_ _)); exact BK33102.out) hb); have n2_ := Aside0.mk (below_step (by repeat (first | (with_reducible first | exact HB.out | apply below_alloc | apply pw_below_drewN | apply below_drew1 | refine below_set ?_ GE33101.out | refine below_set ?_ GE33102.out) | exact HB.out)) hb); clear BK33101; clear BK33102; clear HB; have BK33101 := n0_; have BK33102 := n1_; have HB := n2_; clear n0_ n1_ n2_; (try clear hb); (try clear hb2); (try clear hk); (try clear hi)))
    go_ret3
    exact ⟨_, by first | rfl | (simp [errW_none, errW_some] <;> rfl) | (simp [*, errW_none, errW_some] <;> rfl), by first | exact Kd.R_nil _ _ _ _ _ | exact Kd.N_nil _ _ _ _ _ | exact Kd.V_nil _ _ _ _ _ | exact Kd.Q_nil _ _ _ _ _ | exact Kd.S_nil _ _ _ _ _, by repeat (first | (with_reducible first | exact HB.out | apply below_alloc | apply pw_below_drewN | apply below_drew1 | refine below_set ?_ GE33101.out | refine below_set ?_ GE33102.out) | exact HB.out)⟩

end Go.Proofs.Ytimkchehdaadeaa.P
