-- Printed for this claim by a program of the session (wip/tools/pr.py) over the kit's print.py.
import Derived.Test.YtimkchehdaadeaaPx0
import Derived.Test.YtimkchehdaadeaaWTab
import Derived.Test.YtimkchehdaadeaaPx1
import Derived.Test.YtimkchehdaadeaaPx5
import Derived.Test.YtimkchehdaadeaaPx7
import Derived.Test.YtimkchehdaadeaaPx9
import Derived.Test.YtimkchehdaadeaaPx10
import Derived.Test.YtimkchehdaadeaaHWorks
namespace Go.Proofs.Ytimkchehdaadeaa.P
open Go.RowKit Go.Proofs.YtimkchehdaadeaaW.PrintWords Go.Proofs.YtimkchehdaadeaaW.PrintLast Go.Proofs.YtimkchehdaadeaaW.PrintMore
attribute [local go_sem] max2_int min2_int max_two min_two max_three min_three max_four min_four   -- for this text's walks alone
set_option linter.unusedVariables false
set_option linter.unusedSimpArgs false

/-! ### padlocklaw01_CodesChecks: function 6 -/
def padlocklaw01_CodesChecks.j0 : Nat → List Int → Bool → Int → Int → Int → Int → Int → Int → Int → List Int → Bool → Option (Bool)
  | 0, _, _, _, _, _, _, _, _, _, _, _ => none
  | k + 1, x2, x33, x6102000, x6102001, x6103000, x6103001, x6103002, x6103003, x6103004, x6103005, x6103006 => if x33 = true then (some false) else ((codes_Holds.f x6102000 x6102001 x6103000 x6103001 x6103002 x6103003 x6103004 x6103005 x6103006 x2).bind fun bt6109 => ((padlockref01_Holds.f k x6102000 x6102001 x6103000 x6103001 x6103002 x6103003 x6103004 x6103005 x6103006 x2).bind fun bt6111 => (if (bt6109.1 == bt6111.1) = true then (if bt6109.2 = bt6111.2 then ((padlocklaw01_works.f).bind fun t6113 => (some t6113)) else (some false)) else (some false))))
def padlocklaw01_CodesChecks.f (k : Nat) (a0_0 : Int) (a0_1 : Int) (a1_0 : Int) (a1_1 : Int) (a1_2 : Int) (a1_3 : Int) (a1_4 : Int) (l1_5 : List Int) (a1_6 : Bool) (l2 : List Int) : Option (Bool) := (codes_Check.f a0_0 a0_1).bind fun t6103 => ((padlockref01_Check.f a0_0 a0_1).bind fun t6104 => (if t6103 = t6104 then ((codes_CheckClue.f a0_0 a0_1 a1_0 a1_1 a1_2 a1_3 a1_4 l1_5 a1_6).bind fun t6105 => ((padlockref01_CheckClue.f a0_0 a0_1 a1_0 a1_1 a1_2 a1_3 a1_4 l1_5 a1_6).bind fun t6106 => (if t6105 = t6106 then ((codes_CheckCode.f a0_0 a0_1 l2).bind fun t6107 => ((padlockref01_CheckCode.f k a0_0 a0_1 l2).bind fun t6108 => (padlocklaw01_CodesChecks.j0 k l2 (t6107 != t6108) a0_0 a0_1 a1_0 a1_1 a1_2 a1_3 a1_4 l1_5 a1_6))) else (padlocklaw01_CodesChecks.j0 k l2 true a0_0 a0_1 a1_0 a1_1 a1_2 a1_3 a1_4 l1_5 a1_6)))) else (padlocklaw01_CodesChecks.j0 k l2 true a0_0 a0_1 a1_0 a1_1 a1_2 a1_3 a1_4 l1_5 a1_6)))
theorem padlocklaw01_CodesChecks.mono_l : ∀ k, (∀ y0 y1 y2 y3 y4 y5 y6 y7 y8 y9 y10, LeO (padlocklaw01_CodesChecks.j0 k y0 y1 y2 y3 y4 y5 y6 y7 y8 y9 y10) (padlocklaw01_CodesChecks.j0 (k + 1) y0 y1 y2 y3 y4 y5 y6 y7 y8 y9 y10))
  | 0 => fun _ _ _ _ _ _ _ _ _ _ _ r h => by simp [padlocklaw01_CodesChecks.j0] at h
  | k + 1 => by
    have ih0 := padlocklaw01_CodesChecks.mono_l k
    · intro y0 y1 y2 y3 y4 y5 y6 y7 y8 y9 y10
      unfold padlocklaw01_CodesChecks.j0
      repeat' first
      | (with_reducible exact ih0 _ _ _ _ _ _ _ _ _ _ _)
      | (with_reducible exact padlockref01_CheckCode.mono _ _ _ _)
      | (with_reducible exact padlockref01_Holds.mono _ _ _ _ _ _ _ _ _ _ _)
      | (with_reducible exact LeO.refl _)
      | (with_reducible exact LeO.none _)
      | (with_reducible refine LeO.ite ?_ ?_)
      | (with_reducible refine LeO.bind ?_ (fun _ => ?_))
      | exact ih0 _ _ _ _ _ _ _ _ _ _ _
      | exact padlockref01_CheckCode.mono _ _ _ _
      | exact padlockref01_Holds.mono _ _ _ _ _ _ _ _ _ _ _
      | exact LeO.none _
      | refine LeO.ite ?_ ?_
      | refine LeO.bind ?_ (fun _ => ?_)
theorem padlocklaw01_CodesChecks.mono : ∀ a0 a1 a2 a3 a4 a5 a6 a7 a8 a9 k, LeO (padlocklaw01_CodesChecks.f k a0 a1 a2 a3 a4 a5 a6 a7 a8 a9) (padlocklaw01_CodesChecks.f (k + 1) a0 a1 a2 a3 a4 a5 a6 a7 a8 a9) := by
  intro a0 a1 a2 a3 a4 a5 a6 a7 a8 a9 k
  have ih0 := padlocklaw01_CodesChecks.mono_l k
  unfold padlocklaw01_CodesChecks.f
  repeat' first
      | (with_reducible exact ih0 _ _ _ _ _ _ _ _ _ _ _)
      | (with_reducible exact padlockref01_CheckCode.mono _ _ _ _)
      | (with_reducible exact padlockref01_Holds.mono _ _ _ _ _ _ _ _ _ _ _)
      | (with_reducible exact LeO.refl _)
      | (with_reducible exact LeO.none _)
      | (with_reducible refine LeO.ite ?_ ?_)
      | (with_reducible refine LeO.bind ?_ (fun _ => ?_))
      | exact ih0 _ _ _ _ _ _ _ _ _ _ _
      | exact padlockref01_CheckCode.mono _ _ _ _
      | exact padlockref01_Holds.mono _ _ _ _ _ _ _ _ _ _ _
      | exact LeO.none _
      | refine LeO.ite ?_ ?_
      | refine LeO.bind ?_ (fun _ => ?_)
def padlocklaw01_CodesChecks.T1 : Bool × List (List Nat × List Nat) := (true, [([], []), ([0], [0]), ([], []), ([2, 1], [2]), ([1, 3], [1, 3]), ([4, 3], [4]), ([5], [5]), ([5], [5]), ([6, 7, 5, 5], [5, 6, 7]), ([5], [5]), ([5], [5]), ([9, 10, 8, 5], [5, 9, 10]), ([8, 11, 5], [5, 8, 11]), ([5, 12], [5, 12]), ([13, 11], [13]), ([14], [14]), ([14], [14]), ([15, 16, 14, 14], [14, 15, 16]), ([14], [14]), ([14], [14]), ([18, 19, 17, 14], [14, 18, 19]), ([17, 20, 14], [14, 17, 20]), ([14, 21], [14, 21])])
def padlocklaw01_CodesChecks.B1 : List Nat := [0, 1, 0, 7, 15, 31, 63, 63, 255, 63, 63, 2047, 4095, 8191, 16383, 32767, 32767, 131071, 32767, 32767, 1048575, 2097151, 4194303]
theorem padlocklaw01_CodesChecks.tab1 : rtab .any (opsOf Try.f6 1) = padlocklaw01_CodesChecks.T1 := by kernel_rfl
theorem padlocklaw01_CodesChecks.bits1 : waitsOk padlocklaw01_CodesChecks.T1.2 padlocklaw01_CodesChecks.B1 = true := by kernel_rfl
set_option maxHeartbeats 8000000 in
set_option maxRecDepth 100000 in
theorem padlocklaw01_CodesChecks.calls (k : Nat) (a0_0 : Int) (a0_1 : Int) (a1_0 : Int) (a1_1 : Int) (a1_2 : Int) (a1_3 : Int) (a1_4 : Int) (A1_5 : Option Addr) (c1_5 : Nat) (l1_5 : List Int) (a1_6 : Bool) (A2 : Option Addr) (c2 : Nat) (l2 : List Int) (r : Bool) (w : World) (hr1_5 : Kd.C (Kd.int .i64) w A1_5 l1_5.length l1_5) (hc1_5 : l1_5.length ≤ c1_5) (hr2 : Kd.C (Kd.int .i64) w A2 l2.length l2) (hc2 : l2.length ≤ c2) (h : padlocklaw01_CodesChecks.f k a0_0 a0_1 a1_0 a1_1 a1_2 a1_3 a1_4 l1_5 a1_6 l2 = some r) :
    Calls Try.prog 6 #[.agg #[.int .i64 a0_0, .int .i64 a0_1], .agg #[.int .i64 a1_0, .int .i64 a1_1, .int .i64 a1_2, .int .i64 a1_3, .int .i64 a1_4, .slice A1_5 l1_5.length c1_5, .bool a1_6], .slice A2 l2.length c2] w fun e w' => e = .returned (.bool r) ∧ Below w.heap.size w w' := by
  have hu23 := Try.underlying23
  have hu36 := Try.underlying36
  have HR1_5 := Aside0.mk hr1_5
  have HC1_5 := Aside0.mk hc1_5
  clear hr1_5 hc1_5
  have HR2 := Aside0.mk hr2
  have HC2 := Aside0.mk hc2
  clear hr2 hc2
  have HB := Aside0.mk (Below.refl w.heap.size w)
  have H : ((codes_Check.f a0_0 a0_1).bind fun t6103 => ((padlockref01_Check.f a0_0 a0_1).bind fun t6104 => (if t6103 = t6104 then ((codes_CheckClue.f a0_0 a0_1 a1_0 a1_1 a1_2 a1_3 a1_4 l1_5 a1_6).bind fun t6105 => ((padlockref01_CheckClue.f a0_0 a0_1 a1_0 a1_1 a1_2 a1_3 a1_4 l1_5 a1_6).bind fun t6106 => (if t6105 = t6106 then ((codes_CheckCode.f a0_0 a0_1 l2).bind fun t6107 => ((padlockref01_CheckCode.f k a0_0 a0_1 l2).bind fun t6108 => (padlocklaw01_CodesChecks.j0 k l2 (t6107 != t6108) a0_0 a0_1 a1_0 a1_1 a1_2 a1_3 a1_4 l1_5 a1_6))) else (padlocklaw01_CodesChecks.j0 k l2 true a0_0 a0_1 a1_0 a1_1 a1_2 a1_3 a1_4 l1_5 a1_6)))) else (padlocklaw01_CodesChecks.j0 k l2 true a0_0 a0_1 a1_0 a1_1 a1_2 a1_3 a1_4 l1_5 a1_6)))) = some r := h
  clear h
  have HC4 := Aside0.mk H
  clear H
  go_enter Try.func6, Try.ntmps6
  go_upto_region 1 with (first | ((with_reducible refine gate_dst (N := 3) rfl ?_); refine box_event ?hg (N := 3) ?hd (cs := #[.int .i64 a0_0, .int .i64 a0_1]) (t := 23) ?hr ?_; (case hd => rfl); (case hg => rfl); (case hr => first | (go_simp; done) | (go_simp; rfl)); intro gb6101 hg w5 hbox hb; have n0_ := Aside0.mk (below_step (by repeat (first | (with_reducible first | exact HB.out | apply below_alloc | apply pw_below_drewN | apply below_drew1) | exact HB.out)) hb); have n1_ := Aside0.mk (hbox); have n2_ := Aside0.mk ((by rw [hg]; exact (below_size (by repeat (first | (with_reducible first | exact HB.out | apply below_alloc | apply pw_below_drewN | apply below_drew1) | exact HB.out))) : w.heap.size ≤ gb6101)); have n3_ := Aside0.mk ((by rw [hg]; exact (below_size (by repeat (first | (with_reducible first | exact HB.out | apply below_alloc | apply pw_below_drewN | apply below_drew1) | exact HB.out))) : w.heap.size ≤ gb6101)); clear HB; have HB := n0_; have BK6101 := n1_; have GW6101 := n2_; have GE6101 := n3_; clear n0_ n1_ n2_ n3_; clear hb hbox hg) | ((with_reducible refine gate_dst (N := 4) rfl ?_); refine box_event ?hg (N := 4) ?hd (cs := #[.int .i64 a1_0, .int .i64 a1_1, .int .i64 a1_2, .int .i64 a1_3, .int .i64 a1_4, .slice A1_5 l1_5.length c1_5, .bool a1_6]) (t := 36) ?hr ?_; (case hd => rfl); (case hg => rfl); (case hr => first | (go_simp; done) | (go_simp; rfl)); intro gb6102 hg w6 hbox hb; have n0_ := Aside0.mk (blk_below (g := gb6101) (o := .cells #[.int .i64 a0_0, .int .i64 a0_1] 23 (0, 0)) (by (with_reducible repeat (first | refine blk_drewN ?_ _ | refine blk_drew ?_ | refine blk_alloc ?_ _)); exact BK6101.out) hb); have n1_ := Aside0.mk (below_step (by repeat (first | (with_reducible first | exact HB.out | apply below_alloc | apply pw_below_drewN | apply below_drew1 | refine below_set ?_ GE6101.out) | exact HB.out)) hb); have n2_ := Aside0.mk (hbox); have n3_ := Aside0.mk ((by rw [hg]; exact (below_size (by repeat (first | (with_reducible first | exact HB.out | apply below_alloc | apply pw_below_drewN | apply below_drew1 | refine below_set ?_ GE6101.out) | exact HB.out))) : w.heap.size ≤ gb6102)); have n4_ := Aside0.mk ((by rw [hg]; exact (below_size (by repeat (first | (with_reducible first | exact HB.out | apply below_alloc | apply pw_below_drewN | apply below_drew1 | refine below_set ?_ GE6101.out) | exact HB.out))) : w.heap.size ≤ gb6102)); have n5_ := Aside0.mk ((by rw [hg]; exact Nat.ne_of_lt (blk_lt (g := gb6101) (o := .cells #[.int .i64 a0_0, .int .i64 a0_1] 23 (0, 0)) (by (with_reducible repeat (first | refine blk_drewN ?_ _ | refine blk_drew ?_ | refine blk_alloc ?_ _)); exact BK6101.out)) : gb6101 ≠ gb6102)); have n6_ := Aside0.mk ((by rw [hg]; exact Nat.ne_of_gt (blk_lt (g := gb6101) (o := .cells #[.int .i64 a0_0, .int .i64 a0_1] 23 (0, 0)) (by (with_reducible repeat (first | refine blk_drewN ?_ _ | refine blk_drew ?_ | refine blk_alloc ?_ _)); exact BK6101.out)) : gb6102 ≠ gb6101)); clear BK6101; clear HB; have BK6101 := n0_; have HB := n1_; have BK6102 := n2_; have GW6102 := n3_; have GE6102 := n4_; have NB6101_6102 := n5_; have NB6102_6101 := n6_; clear n0_ n1_ n2_ n3_ n4_ n5_ n6_; clear hb hbox hg))
  (try simp only [Act.put, List.setIfInBounds_toArray, List.set_cons_zero, List.set_cons_succ])
  go_cut [33] (fun v33 wc => ∃ (kq : Nat) (x33_3 : Bool), v33 = .bool x33_3 ∧ Aside0 (padlocklaw01_CodesChecks.j0 kq l2 x33_3 a0_0 a0_1 a1_0 a1_1 a1_2 a1_3 a1_4 l1_5 a1_6 = some r) ∧ Aside0 (kq ≤ k) ∧ Aside0 (wc.heap[gb6101]? = some (.cells #[.int .i64 a0_0, .int .i64 a0_1] 23 (0, 0))) ∧ Aside0 (wc.heap[gb6102]? = some (.cells #[.int .i64 a1_0, .int .i64 a1_1, .int .i64 a1_2, .int .i64 a1_3, .int .i64 a1_4, (.slice A1_5 l1_5.length c1_5), .bool a1_6] 36 (0, 0))) ∧ Aside0 (Below w.heap.size w wc))
  case first =>
    have H := HC4.out
    clear HC4
    replace H := Option.bind_eq_some_iff.mp H
    obtain ⟨t6103, A70, H⟩ := H
    replace H : ((padlockref01_Check.f a0_0 a0_1).bind fun t6104 => (if t6103 = t6104 then ((codes_CheckClue.f a0_0 a0_1 a1_0 a1_1 a1_2 a1_3 a1_4 l1_5 a1_6).bind fun t6105 => ((padlockref01_CheckClue.f a0_0 a0_1 a1_0 a1_1 a1_2 a1_3 a1_4 l1_5 a1_6).bind fun t6106 => (if t6105 = t6106 then ((codes_CheckCode.f a0_0 a0_1 l2).bind fun t6107 => ((padlockref01_CheckCode.f k a0_0 a0_1 l2).bind fun t6108 => (padlocklaw01_CodesChecks.j0 k l2 (t6107 != t6108) a0_0 a0_1 a1_0 a1_1 a1_2 a1_3 a1_4 l1_5 a1_6))) else (padlocklaw01_CodesChecks.j0 k l2 true a0_0 a0_1 a1_0 a1_1 a1_2 a1_3 a1_4 l1_5 a1_6)))) else (padlocklaw01_CodesChecks.j0 k l2 true a0_0 a0_1 a1_0 a1_1 a1_2 a1_3 a1_4 l1_5 a1_6))) = some r := H
    have A7 := Aside0.mk A70
    clear A70
    replace H := Option.bind_eq_some_iff.mp H
    obtain ⟨t6104, A80, H⟩ := H
    replace H : (if t6103 = t6104 then ((codes_CheckClue.f a0_0 a0_1 a1_0 a1_1 a1_2 a1_3 a1_4 l1_5 a1_6).bind fun t6105 => ((padlockref01_CheckClue.f a0_0 a0_1 a1_0 a1_1 a1_2 a1_3 a1_4 l1_5 a1_6).bind fun t6106 => (if t6105 = t6106 then ((codes_CheckCode.f a0_0 a0_1 l2).bind fun t6107 => ((padlockref01_CheckCode.f k a0_0 a0_1 l2).bind fun t6108 => (padlocklaw01_CodesChecks.j0 k l2 (t6107 != t6108) a0_0 a0_1 a1_0 a1_1 a1_2 a1_3 a1_4 l1_5 a1_6))) else (padlocklaw01_CodesChecks.j0 k l2 true a0_0 a0_1 a1_0 a1_1 a1_2 a1_3 a1_4 l1_5 a1_6)))) else (padlocklaw01_CodesChecks.j0 k l2 true a0_0 a0_1 a1_0 a1_1 a1_2 a1_3 a1_4 l1_5 a1_6)) = some r := H
    have A8 := Aside0.mk A80
    clear A80
    by_cases c9 : t6103 = t6104
    · rw [if_pos c9] at H
      have c9b0 : (t6103 == t6104) = true := beq_iff_eq.mpr c9
      have c9b1 : (t6103 != t6104) = false := bne_eq_false_iff_eq.mpr c9
      clear c9
      (first | rw [c9b0] | (simp only [i64_w, i32_w]; rw [c9b0]) | skip)
      replace H := Option.bind_eq_some_iff.mp H
      obtain ⟨t6105, A100, H⟩ := H
      replace H : ((padlockref01_CheckClue.f a0_0 a0_1 a1_0 a1_1 a1_2 a1_3 a1_4 l1_5 a1_6).bind fun t6106 => (if t6105 = t6106 then ((codes_CheckCode.f a0_0 a0_1 l2).bind fun t6107 => ((padlockref01_CheckCode.f k a0_0 a0_1 l2).bind fun t6108 => (padlocklaw01_CodesChecks.j0 k l2 (t6107 != t6108) a0_0 a0_1 a1_0 a1_1 a1_2 a1_3 a1_4 l1_5 a1_6))) else (padlocklaw01_CodesChecks.j0 k l2 true a0_0 a0_1 a1_0 a1_1 a1_2 a1_3 a1_4 l1_5 a1_6))) = some r := H
      have A10 := Aside0.mk A100
      clear A100
      replace H := Option.bind_eq_some_iff.mp H
      obtain ⟨t6106, A110, H⟩ := H
      replace H : (if t6105 = t6106 then ((codes_CheckCode.f a0_0 a0_1 l2).bind fun t6107 => ((padlockref01_CheckCode.f k a0_0 a0_1 l2).bind fun t6108 => (padlocklaw01_CodesChecks.j0 k l2 (t6107 != t6108) a0_0 a0_1 a1_0 a1_1 a1_2 a1_3 a1_4 l1_5 a1_6))) else (padlocklaw01_CodesChecks.j0 k l2 true a0_0 a0_1 a1_0 a1_1 a1_2 a1_3 a1_4 l1_5 a1_6)) = some r := H
      have A11 := Aside0.mk A110
      clear A110
      by_cases c12 : t6105 = t6106
      · rw [if_pos c12] at H
        have c12b0 : (t6105 == t6106) = true := beq_iff_eq.mpr c12
        have c12b1 : (t6105 != t6106) = false := bne_eq_false_iff_eq.mpr c12
        clear c12
        replace H := Option.bind_eq_some_iff.mp H
        obtain ⟨t6107, A130, H⟩ := H
        replace H : ((padlockref01_CheckCode.f k a0_0 a0_1 l2).bind fun t6108 => (padlocklaw01_CodesChecks.j0 k l2 (t6107 != t6108) a0_0 a0_1 a1_0 a1_1 a1_2 a1_3 a1_4 l1_5 a1_6)) = some r := H
        have A13 := Aside0.mk A130
        clear A130
        replace H := Option.bind_eq_some_iff.mp H
        obtain ⟨t6108, A140, H⟩ := H
        replace H : (padlocklaw01_CodesChecks.j0 k l2 (t6107 != t6108) a0_0 a0_1 a1_0 a1_1 a1_2 a1_3 a1_4 l1_5 a1_6) = some r := H
        have A14 := Aside0.mk A140
        clear A140
        have H' := Aside0.mk H
        clear H
        try go_wp2
        have n0_ := Aside0.mk (blk_drew BK6101.out)
        have n1_ := Aside0.mk (blk_drew BK6102.out)
        have n2_ := Aside0.mk (below_drew1 HB.out)
        clear BK6101
        clear BK6102
        clear HB
        have BK6101 := n0_
        have BK6102 := n1_
        have HB := n2_
        clear n0_ n1_ n2_
        refine start_ (n := 23) (S := fun w' => w'.cell? ⟨gb6101, 0, none⟩ = some (.int .i64 a0_0) ∧ w'.cell? ⟨gb6101, 1, none⟩ = some (.int .i64 a0_1) ∧ w'.cell? ⟨gb6102, 0, none⟩ = some (.int .i64 a1_0) ∧ w'.cell? ⟨gb6102, 1, none⟩ = some (.int .i64 a1_1) ∧ w'.cell? ⟨gb6102, 2, none⟩ = some (.int .i64 a1_2) ∧ w'.cell? ⟨gb6102, 3, none⟩ = some (.int .i64 a1_3) ∧ w'.cell? ⟨gb6102, 4, none⟩ = some (.int .i64 a1_4) ∧ w'.cell? ⟨gb6102, 5, none⟩ = some (.slice A1_5 l1_5.length c1_5) ∧ w'.cell? ⟨gb6102, 6, none⟩ = some (.bool a1_6)) (ds := []) #[false, false, false, false, false, false, false, false, false, false, false, false, false, false, false, false, false, false, false, false, false, false, false] (by kernel_rfl) rfl rfl ⟨(blk_cell BK6101.out 0).trans rfl, (blk_cell BK6101.out 1).trans rfl, (blk_cell BK6102.out 0).trans rfl, (blk_cell BK6102.out 1).trans rfl, (blk_cell BK6102.out 2).trans rfl, (blk_cell BK6102.out 3).trans rfl, (blk_cell BK6102.out 4).trans rfl, (blk_cell BK6102.out 5).trans rfl, (blk_cell BK6102.out 6).trans rfl⟩ (fun hHeld => ?_); refine with_tabW padlocklaw01_CodesChecks.tab1 padlocklaw01_CodesChecks.bits1 (fun HT_ HW_ => ?_)
        generalize w6.drew = w15 at BK6101 BK6102 HB hHeld ⊢
        refine take_ (i := 0) (N := some 11) (v := ?_) (a' := ?_) #[true, false, false, false, false, false, false, false, false, false, false, false, false, false, false, false, false, false, false, false, false, false, false] rfl rfl (take_ofW HT_.out HW_.out (by kernel_rfl)) (fun _ _ _ h => h) (Or.inl ⟨by rfl, ?_⟩) hHeld ?_ ?_
        rotate_left
        · rintro w' ⟨s0, s1, s2, s3, s4, s5, s6, s7, s8⟩
          go_simp
          with_reducible rfl
        rotate_left
        · simp only [Act.put, List.setIfInBounds_toArray, List.set_cons_zero, List.set_cons_succ, i64_w, i32_w]
          rfl
        refine take_ (i := 2) (N := some 13) (v := ?_) (a' := ?_) #[true, false, true, false, false, false, false, false, false, false, false, false, false, false, false, false, false, false, false, false, false, false, false] rfl rfl (take_ofW HT_.out HW_.out (by kernel_rfl)) (fun _ _ _ h => h) (Or.inl ⟨by rfl, ?_⟩) hHeld ?_ ?_
        rotate_left
        · rintro w' ⟨s0, s1, s2, s3, s4, s5, s6, s7, s8⟩
          go_simp
          with_reducible rfl
        rotate_left
        · simp only [Act.put, List.setIfInBounds_toArray, List.set_cons_zero, List.set_cons_succ, i64_w, i32_w]
          rfl
        refine one_ (i := 1) (N := some 12) #[true, true, true, false, false, false, false, false, false, false, false, false, false, false, false, false, false, false, false, false, false, false, false] rfl rfl (one_of HT_.out (by kernel_rfl)) (by decide) (fun K hK => ?_)
        refine goes_ Try.func24 (by kernel_rfl) rfl #[.agg #[.int .i64 a0_0, .int .i64 a0_1]] (by rfl) rfl rfl (by (try simp only [List.map_toArray, List.map_cons, List.map_nil]); first | done | rfl | (simp only [List.length_drop, List.length_take]; rfl)) ?_
        with_reducible refine (codes_Check.calls a0_0 a0_1 t6103 _ A7.out).mono ?_
        rintro e w16 ⟨rfl, hb⟩
        refine ⟨_, rfl, ?_⟩
        have n0_ := Aside0.mk (blk_below (g := gb6101) (o := .cells #[.int .i64 a0_0, .int .i64 a0_1] 23 (0, 0)) (by (with_reducible repeat (first | refine blk_drewN ?_ _ | refine blk_drew ?_ | refine blk_alloc ?_ _)); exact BK6101.out) hb)
        have n1_ := Aside0.mk (blk_below (g := gb6102) (o := .cells #[.int .i64 a1_0, .int .i64 a1_1, .int .i64 a1_2, .int .i64 a1_3, .int .i64 a1_4, .slice A1_5 l1_5.length c1_5, .bool a1_6] 36 (0, 0)) (by (with_reducible repeat (first | refine blk_drewN ?_ _ | refine blk_drew ?_ | refine blk_alloc ?_ _)); exact BK6102.out) hb)
        have n2_ := Aside0.mk (below_step (by repeat (first | (with_reducible first | exact HB.out | apply below_alloc | apply pw_below_drewN | apply below_drew1 | refine below_set ?_ GE6101.out | refine below_set ?_ GE6102.out) | exact HB.out)) hb)
        clear BK6101
        clear BK6102
        clear HB
        have BK6101 := n0_
        have BK6102 := n1_
        have HB := n2_
        clear n0_ n1_ n2_
        (try clear hb)
        (try clear hb2)
        (try clear hk)
        (try clear hi)
        refine hK.out _ _ ⟨(blk_cell BK6101.out 0).trans rfl, (blk_cell BK6101.out 1).trans rfl, (blk_cell BK6102.out 0).trans rfl, (blk_cell BK6102.out 1).trans rfl, (blk_cell BK6102.out 2).trans rfl, (blk_cell BK6102.out 3).trans rfl, (blk_cell BK6102.out 4).trans rfl, (blk_cell BK6102.out 5).trans rfl, (blk_cell BK6102.out 6).trans rfl⟩ (fun hHeld => ?_)
        clear hK K
        refine norm_ (a' := ?_) ?_ ?_
        rotate_left
        · show Act.put _ (some 12) _ = _
          simp only [Act.put, List.setIfInBounds_toArray, List.set_cons_zero, List.set_cons_succ, i64_w, i32_w]
          rfl
        refine one_ (i := 3) (N := some 14) #[true, true, true, true, false, false, false, false, false, false, false, false, false, false, false, false, false, false, false, false, false, false, false] rfl rfl (one_of HT_.out (by kernel_rfl)) (by decide) (fun K hK => ?_)
        refine goes_ Try.func25 (by kernel_rfl) rfl #[.agg #[.int .i64 a0_0, .int .i64 a0_1]] (by rfl) rfl rfl (by (try simp only [List.map_toArray, List.map_cons, List.map_nil]); first | done | rfl | (simp only [List.length_drop, List.length_take]; rfl)) ?_
        with_reducible refine (padlockref01_Check.calls a0_0 a0_1 t6104 _ A8.out).mono ?_
        rintro e w17 ⟨rfl, hb⟩
        refine ⟨_, rfl, ?_⟩
        have n0_ := Aside0.mk (blk_below (g := gb6101) (o := .cells #[.int .i64 a0_0, .int .i64 a0_1] 23 (0, 0)) (by (with_reducible repeat (first | refine blk_drewN ?_ _ | refine blk_drew ?_ | refine blk_alloc ?_ _)); exact BK6101.out) hb)
        have n1_ := Aside0.mk (blk_below (g := gb6102) (o := .cells #[.int .i64 a1_0, .int .i64 a1_1, .int .i64 a1_2, .int .i64 a1_3, .int .i64 a1_4, .slice A1_5 l1_5.length c1_5, .bool a1_6] 36 (0, 0)) (by (with_reducible repeat (first | refine blk_drewN ?_ _ | refine blk_drew ?_ | refine blk_alloc ?_ _)); exact BK6102.out) hb)
        have n2_ := Aside0.mk (below_step (by repeat (first | (with_reducible first | exact HB.out | apply below_alloc | apply pw_below_drewN | apply below_drew1 | refine below_set ?_ GE6101.out | refine below_set ?_ GE6102.out) | exact HB.out)) hb)
        clear BK6101
        clear BK6102
        clear HB
        have BK6101 := n0_
        have BK6102 := n1_
        have HB := n2_
        clear n0_ n1_ n2_
        (try clear hb)
        (try clear hb2)
        (try clear hk)
        (try clear hi)
        refine hK.out _ _ ⟨(blk_cell BK6101.out 0).trans rfl, (blk_cell BK6101.out 1).trans rfl, (blk_cell BK6102.out 0).trans rfl, (blk_cell BK6102.out 1).trans rfl, (blk_cell BK6102.out 2).trans rfl, (blk_cell BK6102.out 3).trans rfl, (blk_cell BK6102.out 4).trans rfl, (blk_cell BK6102.out 5).trans rfl, (blk_cell BK6102.out 6).trans rfl⟩ (fun hHeld => ?_)
        clear hK K
        refine norm_ (a' := ?_) ?_ ?_
        rotate_left
        · show Act.put _ (some 14) _ = _
          simp only [Act.put, List.setIfInBounds_toArray, List.set_cons_zero, List.set_cons_succ, i64_w, i32_w]
          rfl
        refine pure_ (i := 4) (N := some 15) (v := ?_) (a' := ?_) #[true, true, true, true, true, false, false, false, false, false, false, false, false, false, false, false, false, false, false, false, false, false, false] rfl rfl (any_of HT_.out (by kernel_rfl)) (fun _ _ _ h => h) (Or.inl ⟨by rfl, ?_⟩) ?_ ?_
        rotate_left
        · intro w'
          go_simp
          with_reducible rfl
        rotate_left
        · simp only [Act.put, List.setIfInBounds_toArray, List.set_cons_zero, List.set_cons_succ, i64_w, i32_w]
          rfl
        refine pure_ (i := 5) (N := some 16) (v := ?_) (a' := ?_) #[true, true, true, true, true, true, false, false, false, false, false, false, false, false, false, false, false, false, false, false, false, false, false] rfl rfl (any_of HT_.out (by kernel_rfl)) (fun _ _ _ h => h) (Or.inl ⟨by rfl, ?_⟩) ?_ ?_
        rotate_left
        · intro w'
          go_simp
          with_reducible rfl
        rotate_left
        · simp only [Act.put, List.setIfInBounds_toArray, List.set_cons_zero, List.set_cons_succ, i64_w, i32_w]
          rfl
        refine take_ (i := 6) (N := some 17) (v := ?_) (a' := ?_) #[true, true, true, true, true, true, true, false, false, false, false, false, false, false, false, false, false, false, false, false, false, false, false] rfl rfl (take_ofW HT_.out HW_.out (by kernel_rfl)) (fun _ _ _ h => h) (Or.inl ⟨by rfl, ?_⟩) hHeld ?_ ?_
        rotate_left
        · rintro w' ⟨s0, s1, s2, s3, s4, s5, s6, s7, s8⟩
          go_simp
          with_reducible rfl
        rotate_left
        · simp only [Act.put, List.setIfInBounds_toArray, List.set_cons_zero, List.set_cons_succ, i64_w, i32_w]
          rfl
        refine take_ (i := 7) (N := some 18) (v := ?_) (a' := ?_) #[true, true, true, true, true, true, true, true, false, false, false, false, false, false, false, false, false, false, false, false, false, false, false] rfl rfl (take_ofW HT_.out HW_.out (by kernel_rfl)) (fun _ _ _ h => h) (Or.inl ⟨by rfl, ?_⟩) hHeld ?_ ?_
        rotate_left
        · rintro w' ⟨s0, s1, s2, s3, s4, s5, s6, s7, s8⟩
          go_simp
          with_reducible rfl
        rotate_left
        · simp only [Act.put, List.setIfInBounds_toArray, List.set_cons_zero, List.set_cons_succ, i64_w, i32_w]
          rfl
        refine take_ (i := 9) (N := some 20) (v := ?_) (a' := ?_) #[true, true, true, true, true, true, true, true, false, true, false, false, false, false, false, false, false, false, false, false, false, false, false] rfl rfl (take_ofW HT_.out HW_.out (by kernel_rfl)) (fun _ _ _ h => h) (Or.inl ⟨by rfl, ?_⟩) hHeld ?_ ?_
        rotate_left
        · rintro w' ⟨s0, s1, s2, s3, s4, s5, s6, s7, s8⟩
          go_simp
          with_reducible rfl
        rotate_left
        · simp only [Act.put, List.setIfInBounds_toArray, List.set_cons_zero, List.set_cons_succ, i64_w, i32_w]
          rfl
        refine take_ (i := 10) (N := some 21) (v := ?_) (a' := ?_) #[true, true, true, true, true, true, true, true, false, true, true, false, false, false, false, false, false, false, false, false, false, false, false] rfl rfl (take_ofW HT_.out HW_.out (by kernel_rfl)) (fun _ _ _ h => h) (Or.inl ⟨by rfl, ?_⟩) hHeld ?_ ?_
        rotate_left
        · rintro w' ⟨s0, s1, s2, s3, s4, s5, s6, s7, s8⟩
          go_simp
          with_reducible rfl
        rotate_left
        · simp only [Act.put, List.setIfInBounds_toArray, List.set_cons_zero, List.set_cons_succ, i64_w, i32_w]
          rfl
        refine one_ (i := 8) (N := some 19) #[true, true, true, true, true, true, true, true, true, true, true, false, false, false, false, false, false, false, false, false, false, false, false] rfl rfl (one_of HT_.out (by kernel_rfl)) (by decide) (fun K hK => ?_)
        refine goes_ Try.func26 (by kernel_rfl) rfl #[.agg #[.int .i64 a0_0, .int .i64 a0_1], .agg #[.int .i64 a1_0, .int .i64 a1_1, .int .i64 a1_2, .int .i64 a1_3, .int .i64 a1_4, .slice A1_5 l1_5.length c1_5, .bool a1_6]] (by rfl) rfl rfl (by (try simp only [List.map_toArray, List.map_cons, List.map_nil]); first | done | rfl | (simp only [List.length_drop, List.length_take]; rfl)) ?_
        with_reducible refine (codes_CheckClue.calls a0_0 a0_1 a1_0 a1_1 a1_2 a1_3 a1_4 _ _ l1_5 a1_6 t6105 _ ?side1 ?side2 A10.out).mono ?_
        (case side1 => repeat (first | exact (Kd.C_below HR1_5.out HB.out) | (with_reducible refine Kd.C_alloc ?_ _) | (with_reducible refine Kd.C_drewN ?_ _) | (with_reducible refine Kd.C_drew ?_)))
        (case side2 => exact HC1_5.out)
        rintro e w18 ⟨rfl, hb⟩
        refine ⟨_, rfl, ?_⟩
        have n0_ := Aside0.mk (blk_below (g := gb6101) (o := .cells #[.int .i64 a0_0, .int .i64 a0_1] 23 (0, 0)) (by (with_reducible repeat (first | refine blk_drewN ?_ _ | refine blk_drew ?_ | refine blk_alloc ?_ _)); exact BK6101.out) hb)
        have n1_ := Aside0.mk (blk_below (g := gb6102) (o := .cells #[.int .i64 a1_0, .int .i64 a1_1, .int .i64 a1_2, .int .i64 a1_3, .int .i64 a1_4, .slice A1_5 l1_5.length c1_5, .bool a1_6] 36 (0, 0)) (by (with_reducible repeat (first | refine blk_drewN ?_ _ | refine blk_drew ?_ | refine blk_alloc ?_ _)); exact BK6102.out) hb)
        have n2_ := Aside0.mk (below_step (by repeat (first | (with_reducible first | exact HB.out | apply below_alloc | apply pw_below_drewN | apply below_drew1 | refine below_set ?_ GE6101.out | refine below_set ?_ GE6102.out) | exact HB.out)) hb)
        clear BK6101
        clear BK6102
        clear HB
        have BK6101 := n0_
        have BK6102 := n1_
        have HB := n2_
        clear n0_ n1_ n2_
        (try clear hb)
        (try clear hb2)
        (try clear hk)
        (try clear hi)
        refine hK.out _ _ ⟨(blk_cell BK6101.out 0).trans rfl, (blk_cell BK6101.out 1).trans rfl, (blk_cell BK6102.out 0).trans rfl, (blk_cell BK6102.out 1).trans rfl, (blk_cell BK6102.out 2).trans rfl, (blk_cell BK6102.out 3).trans rfl, (blk_cell BK6102.out 4).trans rfl, (blk_cell BK6102.out 5).trans rfl, (blk_cell BK6102.out 6).trans rfl⟩ (fun hHeld => ?_)
        clear hK K
        refine norm_ (a' := ?_) ?_ ?_
        rotate_left
        · show Act.put _ (some 19) _ = _
          simp only [Act.put, List.setIfInBounds_toArray, List.set_cons_zero, List.set_cons_succ, i64_w, i32_w]
          rfl
        refine one_ (i := 11) (N := some 22) #[true, true, true, true, true, true, true, true, true, true, true, true, false, false, false, false, false, false, false, false, false, false, false] rfl rfl (one_of HT_.out (by kernel_rfl)) (by decide) (fun K hK => ?_)
        refine goes_ Try.func27 (by kernel_rfl) rfl #[.agg #[.int .i64 a0_0, .int .i64 a0_1], .agg #[.int .i64 a1_0, .int .i64 a1_1, .int .i64 a1_2, .int .i64 a1_3, .int .i64 a1_4, .slice A1_5 l1_5.length c1_5, .bool a1_6]] (by rfl) rfl rfl (by (try simp only [List.map_toArray, List.map_cons, List.map_nil]); first | done | rfl | (simp only [List.length_drop, List.length_take]; rfl)) ?_
        with_reducible refine (padlockref01_CheckClue.calls a0_0 a0_1 a1_0 a1_1 a1_2 a1_3 a1_4 _ _ l1_5 a1_6 t6106 _ ?side1 ?side2 A11.out).mono ?_
        (case side1 => repeat (first | exact (Kd.C_below HR1_5.out HB.out) | (with_reducible refine Kd.C_alloc ?_ _) | (with_reducible refine Kd.C_drewN ?_ _) | (with_reducible refine Kd.C_drew ?_)))
        (case side2 => exact HC1_5.out)
        rintro e w19 ⟨rfl, hb⟩
        refine ⟨_, rfl, ?_⟩
        have n0_ := Aside0.mk (blk_below (g := gb6101) (o := .cells #[.int .i64 a0_0, .int .i64 a0_1] 23 (0, 0)) (by (with_reducible repeat (first | refine blk_drewN ?_ _ | refine blk_drew ?_ | refine blk_alloc ?_ _)); exact BK6101.out) hb)
        have n1_ := Aside0.mk (blk_below (g := gb6102) (o := .cells #[.int .i64 a1_0, .int .i64 a1_1, .int .i64 a1_2, .int .i64 a1_3, .int .i64 a1_4, .slice A1_5 l1_5.length c1_5, .bool a1_6] 36 (0, 0)) (by (with_reducible repeat (first | refine blk_drewN ?_ _ | refine blk_drew ?_ | refine blk_alloc ?_ _)); exact BK6102.out) hb)
        have n2_ := Aside0.mk (below_step (by repeat (first | (with_reducible first | exact HB.out | apply below_alloc | apply pw_below_drewN | apply below_drew1 | refine below_set ?_ GE6101.out | refine below_set ?_ GE6102.out) | exact HB.out)) hb)
        clear BK6101
        clear BK6102
        clear HB
        have BK6101 := n0_
        have BK6102 := n1_
        have HB := n2_
        clear n0_ n1_ n2_
        (try clear hb)
        (try clear hb2)
        (try clear hk)
        (try clear hi)
        refine hK.out _ _ ⟨(blk_cell BK6101.out 0).trans rfl, (blk_cell BK6101.out 1).trans rfl, (blk_cell BK6102.out 0).trans rfl, (blk_cell BK6102.out 1).trans rfl, (blk_cell BK6102.out 2).trans rfl, (blk_cell BK6102.out 3).trans rfl, (blk_cell BK6102.out 4).trans rfl, (blk_cell BK6102.out 5).trans rfl, (blk_cell BK6102.out 6).trans rfl⟩ (fun hHeld => ?_)
        clear hK K
        refine norm_ (a' := ?_) ?_ ?_
        rotate_left
        · show Act.put _ (some 22) _ = _
          simp only [Act.put, List.setIfInBounds_toArray, List.set_cons_zero, List.set_cons_succ, i64_w, i32_w]
          rfl
        refine pure_ (i := 12) (N := some 23) (v := ?_) (a' := ?_) #[true, true, true, true, true, true, true, true, true, true, true, true, true, false, false, false, false, false, false, false, false, false, false] rfl rfl (any_of HT_.out (by kernel_rfl)) (fun _ _ _ h => h) (Or.inl ⟨by rfl, ?_⟩) ?_ ?_
        rotate_left
        · intro w'
          go_simp
          with_reducible rfl
        rotate_left
        · simp only [Act.put, List.setIfInBounds_toArray, List.set_cons_zero, List.set_cons_succ, i64_w, i32_w]
          rfl
        refine pure_ (i := 13) (N := some 24) (v := ?_) (a' := ?_) #[true, true, true, true, true, true, true, true, true, true, true, true, true, true, false, false, false, false, false, false, false, false, false] rfl rfl (any_of HT_.out (by kernel_rfl)) (fun _ _ _ h => h) (Or.inl ⟨by rfl, ?_⟩) ?_ ?_
        rotate_left
        · intro w'
          go_simp
          with_reducible rfl
        rotate_left
        · simp only [Act.put, List.setIfInBounds_toArray, List.set_cons_zero, List.set_cons_succ, i64_w, i32_w]
          rfl
        refine pure_ (i := 14) (N := some 25) (v := ?_) (a' := ?_) #[true, true, true, true, true, true, true, true, true, true, true, true, true, true, true, false, false, false, false, false, false, false, false] rfl rfl (any_of HT_.out (by kernel_rfl)) (fun _ _ _ h => h) (Or.inl ⟨by rfl, ?_⟩) ?_ ?_
        rotate_left
        · intro w'
          go_simp
          with_reducible rfl
        rotate_left
        · simp only [Act.put, List.setIfInBounds_toArray, List.set_cons_zero, List.set_cons_succ, i64_w, i32_w]
          rfl
        refine pure_ (i := 16) (N := some 27) (v := ?_) (a' := ?_) #[true, true, true, true, true, true, true, true, true, true, true, true, true, true, true, false, true, false, false, false, false, false, false] rfl rfl (any_of HT_.out (by kernel_rfl)) (fun _ _ _ h => h) (Or.inl ⟨by rfl, ?_⟩) ?_ ?_
        rotate_left
        · intro w'
          go_simp
          with_reducible rfl
        rotate_left
        · simp only [Act.put, List.setIfInBounds_toArray, List.set_cons_zero, List.set_cons_succ, i64_w, i32_w]
          rfl
        refine pure_ (i := 19) (N := some 30) (v := ?_) (a' := ?_) #[true, true, true, true, true, true, true, true, true, true, true, true, true, true, true, false, true, false, false, true, false, false, false] rfl rfl (any_of HT_.out (by kernel_rfl)) (fun _ _ _ h => h) (Or.inl ⟨by rfl, ?_⟩) ?_ ?_
        rotate_left
        · intro w'
          go_simp
          with_reducible rfl
        rotate_left
        · simp only [Act.put, List.setIfInBounds_toArray, List.set_cons_zero, List.set_cons_succ, i64_w, i32_w]
          rfl
        refine take_ (i := 15) (N := some 26) (v := ?_) (a' := ?_) #[true, true, true, true, true, true, true, true, true, true, true, true, true, true, true, true, true, false, false, true, false, false, false] rfl rfl (take_ofW HT_.out HW_.out (by kernel_rfl)) (fun _ _ _ h => h) (Or.inl ⟨by rfl, ?_⟩) hHeld ?_ ?_
        rotate_left
        · rintro w' ⟨s0, s1, s2, s3, s4, s5, s6, s7, s8⟩
          go_simp
          with_reducible rfl
        rotate_left
        · simp only [Act.put, List.setIfInBounds_toArray, List.set_cons_zero, List.set_cons_succ, i64_w, i32_w]
          rfl
        refine take_ (i := 18) (N := some 29) (v := ?_) (a' := ?_) #[true, true, true, true, true, true, true, true, true, true, true, true, true, true, true, true, true, false, true, true, false, false, false] rfl rfl (take_ofW HT_.out HW_.out (by kernel_rfl)) (fun _ _ _ h => h) (Or.inl ⟨by rfl, ?_⟩) hHeld ?_ ?_
        rotate_left
        · rintro w' ⟨s0, s1, s2, s3, s4, s5, s6, s7, s8⟩
          go_simp
          with_reducible rfl
        rotate_left
        · simp only [Act.put, List.setIfInBounds_toArray, List.set_cons_zero, List.set_cons_succ, i64_w, i32_w]
          rfl
        refine one_ (i := 17) (N := some 28) #[true, true, true, true, true, true, true, true, true, true, true, true, true, true, true, true, true, true, true, true, false, false, false] rfl rfl (one_of HT_.out (by kernel_rfl)) (by decide) (fun K hK => ?_)
        refine goes_ Try.func28 (by kernel_rfl) rfl #[.agg #[.int .i64 a0_0, .int .i64 a0_1], .slice A2 l2.length c2] (by rfl) rfl rfl (by (try simp only [List.map_toArray, List.map_cons, List.map_nil]); first | done | rfl | (simp only [List.length_drop, List.length_take]; rfl)) ?_
        with_reducible refine (codes_CheckCode.calls a0_0 a0_1 (fun k_ => k_ < w.heap.size) _ _ l2 t6107 _ ?side1 A13.out).mono ?_
        (case side1 => exact Kd.V_mk HC2.out (Kd.F_below (Kd.C_F (Kd.heap_int .i64) HR2.out) (by repeat (first | (with_reducible first | exact HB.out | apply below_alloc | apply pw_below_drewN | apply below_drew1 | refine below_set ?_ GE6101.out | refine below_set ?_ GE6102.out) | exact HB.out))))
        rintro e w20 ⟨rfl, hb⟩
        refine ⟨_, rfl, ?_⟩
        have n0_ := Aside0.mk (blk_below (g := gb6101) (o := .cells #[.int .i64 a0_0, .int .i64 a0_1] 23 (0, 0)) (by (with_reducible repeat (first | refine blk_drewN ?_ _ | refine blk_drew ?_ | refine blk_alloc ?_ _)); exact BK6101.out) hb)
        have n1_ := Aside0.mk (blk_below (g := gb6102) (o := .cells #[.int .i64 a1_0, .int .i64 a1_1, .int .i64 a1_2, .int .i64 a1_3, .int .i64 a1_4, .slice A1_5 l1_5.length c1_5, .bool a1_6] 36 (0, 0)) (by (with_reducible repeat (first | refine blk_drewN ?_ _ | refine blk_drew ?_ | refine blk_alloc ?_ _)); exact BK6102.out) hb)
        have n2_ := Aside0.mk (below_step (by repeat (first | (with_reducible first | exact HB.out | apply below_alloc | apply pw_below_drewN | apply below_drew1 | refine below_set ?_ GE6101.out | refine below_set ?_ GE6102.out) | exact HB.out)) hb)
        clear BK6101
        clear BK6102
        clear HB
        have BK6101 := n0_
        have BK6102 := n1_
        have HB := n2_
        clear n0_ n1_ n2_
        (try clear hb)
        (try clear hb2)
        (try clear hk)
        (try clear hi)
        refine hK.out _ _ ⟨(blk_cell BK6101.out 0).trans rfl, (blk_cell BK6101.out 1).trans rfl, (blk_cell BK6102.out 0).trans rfl, (blk_cell BK6102.out 1).trans rfl, (blk_cell BK6102.out 2).trans rfl, (blk_cell BK6102.out 3).trans rfl, (blk_cell BK6102.out 4).trans rfl, (blk_cell BK6102.out 5).trans rfl, (blk_cell BK6102.out 6).trans rfl⟩ (fun hHeld => ?_)
        clear hK K
        refine norm_ (a' := ?_) ?_ ?_
        rotate_left
        · show Act.put _ (some 28) _ = _
          simp only [Act.put, List.setIfInBounds_toArray, List.set_cons_zero, List.set_cons_succ, i64_w, i32_w]
          rfl
        refine one_ (i := 20) (N := some 31) #[true, true, true, true, true, true, true, true, true, true, true, true, true, true, true, true, true, true, true, true, true, false, false] rfl rfl (one_of HT_.out (by kernel_rfl)) (by decide) (fun K hK => ?_)
        refine goes_ Try.func29 (by kernel_rfl) rfl #[.agg #[.int .i64 a0_0, .int .i64 a0_1], .slice A2 l2.length c2] (by rfl) rfl rfl (by (try simp only [List.map_toArray, List.map_cons, List.map_nil]); first | done | rfl | (simp only [List.length_drop, List.length_take]; rfl)) ?_
        with_reducible refine (padlockref01_CheckCode.calls k a0_0 a0_1 _ _ l2 t6108 _ ?side1 ?side2 A14.out).mono ?_
        (case side1 => repeat (first | exact (Kd.C_below HR2.out HB.out) | (with_reducible refine Kd.C_alloc ?_ _) | (with_reducible refine Kd.C_drewN ?_ _) | (with_reducible refine Kd.C_drew ?_)))
        (case side2 => exact HC2.out)
        rintro e w21 ⟨rfl, hb⟩
        refine ⟨_, rfl, ?_⟩
        have n0_ := Aside0.mk (blk_below (g := gb6101) (o := .cells #[.int .i64 a0_0, .int .i64 a0_1] 23 (0, 0)) (by (with_reducible repeat (first | refine blk_drewN ?_ _ | refine blk_drew ?_ | refine blk_alloc ?_ _)); exact BK6101.out) hb)
        have n1_ := Aside0.mk (blk_below (g := gb6102) (o := .cells #[.int .i64 a1_0, .int .i64 a1_1, .int .i64 a1_2, .int .i64 a1_3, .int .i64 a1_4, .slice A1_5 l1_5.length c1_5, .bool a1_6] 36 (0, 0)) (by (with_reducible repeat (first | refine blk_drewN ?_ _ | refine blk_drew ?_ | refine blk_alloc ?_ _)); exact BK6102.out) hb)
        have n2_ := Aside0.mk (below_step (by repeat (first | (with_reducible first | exact HB.out | apply below_alloc | apply pw_below_drewN | apply below_drew1 | refine below_set ?_ GE6101.out | refine below_set ?_ GE6102.out) | exact HB.out)) hb)
        clear BK6101
        clear BK6102
        clear HB
        have BK6101 := n0_
        have BK6102 := n1_
        have HB := n2_
        clear n0_ n1_ n2_
        (try clear hb)
        (try clear hb2)
        (try clear hk)
        (try clear hi)
        refine hK.out _ _ ⟨(blk_cell BK6101.out 0).trans rfl, (blk_cell BK6101.out 1).trans rfl, (blk_cell BK6102.out 0).trans rfl, (blk_cell BK6102.out 1).trans rfl, (blk_cell BK6102.out 2).trans rfl, (blk_cell BK6102.out 3).trans rfl, (blk_cell BK6102.out 4).trans rfl, (blk_cell BK6102.out 5).trans rfl, (blk_cell BK6102.out 6).trans rfl⟩ (fun hHeld => ?_)
        clear hK K
        refine norm_ (a' := ?_) ?_ ?_
        rotate_left
        · show Act.put _ (some 31) _ = _
          simp only [Act.put, List.setIfInBounds_toArray, List.set_cons_zero, List.set_cons_succ, i64_w, i32_w]
          rfl
        refine pure_ (i := 21) (N := some 32) (v := ?_) (a' := ?_) #[true, true, true, true, true, true, true, true, true, true, true, true, true, true, true, true, true, true, true, true, true, true, false] rfl rfl (any_of HT_.out (by kernel_rfl)) (fun _ _ _ h => h) (Or.inl ⟨by rfl, ?_⟩) ?_ ?_
        rotate_left
        · intro w'
          go_simp
          with_reducible rfl
        rotate_left
        · simp only [Act.put, List.setIfInBounds_toArray, List.set_cons_zero, List.set_cons_succ, i64_w, i32_w]
          rfl
        refine pure_ (i := 22) (N := some 33) (v := ?_) (a' := ?_) #[true, true, true, true, true, true, true, true, true, true, true, true, true, true, true, true, true, true, true, true, true, true, true] rfl rfl (any_of HT_.out (by kernel_rfl)) (fun _ _ _ h => h) (Or.inl ⟨by rfl, ?_⟩) ?_ ?_
        rotate_left
        · intro w'
          go_simp
          with_reducible rfl
        rotate_left
        · simp only [Act.put, List.setIfInBounds_toArray, List.set_cons_zero, List.set_cons_succ, i64_w, i32_w]
          rfl
        refine done_ (done_of HT_.out (by kernel_rfl)) ?_
        try go_wp2
        go_meet
        case rel => exact ⟨_, ((t6107 != t6108)), (by first | rfl | (simp; done) | (simp [*]; done)), H', ⟨by first | omega | exact Nat.le_refl _⟩, ⟨by (with_reducible repeat (first | refine blk_drewN ?_ _ | refine blk_drew ?_ | refine blk_alloc ?_ _)); exact BK6101.out⟩, ⟨by (with_reducible repeat (first | refine blk_drewN ?_ _ | refine blk_drew ?_ | refine blk_alloc ?_ _)); exact BK6102.out⟩, ⟨by repeat (first | (with_reducible first | exact HB.out | apply below_alloc | apply pw_below_drewN | apply below_drew1 | refine below_set ?_ GE6101.out | refine below_set ?_ GE6102.out) | exact HB.out)⟩⟩
      · rw [if_neg c12] at H
        have c12b0 : (t6105 == t6106) = false := beq_eq_false_iff_ne.mpr c12
        have c12b1 : (t6105 != t6106) = true := bne_iff_ne.mpr c12
        have H' := Aside0.mk H
        clear H
        try go_wp2
        have n0_ := Aside0.mk (blk_drew BK6101.out)
        have n1_ := Aside0.mk (blk_drew BK6102.out)
        have n2_ := Aside0.mk (below_drew1 HB.out)
        clear BK6101
        clear BK6102
        clear HB
        have BK6101 := n0_
        have BK6102 := n1_
        have HB := n2_
        clear n0_ n1_ n2_
        refine start_ (n := 23) (S := fun w' => w'.cell? ⟨gb6101, 0, none⟩ = some (.int .i64 a0_0) ∧ w'.cell? ⟨gb6101, 1, none⟩ = some (.int .i64 a0_1) ∧ w'.cell? ⟨gb6102, 0, none⟩ = some (.int .i64 a1_0) ∧ w'.cell? ⟨gb6102, 1, none⟩ = some (.int .i64 a1_1) ∧ w'.cell? ⟨gb6102, 2, none⟩ = some (.int .i64 a1_2) ∧ w'.cell? ⟨gb6102, 3, none⟩ = some (.int .i64 a1_3) ∧ w'.cell? ⟨gb6102, 4, none⟩ = some (.int .i64 a1_4) ∧ w'.cell? ⟨gb6102, 5, none⟩ = some (.slice A1_5 l1_5.length c1_5) ∧ w'.cell? ⟨gb6102, 6, none⟩ = some (.bool a1_6)) (ds := []) #[false, false, false, false, false, false, false, false, false, false, false, false, false, false, false, false, false, false, false, false, false, false, false] (by kernel_rfl) rfl rfl ⟨(blk_cell BK6101.out 0).trans rfl, (blk_cell BK6101.out 1).trans rfl, (blk_cell BK6102.out 0).trans rfl, (blk_cell BK6102.out 1).trans rfl, (blk_cell BK6102.out 2).trans rfl, (blk_cell BK6102.out 3).trans rfl, (blk_cell BK6102.out 4).trans rfl, (blk_cell BK6102.out 5).trans rfl, (blk_cell BK6102.out 6).trans rfl⟩ (fun hHeld => ?_); refine with_tabW padlocklaw01_CodesChecks.tab1 padlocklaw01_CodesChecks.bits1 (fun HT_ HW_ => ?_)
        generalize w6.drew = w22 at BK6101 BK6102 HB hHeld ⊢
        refine take_ (i := 0) (N := some 11) (v := ?_) (a' := ?_) #[true, false, false, false, false, false, false, false, false, false, false, false, false, false, false, false, false, false, false, false, false, false, false] rfl rfl (take_ofW HT_.out HW_.out (by kernel_rfl)) (fun _ _ _ h => h) (Or.inl ⟨by rfl, ?_⟩) hHeld ?_ ?_
        rotate_left
        · rintro w' ⟨s0, s1, s2, s3, s4, s5, s6, s7, s8⟩
          go_simp
          with_reducible rfl
        rotate_left
        · simp only [Act.put, List.setIfInBounds_toArray, List.set_cons_zero, List.set_cons_succ, i64_w, i32_w]
          rfl
        refine take_ (i := 2) (N := some 13) (v := ?_) (a' := ?_) #[true, false, true, false, false, false, false, false, false, false, false, false, false, false, false, false, false, false, false, false, false, false, false] rfl rfl (take_ofW HT_.out HW_.out (by kernel_rfl)) (fun _ _ _ h => h) (Or.inl ⟨by rfl, ?_⟩) hHeld ?_ ?_
        rotate_left
        · rintro w' ⟨s0, s1, s2, s3, s4, s5, s6, s7, s8⟩
          go_simp
          with_reducible rfl
        rotate_left
        · simp only [Act.put, List.setIfInBounds_toArray, List.set_cons_zero, List.set_cons_succ, i64_w, i32_w]
          rfl
        refine one_ (i := 1) (N := some 12) #[true, true, true, false, false, false, false, false, false, false, false, false, false, false, false, false, false, false, false, false, false, false, false] rfl rfl (one_of HT_.out (by kernel_rfl)) (by decide) (fun K hK => ?_)
        refine goes_ Try.func24 (by kernel_rfl) rfl #[.agg #[.int .i64 a0_0, .int .i64 a0_1]] (by rfl) rfl rfl (by (try simp only [List.map_toArray, List.map_cons, List.map_nil]); first | done | rfl | (simp only [List.length_drop, List.length_take]; rfl)) ?_
        with_reducible refine (codes_Check.calls a0_0 a0_1 t6103 _ A7.out).mono ?_
        rintro e w23 ⟨rfl, hb⟩
        refine ⟨_, rfl, ?_⟩
        have n0_ := Aside0.mk (blk_below (g := gb6101) (o := .cells #[.int .i64 a0_0, .int .i64 a0_1] 23 (0, 0)) (by (with_reducible repeat (first | refine blk_drewN ?_ _ | refine blk_drew ?_ | refine blk_alloc ?_ _)); exact BK6101.out) hb)
        have n1_ := Aside0.mk (blk_below (g := gb6102) (o := .cells #[.int .i64 a1_0, .int .i64 a1_1, .int .i64 a1_2, .int .i64 a1_3, .int .i64 a1_4, .slice A1_5 l1_5.length c1_5, .bool a1_6] 36 (0, 0)) (by (with_reducible repeat (first | refine blk_drewN ?_ _ | refine blk_drew ?_ | refine blk_alloc ?_ _)); exact BK6102.out) hb)
        have n2_ := Aside0.mk (below_step (by repeat (first | (with_reducible first | exact HB.out | apply below_alloc | apply pw_below_drewN | apply below_drew1 | refine below_set ?_ GE6101.out | refine below_set ?_ GE6102.out) | exact HB.out)) hb)
        clear BK6101
        clear BK6102
        clear HB
        have BK6101 := n0_
        have BK6102 := n1_
        have HB := n2_
        clear n0_ n1_ n2_
        (try clear hb)
        (try clear hb2)
        (try clear hk)
        (try clear hi)
        refine hK.out _ _ ⟨(blk_cell BK6101.out 0).trans rfl, (blk_cell BK6101.out 1).trans rfl, (blk_cell BK6102.out 0).trans rfl, (blk_cell BK6102.out 1).trans rfl, (blk_cell BK6102.out 2).trans rfl, (blk_cell BK6102.out 3).trans rfl, (blk_cell BK6102.out 4).trans rfl, (blk_cell BK6102.out 5).trans rfl, (blk_cell BK6102.out 6).trans rfl⟩ (fun hHeld => ?_)
        clear hK K
        refine norm_ (a' := ?_) ?_ ?_
        rotate_left
        · show Act.put _ (some 12) _ = _
          simp only [Act.put, List.setIfInBounds_toArray, List.set_cons_zero, List.set_cons_succ, i64_w, i32_w]
          rfl
        refine one_ (i := 3) (N := some 14) #[true, true, true, true, false, false, false, false, false, false, false, false, false, false, false, false, false, false, false, false, false, false, false] rfl rfl (one_of HT_.out (by kernel_rfl)) (by decide) (fun K hK => ?_)
        refine goes_ Try.func25 (by kernel_rfl) rfl #[.agg #[.int .i64 a0_0, .int .i64 a0_1]] (by rfl) rfl rfl (by (try simp only [List.map_toArray, List.map_cons, List.map_nil]); first | done | rfl | (simp only [List.length_drop, List.length_take]; rfl)) ?_
        with_reducible refine (padlockref01_Check.calls a0_0 a0_1 t6104 _ A8.out).mono ?_
        rintro e w24 ⟨rfl, hb⟩
        refine ⟨_, rfl, ?_⟩
        have n0_ := Aside0.mk (blk_below (g := gb6101) (o := .cells #[.int .i64 a0_0, .int .i64 a0_1] 23 (0, 0)) (by (with_reducible repeat (first | refine blk_drewN ?_ _ | refine blk_drew ?_ | refine blk_alloc ?_ _)); exact BK6101.out) hb)
        have n1_ := Aside0.mk (blk_below (g := gb6102) (o := .cells #[.int .i64 a1_0, .int .i64 a1_1, .int .i64 a1_2, .int .i64 a1_3, .int .i64 a1_4, .slice A1_5 l1_5.length c1_5, .bool a1_6] 36 (0, 0)) (by (with_reducible repeat (first | refine blk_drewN ?_ _ | refine blk_drew ?_ | refine blk_alloc ?_ _)); exact BK6102.out) hb)
        have n2_ := Aside0.mk (below_step (by repeat (first | (with_reducible first | exact HB.out | apply below_alloc | apply pw_below_drewN | apply below_drew1 | refine below_set ?_ GE6101.out | refine below_set ?_ GE6102.out) | exact HB.out)) hb)
        clear BK6101
        clear BK6102
        clear HB
        have BK6101 := n0_
        have BK6102 := n1_
        have HB := n2_
        clear n0_ n1_ n2_
        (try clear hb)
        (try clear hb2)
        (try clear hk)
        (try clear hi)
        refine hK.out _ _ ⟨(blk_cell BK6101.out 0).trans rfl, (blk_cell BK6101.out 1).trans rfl, (blk_cell BK6102.out 0).trans rfl, (blk_cell BK6102.out 1).trans rfl, (blk_cell BK6102.out 2).trans rfl, (blk_cell BK6102.out 3).trans rfl, (blk_cell BK6102.out 4).trans rfl, (blk_cell BK6102.out 5).trans rfl, (blk_cell BK6102.out 6).trans rfl⟩ (fun hHeld => ?_)
        clear hK K
        refine norm_ (a' := ?_) ?_ ?_
        rotate_left
        · show Act.put _ (some 14) _ = _
          simp only [Act.put, List.setIfInBounds_toArray, List.set_cons_zero, List.set_cons_succ, i64_w, i32_w]
          rfl
        refine pure_ (i := 4) (N := some 15) (v := ?_) (a' := ?_) #[true, true, true, true, true, false, false, false, false, false, false, false, false, false, false, false, false, false, false, false, false, false, false] rfl rfl (any_of HT_.out (by kernel_rfl)) (fun _ _ _ h => h) (Or.inl ⟨by rfl, ?_⟩) ?_ ?_
        rotate_left
        · intro w'
          go_simp
          with_reducible rfl
        rotate_left
        · simp only [Act.put, List.setIfInBounds_toArray, List.set_cons_zero, List.set_cons_succ, i64_w, i32_w]
          rfl
        refine pure_ (i := 5) (N := some 16) (v := ?_) (a' := ?_) #[true, true, true, true, true, true, false, false, false, false, false, false, false, false, false, false, false, false, false, false, false, false, false] rfl rfl (any_of HT_.out (by kernel_rfl)) (fun _ _ _ h => h) (Or.inl ⟨by rfl, ?_⟩) ?_ ?_
        rotate_left
        · intro w'
          go_simp
          with_reducible rfl
        rotate_left
        · simp only [Act.put, List.setIfInBounds_toArray, List.set_cons_zero, List.set_cons_succ, i64_w, i32_w]
          rfl
        refine take_ (i := 6) (N := some 17) (v := ?_) (a' := ?_) #[true, true, true, true, true, true, true, false, false, false, false, false, false, false, false, false, false, false, false, false, false, false, false] rfl rfl (take_ofW HT_.out HW_.out (by kernel_rfl)) (fun _ _ _ h => h) (Or.inl ⟨by rfl, ?_⟩) hHeld ?_ ?_
        rotate_left
        · rintro w' ⟨s0, s1, s2, s3, s4, s5, s6, s7, s8⟩
          go_simp
          with_reducible rfl
        rotate_left
        · simp only [Act.put, List.setIfInBounds_toArray, List.set_cons_zero, List.set_cons_succ, i64_w, i32_w]
          rfl
        refine take_ (i := 7) (N := some 18) (v := ?_) (a' := ?_) #[true, true, true, true, true, true, true, true, false, false, false, false, false, false, false, false, false, false, false, false, false, false, false] rfl rfl (take_ofW HT_.out HW_.out (by kernel_rfl)) (fun _ _ _ h => h) (Or.inl ⟨by rfl, ?_⟩) hHeld ?_ ?_
        rotate_left
        · rintro w' ⟨s0, s1, s2, s3, s4, s5, s6, s7, s8⟩
          go_simp
          with_reducible rfl
        rotate_left
        · simp only [Act.put, List.setIfInBounds_toArray, List.set_cons_zero, List.set_cons_succ, i64_w, i32_w]
          rfl
        refine take_ (i := 9) (N := some 20) (v := ?_) (a' := ?_) #[true, true, true, true, true, true, true, true, false, true, false, false, false, false, false, false, false, false, false, false, false, false, false] rfl rfl (take_ofW HT_.out HW_.out (by kernel_rfl)) (fun _ _ _ h => h) (Or.inl ⟨by rfl, ?_⟩) hHeld ?_ ?_
        rotate_left
        · rintro w' ⟨s0, s1, s2, s3, s4, s5, s6, s7, s8⟩
          go_simp
          with_reducible rfl
        rotate_left
        · simp only [Act.put, List.setIfInBounds_toArray, List.set_cons_zero, List.set_cons_succ, i64_w, i32_w]
          rfl
        refine take_ (i := 10) (N := some 21) (v := ?_) (a' := ?_) #[true, true, true, true, true, true, true, true, false, true, true, false, false, false, false, false, false, false, false, false, false, false, false] rfl rfl (take_ofW HT_.out HW_.out (by kernel_rfl)) (fun _ _ _ h => h) (Or.inl ⟨by rfl, ?_⟩) hHeld ?_ ?_
        rotate_left
        · rintro w' ⟨s0, s1, s2, s3, s4, s5, s6, s7, s8⟩
          go_simp
          with_reducible rfl
        rotate_left
        · simp only [Act.put, List.setIfInBounds_toArray, List.set_cons_zero, List.set_cons_succ, i64_w, i32_w]
          rfl
        refine one_ (i := 8) (N := some 19) #[true, true, true, true, true, true, true, true, true, true, true, false, false, false, false, false, false, false, false, false, false, false, false] rfl rfl (one_of HT_.out (by kernel_rfl)) (by decide) (fun K hK => ?_)
        refine goes_ Try.func26 (by kernel_rfl) rfl #[.agg #[.int .i64 a0_0, .int .i64 a0_1], .agg #[.int .i64 a1_0, .int .i64 a1_1, .int .i64 a1_2, .int .i64 a1_3, .int .i64 a1_4, .slice A1_5 l1_5.length c1_5, .bool a1_6]] (by rfl) rfl rfl (by (try simp only [List.map_toArray, List.map_cons, List.map_nil]); first | done | rfl | (simp only [List.length_drop, List.length_take]; rfl)) ?_
        with_reducible refine (codes_CheckClue.calls a0_0 a0_1 a1_0 a1_1 a1_2 a1_3 a1_4 _ _ l1_5 a1_6 t6105 _ ?side1 ?side2 A10.out).mono ?_
        (case side1 => repeat (first | exact (Kd.C_below HR1_5.out HB.out) | (with_reducible refine Kd.C_alloc ?_ _) | (with_reducible refine Kd.C_drewN ?_ _) | (with_reducible refine Kd.C_drew ?_)))
        (case side2 => exact HC1_5.out)
        rintro e w25 ⟨rfl, hb⟩
        refine ⟨_, rfl, ?_⟩
        have n0_ := Aside0.mk (blk_below (g := gb6101) (o := .cells #[.int .i64 a0_0, .int .i64 a0_1] 23 (0, 0)) (by (with_reducible repeat (first | refine blk_drewN ?_ _ | refine blk_drew ?_ | refine blk_alloc ?_ _)); exact BK6101.out) hb)
        have n1_ := Aside0.mk (blk_below (g := gb6102) (o := .cells #[.int .i64 a1_0, .int .i64 a1_1, .int .i64 a1_2, .int .i64 a1_3, .int .i64 a1_4, .slice A1_5 l1_5.length c1_5, .bool a1_6] 36 (0, 0)) (by (with_reducible repeat (first | refine blk_drewN ?_ _ | refine blk_drew ?_ | refine blk_alloc ?_ _)); exact BK6102.out) hb)
        have n2_ := Aside0.mk (below_step (by repeat (first | (with_reducible first | exact HB.out | apply below_alloc | apply pw_below_drewN | apply below_drew1 | refine below_set ?_ GE6101.out | refine below_set ?_ GE6102.out) | exact HB.out)) hb)
        clear BK6101
        clear BK6102
        clear HB
        have BK6101 := n0_
        have BK6102 := n1_
        have HB := n2_
        clear n0_ n1_ n2_
        (try clear hb)
        (try clear hb2)
        (try clear hk)
        (try clear hi)
        refine hK.out _ _ ⟨(blk_cell BK6101.out 0).trans rfl, (blk_cell BK6101.out 1).trans rfl, (blk_cell BK6102.out 0).trans rfl, (blk_cell BK6102.out 1).trans rfl, (blk_cell BK6102.out 2).trans rfl, (blk_cell BK6102.out 3).trans rfl, (blk_cell BK6102.out 4).trans rfl, (blk_cell BK6102.out 5).trans rfl, (blk_cell BK6102.out 6).trans rfl⟩ (fun hHeld => ?_)
        clear hK K
        refine norm_ (a' := ?_) ?_ ?_
        rotate_left
        · show Act.put _ (some 19) _ = _
          simp only [Act.put, List.setIfInBounds_toArray, List.set_cons_zero, List.set_cons_succ, i64_w, i32_w]
          rfl
        refine one_ (i := 11) (N := some 22) #[true, true, true, true, true, true, true, true, true, true, true, true, false, false, false, false, false, false, false, false, false, false, false] rfl rfl (one_of HT_.out (by kernel_rfl)) (by decide) (fun K hK => ?_)
        refine goes_ Try.func27 (by kernel_rfl) rfl #[.agg #[.int .i64 a0_0, .int .i64 a0_1], .agg #[.int .i64 a1_0, .int .i64 a1_1, .int .i64 a1_2, .int .i64 a1_3, .int .i64 a1_4, .slice A1_5 l1_5.length c1_5, .bool a1_6]] (by rfl) rfl rfl (by (try simp only [List.map_toArray, List.map_cons, List.map_nil]); first | done | rfl | (simp only [List.length_drop, List.length_take]; rfl)) ?_
        with_reducible refine (padlockref01_CheckClue.calls a0_0 a0_1 a1_0 a1_1 a1_2 a1_3 a1_4 _ _ l1_5 a1_6 t6106 _ ?side1 ?side2 A11.out).mono ?_
        (case side1 => repeat (first | exact (Kd.C_below HR1_5.out HB.out) | (with_reducible refine Kd.C_alloc ?_ _) | (with_reducible refine Kd.C_drewN ?_ _) | (with_reducible refine Kd.C_drew ?_)))
        (case side2 => exact HC1_5.out)
        rintro e w26 ⟨rfl, hb⟩
        refine ⟨_, rfl, ?_⟩
        have n0_ := Aside0.mk (blk_below (g := gb6101) (o := .cells #[.int .i64 a0_0, .int .i64 a0_1] 23 (0, 0)) (by (with_reducible repeat (first | refine blk_drewN ?_ _ | refine blk_drew ?_ | refine blk_alloc ?_ _)); exact BK6101.out) hb)
        have n1_ := Aside0.mk (blk_below (g := gb6102) (o := .cells #[.int .i64 a1_0, .int .i64 a1_1, .int .i64 a1_2, .int .i64 a1_3, .int .i64 a1_4, .slice A1_5 l1_5.length c1_5, .bool a1_6] 36 (0, 0)) (by (with_reducible repeat (first | refine blk_drewN ?_ _ | refine blk_drew ?_ | refine blk_alloc ?_ _)); exact BK6102.out) hb)
        have n2_ := Aside0.mk (below_step (by repeat (first | (with_reducible first | exact HB.out | apply below_alloc | apply pw_below_drewN | apply below_drew1 | refine below_set ?_ GE6101.out | refine below_set ?_ GE6102.out) | exact HB.out)) hb)
        clear BK6101
        clear BK6102
        clear HB
        have BK6101 := n0_
        have BK6102 := n1_
        have HB := n2_
        clear n0_ n1_ n2_
        (try clear hb)
        (try clear hb2)
        (try clear hk)
        (try clear hi)
        refine hK.out _ _ ⟨(blk_cell BK6101.out 0).trans rfl, (blk_cell BK6101.out 1).trans rfl, (blk_cell BK6102.out 0).trans rfl, (blk_cell BK6102.out 1).trans rfl, (blk_cell BK6102.out 2).trans rfl, (blk_cell BK6102.out 3).trans rfl, (blk_cell BK6102.out 4).trans rfl, (blk_cell BK6102.out 5).trans rfl, (blk_cell BK6102.out 6).trans rfl⟩ (fun hHeld => ?_)
        clear hK K
        refine norm_ (a' := ?_) ?_ ?_
        rotate_left
        · show Act.put _ (some 22) _ = _
          simp only [Act.put, List.setIfInBounds_toArray, List.set_cons_zero, List.set_cons_succ, i64_w, i32_w]
          rfl
        refine pure_ (i := 12) (N := some 23) (v := ?_) (a' := ?_) #[true, true, true, true, true, true, true, true, true, true, true, true, true, false, false, false, false, false, false, false, false, false, false] rfl rfl (any_of HT_.out (by kernel_rfl)) (fun _ _ _ h => h) (Or.inl ⟨by rfl, ?_⟩) ?_ ?_
        rotate_left
        · intro w'
          go_simp
          with_reducible rfl
        rotate_left
        · simp only [Act.put, List.setIfInBounds_toArray, List.set_cons_zero, List.set_cons_succ, i64_w, i32_w]
          rfl
        refine pure_ (i := 13) (N := some 24) (v := ?_) (a' := ?_) #[true, true, true, true, true, true, true, true, true, true, true, true, true, true, false, false, false, false, false, false, false, false, false] rfl rfl (any_of HT_.out (by kernel_rfl)) (fun _ _ _ h => h) (Or.inl ⟨by rfl, ?_⟩) ?_ ?_
        rotate_left
        · intro w'
          go_simp
          with_reducible rfl
        rotate_left
        · simp only [Act.put, List.setIfInBounds_toArray, List.set_cons_zero, List.set_cons_succ, i64_w, i32_w]
          rfl
        refine pure_ (i := 14) (N := some 25) (v := ?_) (a' := ?_) #[true, true, true, true, true, true, true, true, true, true, true, true, true, true, true, false, false, false, false, false, false, false, false] rfl rfl (any_of HT_.out (by kernel_rfl)) (fun _ _ _ h => h) (Or.inl ⟨by rfl, ?_⟩) ?_ ?_
        rotate_left
        · intro w'
          go_simp
          with_reducible rfl
        rotate_left
        · simp only [Act.put, List.setIfInBounds_toArray, List.set_cons_zero, List.set_cons_succ, i64_w, i32_w]
          rfl
        refine pure_ (i := 15) (N := some 26) (v := undef) (a' := ?_) #[true, true, true, true, true, true, true, true, true, true, true, true, true, true, true, true, false, false, false, false, false, false, false] rfl rfl (any_of HT_.out (by kernel_rfl)) (fun _ _ _ h => h) (Or.inr ⟨by rfl, rfl⟩) ?_ ?_
        rotate_left
        · simp only [Act.put, List.setIfInBounds_toArray, List.set_cons_zero, List.set_cons_succ, i64_w, i32_w]
          rfl
        refine pure_ (i := 16) (N := some 27) (v := undef) (a' := ?_) #[true, true, true, true, true, true, true, true, true, true, true, true, true, true, true, true, true, false, false, false, false, false, false] rfl rfl (any_of HT_.out (by kernel_rfl)) (fun _ _ _ h => h) (Or.inr ⟨by rfl, rfl⟩) ?_ ?_
        rotate_left
        · simp only [Act.put, List.setIfInBounds_toArray, List.set_cons_zero, List.set_cons_succ, i64_w, i32_w]
          rfl
        refine pure_ (i := 17) (N := some 28) (v := undef) (a' := ?_) #[true, true, true, true, true, true, true, true, true, true, true, true, true, true, true, true, true, true, false, false, false, false, false] rfl rfl (any_of HT_.out (by kernel_rfl)) (fun _ _ _ h => h) (Or.inr ⟨by rfl, rfl⟩) ?_ ?_
        rotate_left
        · simp only [Act.put, List.setIfInBounds_toArray, List.set_cons_zero, List.set_cons_succ, i64_w, i32_w]
          rfl
        refine pure_ (i := 18) (N := some 29) (v := undef) (a' := ?_) #[true, true, true, true, true, true, true, true, true, true, true, true, true, true, true, true, true, true, true, false, false, false, false] rfl rfl (any_of HT_.out (by kernel_rfl)) (fun _ _ _ h => h) (Or.inr ⟨by rfl, rfl⟩) ?_ ?_
        rotate_left
        · simp only [Act.put, List.setIfInBounds_toArray, List.set_cons_zero, List.set_cons_succ, i64_w, i32_w]
          rfl
        refine pure_ (i := 19) (N := some 30) (v := undef) (a' := ?_) #[true, true, true, true, true, true, true, true, true, true, true, true, true, true, true, true, true, true, true, true, false, false, false] rfl rfl (any_of HT_.out (by kernel_rfl)) (fun _ _ _ h => h) (Or.inr ⟨by rfl, rfl⟩) ?_ ?_
        rotate_left
        · simp only [Act.put, List.setIfInBounds_toArray, List.set_cons_zero, List.set_cons_succ, i64_w, i32_w]
          rfl
        refine pure_ (i := 20) (N := some 31) (v := undef) (a' := ?_) #[true, true, true, true, true, true, true, true, true, true, true, true, true, true, true, true, true, true, true, true, true, false, false] rfl rfl (any_of HT_.out (by kernel_rfl)) (fun _ _ _ h => h) (Or.inr ⟨by rfl, rfl⟩) ?_ ?_
        rotate_left
        · simp only [Act.put, List.setIfInBounds_toArray, List.set_cons_zero, List.set_cons_succ, i64_w, i32_w]
          rfl
        refine pure_ (i := 21) (N := some 32) (v := undef) (a' := ?_) #[true, true, true, true, true, true, true, true, true, true, true, true, true, true, true, true, true, true, true, true, true, true, false] rfl rfl (any_of HT_.out (by kernel_rfl)) (fun _ _ _ h => h) (Or.inr ⟨by rfl, rfl⟩) ?_ ?_
        rotate_left
        · simp only [Act.put, List.setIfInBounds_toArray, List.set_cons_zero, List.set_cons_succ, i64_w, i32_w]
          rfl
        refine pure_ (i := 22) (N := some 33) (v := ?_) (a' := ?_) #[true, true, true, true, true, true, true, true, true, true, true, true, true, true, true, true, true, true, true, true, true, true, true] rfl rfl (any_of HT_.out (by kernel_rfl)) (fun _ _ _ h => h) (Or.inl ⟨by rfl, ?_⟩) ?_ ?_
        rotate_left
        · intro w'
          go_simp
          with_reducible rfl
        rotate_left
        · simp only [Act.put, List.setIfInBounds_toArray, List.set_cons_zero, List.set_cons_succ, i64_w, i32_w]
          rfl
        refine done_ (done_of HT_.out (by kernel_rfl)) ?_
        try go_wp2
        go_meet
        case rel => exact ⟨_, (true), (by first | rfl | (simp; done) | (simp [*]; done)), H', ⟨by first | omega | exact Nat.le_refl _⟩, ⟨by (with_reducible repeat (first | refine blk_drewN ?_ _ | refine blk_drew ?_ | refine blk_alloc ?_ _)); exact BK6101.out⟩, ⟨by (with_reducible repeat (first | refine blk_drewN ?_ _ | refine blk_drew ?_ | refine blk_alloc ?_ _)); exact BK6102.out⟩, ⟨by repeat (first | (with_reducible first | exact HB.out | apply below_alloc | apply pw_below_drewN | apply below_drew1 | refine below_set ?_ GE6101.out | refine below_set ?_ GE6102.out) | exact HB.out)⟩⟩
    · rw [if_neg c9] at H
      have c9b0 : (t6103 == t6104) = false := beq_eq_false_iff_ne.mpr c9
      have c9b1 : (t6103 != t6104) = true := bne_iff_ne.mpr c9
      (first | rw [c9b0] | (simp only [i64_w, i32_w]; rw [c9b0]) | skip)
      have H' := Aside0.mk H
      clear H
      try go_wp2
      have n0_ := Aside0.mk (blk_drew BK6101.out)
      have n1_ := Aside0.mk (blk_drew BK6102.out)
      have n2_ := Aside0.mk (below_drew1 HB.out)
      clear BK6101
      clear BK6102
      clear HB
      have BK6101 := n0_
      have BK6102 := n1_
      have HB := n2_
      clear n0_ n1_ n2_
      refine start_ (n := 23) (S := fun w' => w'.cell? ⟨gb6101, 0, none⟩ = some (.int .i64 a0_0) ∧ w'.cell? ⟨gb6101, 1, none⟩ = some (.int .i64 a0_1)) (ds := []) #[false, false, false, false, false, false, false, false, false, false, false, false, false, false, false, false, false, false, false, false, false, false, false] (by kernel_rfl) rfl rfl ⟨(blk_cell BK6101.out 0).trans rfl, (blk_cell BK6101.out 1).trans rfl⟩ (fun hHeld => ?_); refine with_tabW padlocklaw01_CodesChecks.tab1 padlocklaw01_CodesChecks.bits1 (fun HT_ HW_ => ?_)
      generalize w6.drew = w27 at BK6101 BK6102 HB hHeld ⊢
      refine take_ (i := 0) (N := some 11) (v := ?_) (a' := ?_) #[true, false, false, false, false, false, false, false, false, false, false, false, false, false, false, false, false, false, false, false, false, false, false] rfl rfl (take_ofW HT_.out HW_.out (by kernel_rfl)) (fun _ _ _ h => h) (Or.inl ⟨by rfl, ?_⟩) hHeld ?_ ?_
      rotate_left
      · rintro w' ⟨s0, s1⟩
        go_simp
        with_reducible rfl
      rotate_left
      · simp only [Act.put, List.setIfInBounds_toArray, List.set_cons_zero, List.set_cons_succ, i64_w, i32_w]
        rfl
      refine take_ (i := 2) (N := some 13) (v := ?_) (a' := ?_) #[true, false, true, false, false, false, false, false, false, false, false, false, false, false, false, false, false, false, false, false, false, false, false] rfl rfl (take_ofW HT_.out HW_.out (by kernel_rfl)) (fun _ _ _ h => h) (Or.inl ⟨by rfl, ?_⟩) hHeld ?_ ?_
      rotate_left
      · rintro w' ⟨s0, s1⟩
        go_simp
        with_reducible rfl
      rotate_left
      · simp only [Act.put, List.setIfInBounds_toArray, List.set_cons_zero, List.set_cons_succ, i64_w, i32_w]
        rfl
      refine one_ (i := 1) (N := some 12) #[true, true, true, false, false, false, false, false, false, false, false, false, false, false, false, false, false, false, false, false, false, false, false] rfl rfl (one_of HT_.out (by kernel_rfl)) (by decide) (fun K hK => ?_)
      refine goes_ Try.func24 (by kernel_rfl) rfl #[.agg #[.int .i64 a0_0, .int .i64 a0_1]] (by rfl) rfl rfl (by (try simp only [List.map_toArray, List.map_cons, List.map_nil]); first | done | rfl | (simp only [List.length_drop, List.length_take]; rfl)) ?_
      with_reducible refine (codes_Check.calls a0_0 a0_1 t6103 _ A7.out).mono ?_
      rintro e w28 ⟨rfl, hb⟩
      refine ⟨_, rfl, ?_⟩
      have n0_ := Aside0.mk (blk_below (g := gb6101) (o := .cells #[.int .i64 a0_0, .int .i64 a0_1] 23 (0, 0)) (by (with_reducible repeat (first | refine blk_drewN ?_ _ | refine blk_drew ?_ | refine blk_alloc ?_ _)); exact BK6101.out) hb)
      have n1_ := Aside0.mk (blk_below (g := gb6102) (o := .cells #[.int .i64 a1_0, .int .i64 a1_1, .int .i64 a1_2, .int .i64 a1_3, .int .i64 a1_4, .slice A1_5 l1_5.length c1_5, .bool a1_6] 36 (0, 0)) (by (with_reducible repeat (first | refine blk_drewN ?_ _ | refine blk_drew ?_ | refine blk_alloc ?_ _)); exact BK6102.out) hb)
      have n2_ := Aside0.mk (below_step (by repeat (first | (with_reducible first | exact HB.out | apply below_alloc | apply pw_below_drewN | apply below_drew1 | refine below_set ?_ GE6101.out | refine below_set ?_ GE6102.out) | exact HB.out)) hb)
      clear BK6101
      clear BK6102
      clear HB
      have BK6101 := n0_
      have BK6102 := n1_
      have HB := n2_
      clear n0_ n1_ n2_
      (try clear hb)
      (try clear hb2)
      (try clear hk)
      (try clear hi)
      refine hK.out _ _ ⟨(blk_cell BK6101.out 0).trans rfl, (blk_cell BK6101.out 1).trans rfl⟩ (fun hHeld => ?_)
      clear hK K
      refine norm_ (a' := ?_) ?_ ?_
      rotate_left
      · show Act.put _ (some 12) _ = _
        simp only [Act.put, List.setIfInBounds_toArray, List.set_cons_zero, List.set_cons_succ, i64_w, i32_w]
        rfl
      refine one_ (i := 3) (N := some 14) #[true, true, true, true, false, false, false, false, false, false, false, false, false, false, false, false, false, false, false, false, false, false, false] rfl rfl (one_of HT_.out (by kernel_rfl)) (by decide) (fun K hK => ?_)
      refine goes_ Try.func25 (by kernel_rfl) rfl #[.agg #[.int .i64 a0_0, .int .i64 a0_1]] (by rfl) rfl rfl (by (try simp only [List.map_toArray, List.map_cons, List.map_nil]); first | done | rfl | (simp only [List.length_drop, List.length_take]; rfl)) ?_
      with_reducible refine (padlockref01_Check.calls a0_0 a0_1 t6104 _ A8.out).mono ?_
      rintro e w29 ⟨rfl, hb⟩
      refine ⟨_, rfl, ?_⟩
      have n0_ := Aside0.mk (blk_below (g := gb6101) (o := .cells #[.int .i64 a0_0, .int .i64 a0_1] 23 (0, 0)) (by (with_reducible repeat (first | refine blk_drewN ?_ _ | refine blk_drew ?_ | refine blk_alloc ?_ _)); exact BK6101.out) hb)
      have n1_ := Aside0.mk (blk_below (g := gb6102) (o := .cells #[.int .i64 a1_0, .int .i64 a1_1, .int .i64 a1_2, .int .i64 a1_3, .int .i64 a1_4, .slice A1_5 l1_5.length c1_5, .bool a1_6] 36 (0, 0)) (by (with_reducible repeat (first | refine blk_drewN ?_ _ | refine blk_drew ?_ | refine blk_alloc ?_ _)); exact BK6102.out) hb)
      have n2_ := Aside0.mk (below_step (by repeat (first | (with_reducible first | exact HB.out | apply below_alloc | apply pw_below_drewN | apply below_drew1 | refine below_set ?_ GE6101.out | refine below_set ?_ GE6102.out) | exact HB.out)) hb)
      clear BK6101
      clear BK6102
      clear HB
      have BK6101 := n0_
      have BK6102 := n1_
      have HB := n2_
      clear n0_ n1_ n2_
      (try clear hb)
      (try clear hb2)
      (try clear hk)
      (try clear hi)
      refine hK.out _ _ ⟨(blk_cell BK6101.out 0).trans rfl, (blk_cell BK6101.out 1).trans rfl⟩ (fun hHeld => ?_)
      clear hK K
      refine norm_ (a' := ?_) ?_ ?_
      rotate_left
      · show Act.put _ (some 14) _ = _
        simp only [Act.put, List.setIfInBounds_toArray, List.set_cons_zero, List.set_cons_succ, i64_w, i32_w]
        rfl
      refine pure_ (i := 4) (N := some 15) (v := ?_) (a' := ?_) #[true, true, true, true, true, false, false, false, false, false, false, false, false, false, false, false, false, false, false, false, false, false, false] rfl rfl (any_of HT_.out (by kernel_rfl)) (fun _ _ _ h => h) (Or.inl ⟨by rfl, ?_⟩) ?_ ?_
      rotate_left
      · intro w'
        go_simp
        with_reducible rfl
      rotate_left
      · simp only [Act.put, List.setIfInBounds_toArray, List.set_cons_zero, List.set_cons_succ, i64_w, i32_w]
        rfl
      refine pure_ (i := 5) (N := some 16) (v := ?_) (a' := ?_) #[true, true, true, true, true, true, false, false, false, false, false, false, false, false, false, false, false, false, false, false, false, false, false] rfl rfl (any_of HT_.out (by kernel_rfl)) (fun _ _ _ h => h) (Or.inl ⟨by rfl, ?_⟩) ?_ ?_
      rotate_left
      · intro w'
        go_simp
        with_reducible rfl
      rotate_left
      · simp only [Act.put, List.setIfInBounds_toArray, List.set_cons_zero, List.set_cons_succ, i64_w, i32_w]
        rfl
      refine pure_ (i := 6) (N := some 17) (v := undef) (a' := ?_) #[true, true, true, true, true, true, true, false, false, false, false, false, false, false, false, false, false, false, false, false, false, false, false] rfl rfl (any_of HT_.out (by kernel_rfl)) (fun _ _ _ h => h) (Or.inr ⟨by rfl, rfl⟩) ?_ ?_
      rotate_left
      · simp only [Act.put, List.setIfInBounds_toArray, List.set_cons_zero, List.set_cons_succ, i64_w, i32_w]
        rfl
      refine pure_ (i := 7) (N := some 18) (v := undef) (a' := ?_) #[true, true, true, true, true, true, true, true, false, false, false, false, false, false, false, false, false, false, false, false, false, false, false] rfl rfl (any_of HT_.out (by kernel_rfl)) (fun _ _ _ h => h) (Or.inr ⟨by rfl, rfl⟩) ?_ ?_
      rotate_left
      · simp only [Act.put, List.setIfInBounds_toArray, List.set_cons_zero, List.set_cons_succ, i64_w, i32_w]
        rfl
      refine pure_ (i := 8) (N := some 19) (v := undef) (a' := ?_) #[true, true, true, true, true, true, true, true, true, false, false, false, false, false, false, false, false, false, false, false, false, false, false] rfl rfl (any_of HT_.out (by kernel_rfl)) (fun _ _ _ h => h) (Or.inr ⟨by rfl, rfl⟩) ?_ ?_
      rotate_left
      · simp only [Act.put, List.setIfInBounds_toArray, List.set_cons_zero, List.set_cons_succ, i64_w, i32_w]
        rfl
      refine pure_ (i := 9) (N := some 20) (v := undef) (a' := ?_) #[true, true, true, true, true, true, true, true, true, true, false, false, false, false, false, false, false, false, false, false, false, false, false] rfl rfl (any_of HT_.out (by kernel_rfl)) (fun _ _ _ h => h) (Or.inr ⟨by rfl, rfl⟩) ?_ ?_
      rotate_left
      · simp only [Act.put, List.setIfInBounds_toArray, List.set_cons_zero, List.set_cons_succ, i64_w, i32_w]
        rfl
      refine pure_ (i := 10) (N := some 21) (v := undef) (a' := ?_) #[true, true, true, true, true, true, true, true, true, true, true, false, false, false, false, false, false, false, false, false, false, false, false] rfl rfl (any_of HT_.out (by kernel_rfl)) (fun _ _ _ h => h) (Or.inr ⟨by rfl, rfl⟩) ?_ ?_
      rotate_left
      · simp only [Act.put, List.setIfInBounds_toArray, List.set_cons_zero, List.set_cons_succ, i64_w, i32_w]
        rfl
      refine pure_ (i := 11) (N := some 22) (v := undef) (a' := ?_) #[true, true, true, true, true, true, true, true, true, true, true, true, false, false, false, false, false, false, false, false, false, false, false] rfl rfl (any_of HT_.out (by kernel_rfl)) (fun _ _ _ h => h) (Or.inr ⟨by rfl, rfl⟩) ?_ ?_
      rotate_left
      · simp only [Act.put, List.setIfInBounds_toArray, List.set_cons_zero, List.set_cons_succ, i64_w, i32_w]
        rfl
      refine pure_ (i := 12) (N := some 23) (v := undef) (a' := ?_) #[true, true, true, true, true, true, true, true, true, true, true, true, true, false, false, false, false, false, false, false, false, false, false] rfl rfl (any_of HT_.out (by kernel_rfl)) (fun _ _ _ h => h) (Or.inr ⟨by rfl, rfl⟩) ?_ ?_
      rotate_left
      · simp only [Act.put, List.setIfInBounds_toArray, List.set_cons_zero, List.set_cons_succ, i64_w, i32_w]
        rfl
      refine pure_ (i := 13) (N := some 24) (v := ?_) (a' := ?_) #[true, true, true, true, true, true, true, true, true, true, true, true, true, true, false, false, false, false, false, false, false, false, false] rfl rfl (any_of HT_.out (by kernel_rfl)) (fun _ _ _ h => h) (Or.inl ⟨by rfl, ?_⟩) ?_ ?_
      rotate_left
      · intro w'
        go_simp
        with_reducible rfl
      rotate_left
      · simp only [Act.put, List.setIfInBounds_toArray, List.set_cons_zero, List.set_cons_succ, i64_w, i32_w]
        rfl
      refine pure_ (i := 14) (N := some 25) (v := ?_) (a' := ?_) #[true, true, true, true, true, true, true, true, true, true, true, true, true, true, true, false, false, false, false, false, false, false, false] rfl rfl (any_of HT_.out (by kernel_rfl)) (fun _ _ _ h => h) (Or.inl ⟨by rfl, ?_⟩) ?_ ?_
      rotate_left
      · intro w'
        go_simp
        with_reducible rfl
      rotate_left
      · simp only [Act.put, List.setIfInBounds_toArray, List.set_cons_zero, List.set_cons_succ, i64_w, i32_w]
        rfl
      refine pure_ (i := 15) (N := some 26) (v := undef) (a' := ?_) #[true, true, true, true, true, true, true, true, true, true, true, true, true, true, true, true, false, false, false, false, false, false, false] rfl rfl (any_of HT_.out (by kernel_rfl)) (fun _ _ _ h => h) (Or.inr ⟨by rfl, rfl⟩) ?_ ?_
      rotate_left
      · simp only [Act.put, List.setIfInBounds_toArray, List.set_cons_zero, List.set_cons_succ, i64_w, i32_w]
        rfl
      refine pure_ (i := 16) (N := some 27) (v := undef) (a' := ?_) #[true, true, true, true, true, true, true, true, true, true, true, true, true, true, true, true, true, false, false, false, false, false, false] rfl rfl (any_of HT_.out (by kernel_rfl)) (fun _ _ _ h => h) (Or.inr ⟨by rfl, rfl⟩) ?_ ?_
      rotate_left
      · simp only [Act.put, List.setIfInBounds_toArray, List.set_cons_zero, List.set_cons_succ, i64_w, i32_w]
        rfl
      refine pure_ (i := 17) (N := some 28) (v := undef) (a' := ?_) #[true, true, true, true, true, true, true, true, true, true, true, true, true, true, true, true, true, true, false, false, false, false, false] rfl rfl (any_of HT_.out (by kernel_rfl)) (fun _ _ _ h => h) (Or.inr ⟨by rfl, rfl⟩) ?_ ?_
      rotate_left
      · simp only [Act.put, List.setIfInBounds_toArray, List.set_cons_zero, List.set_cons_succ, i64_w, i32_w]
        rfl
      refine pure_ (i := 18) (N := some 29) (v := undef) (a' := ?_) #[true, true, true, true, true, true, true, true, true, true, true, true, true, true, true, true, true, true, true, false, false, false, false] rfl rfl (any_of HT_.out (by kernel_rfl)) (fun _ _ _ h => h) (Or.inr ⟨by rfl, rfl⟩) ?_ ?_
      rotate_left
      · simp only [Act.put, List.setIfInBounds_toArray, List.set_cons_zero, List.set_cons_succ, i64_w, i32_w]
        rfl
      refine pure_ (i := 19) (N := some 30) (v := undef) (a' := ?_) #[true, true, true, true, true, true, true, true, true, true, true, true, true, true, true, true, true, true, true, true, false, false, false] rfl rfl (any_of HT_.out (by kernel_rfl)) (fun _ _ _ h => h) (Or.inr ⟨by rfl, rfl⟩) ?_ ?_
      rotate_left
      · simp only [Act.put, List.setIfInBounds_toArray, List.set_cons_zero, List.set_cons_succ, i64_w, i32_w]
        rfl
      refine pure_ (i := 20) (N := some 31) (v := undef) (a' := ?_) #[true, true, true, true, true, true, true, true, true, true, true, true, true, true, true, true, true, true, true, true, true, false, false] rfl rfl (any_of HT_.out (by kernel_rfl)) (fun _ _ _ h => h) (Or.inr ⟨by rfl, rfl⟩) ?_ ?_
      rotate_left
      · simp only [Act.put, List.setIfInBounds_toArray, List.set_cons_zero, List.set_cons_succ, i64_w, i32_w]
        rfl
      refine pure_ (i := 21) (N := some 32) (v := undef) (a' := ?_) #[true, true, true, true, true, true, true, true, true, true, true, true, true, true, true, true, true, true, true, true, true, true, false] rfl rfl (any_of HT_.out (by kernel_rfl)) (fun _ _ _ h => h) (Or.inr ⟨by rfl, rfl⟩) ?_ ?_
      rotate_left
      · simp only [Act.put, List.setIfInBounds_toArray, List.set_cons_zero, List.set_cons_succ, i64_w, i32_w]
        rfl
      refine pure_ (i := 22) (N := some 33) (v := ?_) (a' := ?_) #[true, true, true, true, true, true, true, true, true, true, true, true, true, true, true, true, true, true, true, true, true, true, true] rfl rfl (any_of HT_.out (by kernel_rfl)) (fun _ _ _ h => h) (Or.inl ⟨by rfl, ?_⟩) ?_ ?_
      rotate_left
      · intro w'
        go_simp
        with_reducible rfl
      rotate_left
      · simp only [Act.put, List.setIfInBounds_toArray, List.set_cons_zero, List.set_cons_succ, i64_w, i32_w]
        rfl
      refine done_ (done_of HT_.out (by kernel_rfl)) ?_
      try go_wp2
      go_meet
      case rel => exact ⟨_, (true), (by first | rfl | (simp; done) | (simp [*]; done)), H', ⟨by first | omega | exact Nat.le_refl _⟩, ⟨by (with_reducible repeat (first | refine blk_drewN ?_ _ | refine blk_drew ?_ | refine blk_alloc ?_ _)); exact BK6101.out⟩, ⟨by (with_reducible repeat (first | refine blk_drewN ?_ _ | refine blk_drew ?_ | refine blk_alloc ?_ _)); exact BK6102.out⟩, ⟨by repeat (first | (with_reducible first | exact HB.out | apply below_alloc | apply pw_below_drewN | apply below_drew1 | refine below_set ?_ GE6101.out | refine below_set ?_ GE6102.out) | exact HB.out)⟩⟩
  case rest =>
    clear HC4
    try clear c1
    try clear c2
    try clear p2
    try clear c9
    try clear c9b0
    try clear c9b1
    try clear c12
    try clear c12b0
    try clear c12b1
    try clear c24
    try clear c25
    try clear c26
    try clear c27
    try clear c28
    try clear c29
    obtain ⟨kq, x33_3, rfl, HA, HJ3, BK6101, BK6102, HB⟩ := hcut
    cases kq with
    | zero => exact absurd HA.out (by simp [padlocklaw01_CodesChecks.j0])
    | succ kj3 =>
      have H := HA.out
      clear HA
      simp only [padlocklaw01_CodesChecks.j0] at H
      by_cases c30 : x33_3 = true
      · subst c30
        have H1 : (some false) = some r := by rw [if_pos rfl] at H; exact H
        clear H
        have H := H1
        clear H1
        obtain rfl := Option.some.inj H
        go_wp2
        go_ret
        exact ⟨by first | rfl | (simp [errW_none, errW_some] <;> rfl) | (simp [*, errW_none, errW_some] <;> rfl), by repeat (first | (with_reducible first | exact HB.out | apply below_alloc | apply pw_below_drewN | apply below_drew1 | refine below_set ?_ GE6101.out | refine below_set ?_ GE6102.out) | exact HB.out)⟩
      · replace c30 := Bool.eq_false_iff.mpr c30
        subst c30
        have H1 : ((codes_Holds.f a0_0 a0_1 a1_0 a1_1 a1_2 a1_3 a1_4 l1_5 a1_6 l2).bind fun bt6109 => ((padlockref01_Holds.f kj3 a0_0 a0_1 a1_0 a1_1 a1_2 a1_3 a1_4 l1_5 a1_6 l2).bind fun bt6111 => (if (bt6109.1 == bt6111.1) = true then (if bt6109.2 = bt6111.2 then ((padlocklaw01_works.f).bind fun t6113 => (some t6113)) else (some false)) else (some false)))) = some r := by rw [if_neg (show ¬ (false = true) by decide)] at H; exact H
        clear H
        have H := H1
        clear H1
        replace H := Option.bind_eq_some_iff.mp H
        obtain ⟨⟨t6109, t6110⟩, A310, H⟩ := H
        replace H : ((padlockref01_Holds.f kj3 a0_0 a0_1 a1_0 a1_1 a1_2 a1_3 a1_4 l1_5 a1_6 l2).bind fun bt6111 => (if (t6109 == bt6111.1) = true then (if t6110 = bt6111.2 then ((padlocklaw01_works.f).bind fun t6113 => (some t6113)) else (some false)) else (some false))) = some r := H
        have A31 := Aside0.mk A310
        clear A310
        replace H := Option.bind_eq_some_iff.mp H
        obtain ⟨⟨t6111, t6112⟩, A320, H⟩ := H
        replace H : (if (t6109 == t6111) = true then (if t6110 = t6112 then ((padlocklaw01_works.f).bind fun t6113 => (some t6113)) else (some false)) else (some false)) = some r := H
        have A32 := Aside0.mk A320
        clear A320
        by_cases c33 : (t6109 == t6111) = true
        · rw [if_pos c33] at H
          have c33b0 : (t6109 == t6111) = true := c33
          (try (have c33b1 : decide (t6109 = t6111) = true := by simpa using c33))
          (try (have c33b2 : (t6109 == t6111) = true := by simpa using c33))
          clear c33
          by_cases c34 : t6110 = t6112
          · rw [if_pos c34] at H
            have c34b0 : (t6110 == t6112) = true := beq_iff_eq.mpr c34
            have c34b1 : (t6110 != t6112) = false := bne_eq_false_iff_eq.mpr c34
            clear c34
            replace H := Option.bind_eq_some_iff.mp H
            obtain ⟨t6113, A350, H⟩ := H
            replace H : (some t6113) = some r := H
            have A35 := Aside0.mk A350
            clear A350
            obtain rfl := Option.some.inj H
            have hnb36 := NB6101_6102.out
            have hnc36 := NB6102_6101.out
            have hcz37_0 : wc.cell? ⟨gb6101, 0, none⟩ = some (.int .i64 a0_0) := (blk_cell BK6101.out 0).trans rfl
            have hcz37_1 : wc.cell? ⟨gb6101, 1, none⟩ = some (.int .i64 a0_1) := (blk_cell BK6101.out 1).trans rfl
            have hfz37_0 := blk_frozen BK6101.out 0
            have hfz37_1 := blk_frozen BK6101.out 1
            have hcz38_0 : wc.cell? ⟨gb6102, 0, none⟩ = some (.int .i64 a1_0) := (blk_cell BK6102.out 0).trans rfl
            have hcz38_1 : wc.cell? ⟨gb6102, 1, none⟩ = some (.int .i64 a1_1) := (blk_cell BK6102.out 1).trans rfl
            have hcz38_2 : wc.cell? ⟨gb6102, 2, none⟩ = some (.int .i64 a1_2) := (blk_cell BK6102.out 2).trans rfl
            have hcz38_3 : wc.cell? ⟨gb6102, 3, none⟩ = some (.int .i64 a1_3) := (blk_cell BK6102.out 3).trans rfl
            have hcz38_4 : wc.cell? ⟨gb6102, 4, none⟩ = some (.int .i64 a1_4) := (blk_cell BK6102.out 4).trans rfl
            have hcz38_5 : wc.cell? ⟨gb6102, 5, none⟩ = some (.slice A1_5 l1_5.length c1_5) := (blk_cell BK6102.out 5).trans rfl
            have hcz38_6 : wc.cell? ⟨gb6102, 6, none⟩ = some (.bool a1_6) := (blk_cell BK6102.out 6).trans rfl
            have hfz38_0 := blk_frozen BK6102.out 0
            have hfz38_1 := blk_frozen BK6102.out 1
            have hfz38_2 := blk_frozen BK6102.out 2
            have hfz38_3 := blk_frozen BK6102.out 3
            have hfz38_4 := blk_frozen BK6102.out 4
            have hfz38_5 := blk_frozen BK6102.out 5
            have hfz38_6 := blk_frozen BK6102.out 6
            go_wp2_with (first | ((with_reducible refine gate_callee (f := 30) rfl ?_); refine goesL_ (some 38) rfl rfl Try.func30 (by kernel_rfl) rfl #[.agg #[.int .i64 a0_0, .int .i64 a0_1], .agg #[.int .i64 a1_0, .int .i64 a1_1, .int .i64 a1_2, .int .i64 a1_3, .int .i64 a1_4, .slice A1_5 l1_5.length c1_5, .bool a1_6], .slice A2 l2.length c2] rfl (by (try simp only [List.map_toArray, List.map_cons, List.map_nil]); first | done | rfl | (simp only [List.length_drop, List.length_take]; rfl)) ?_; (with_reducible refine (codes_Holds.calls a0_0 a0_1 a1_0 a1_1 a1_2 a1_3 a1_4 _ _ l1_5 a1_6 _ _ l2 t6109 t6110 _ ?side1 ?side2 ?side3 ?side4 A31.out).mono ?_); (case side1 => repeat (first | exact (Kd.C_below HR1_5.out HB.out) | (with_reducible refine Kd.C_alloc ?_ _) | (with_reducible refine Kd.C_drewN ?_ _) | (with_reducible refine Kd.C_drew ?_))); (case side2 => exact HC1_5.out); (case side3 => repeat (first | exact (Kd.C_below HR2.out HB.out) | (with_reducible refine Kd.C_alloc ?_ _) | (with_reducible refine Kd.C_drewN ?_ _) | (with_reducible refine Kd.C_drew ?_))); (case side4 => exact HC2.out); rintro e w39 ⟨rfl, hb⟩; refine ⟨_, rfl, ?_⟩; have n0_ := Aside0.mk (blk_below (g := gb6101) (o := .cells #[.int .i64 a0_0, .int .i64 a0_1] 23 (0, 0)) (by (with_reducible repeat (first | refine blk_drewN ?_ _ | refine blk_drew ?_ | refine blk_alloc ?_ _)); exact BK6101.out) hb); have n1_ := Aside0.mk (blk_below (g := gb6102) (o := .cells #[.int .i64 a1_0, .int .i64 a1_1, .int .i64 a1_2, .int .i64 a1_3, .int .i64 a1_4, .slice A1_5 l1_5.length c1_5, .bool a1_6] 36 (0, 0)) (by (with_reducible repeat (first | refine blk_drewN ?_ _ | refine blk_drew ?_ | refine blk_alloc ?_ _)); exact BK6102.out) hb); have n2_ := Aside0.mk (below_step (by repeat (first | (with_reducible first | exact HB.out | apply below_alloc | apply pw_below_drewN | apply below_drew1 | refine below_set ?_ GE6101.out | refine below_set ?_ GE6102.out) | exact HB.out)) hb); clear BK6101; clear BK6102; clear HB; have BK6101 := n0_; have BK6102 := n1_; have HB := n2_; clear n0_ n1_ n2_; (try clear hb); (try clear hb2); (try clear hk); (try clear hi); have hcz40_0 : w39.cell? ⟨gb6101, 0, none⟩ = some (.int .i64 a0_0) := (blk_cell BK6101.out 0).trans rfl; have hcz40_1 : w39.cell? ⟨gb6101, 1, none⟩ = some (.int .i64 a0_1) := (blk_cell BK6101.out 1).trans rfl; have hfz40_0 := blk_frozen BK6101.out 0; have hfz40_1 := blk_frozen BK6101.out 1; have hcz41_0 : w39.cell? ⟨gb6102, 0, none⟩ = some (.int .i64 a1_0) := (blk_cell BK6102.out 0).trans rfl; have hcz41_1 : w39.cell? ⟨gb6102, 1, none⟩ = some (.int .i64 a1_1) := (blk_cell BK6102.out 1).trans rfl; have hcz41_2 : w39.cell? ⟨gb6102, 2, none⟩ = some (.int .i64 a1_2) := (blk_cell BK6102.out 2).trans rfl; have hcz41_3 : w39.cell? ⟨gb6102, 3, none⟩ = some (.int .i64 a1_3) := (blk_cell BK6102.out 3).trans rfl; have hcz41_4 : w39.cell? ⟨gb6102, 4, none⟩ = some (.int .i64 a1_4) := (blk_cell BK6102.out 4).trans rfl; have hcz41_5 : w39.cell? ⟨gb6102, 5, none⟩ = some (.slice A1_5 l1_5.length c1_5) := (blk_cell BK6102.out 5).trans rfl; have hcz41_6 : w39.cell? ⟨gb6102, 6, none⟩ = some (.bool a1_6) := (blk_cell BK6102.out 6).trans rfl; have hfz41_0 := blk_frozen BK6102.out 0; have hfz41_1 := blk_frozen BK6102.out 1; have hfz41_2 := blk_frozen BK6102.out 2; have hfz41_3 := blk_frozen BK6102.out 3; have hfz41_4 := blk_frozen BK6102.out 4; have hfz41_5 := blk_frozen BK6102.out 5; have hfz41_6 := blk_frozen BK6102.out 6) | ((with_reducible refine gate_callee (f := 31) rfl ?_); refine goesL_ (some 45) rfl rfl Try.func31 (by kernel_rfl) rfl #[.agg #[.int .i64 a0_0, .int .i64 a0_1], .agg #[.int .i64 a1_0, .int .i64 a1_1, .int .i64 a1_2, .int .i64 a1_3, .int .i64 a1_4, .slice A1_5 l1_5.length c1_5, .bool a1_6], .slice A2 l2.length c2] rfl (by (try simp only [List.map_toArray, List.map_cons, List.map_nil]); first | done | rfl | (simp only [List.length_drop, List.length_take]; rfl)) ?_; (with_reducible refine (padlockref01_Holds.calls kj3 a0_0 a0_1 a1_0 a1_1 a1_2 a1_3 a1_4 _ _ l1_5 a1_6 _ _ l2 t6111 t6112 _ ?side1 ?side2 ?side3 ?side4 A32.out).mono ?_); (case side1 => repeat (first | exact (Kd.C_below HR1_5.out HB.out) | (with_reducible refine Kd.C_alloc ?_ _) | (with_reducible refine Kd.C_drewN ?_ _) | (with_reducible refine Kd.C_drew ?_))); (case side2 => exact HC1_5.out); (case side3 => repeat (first | exact (Kd.C_below HR2.out HB.out) | (with_reducible refine Kd.C_alloc ?_ _) | (with_reducible refine Kd.C_drewN ?_ _) | (with_reducible refine Kd.C_drew ?_))); (case side4 => exact HC2.out); rintro e w42 ⟨rfl, hb⟩; refine ⟨_, rfl, ?_⟩; have n0_ := Aside0.mk (blk_below (g := gb6101) (o := .cells #[.int .i64 a0_0, .int .i64 a0_1] 23 (0, 0)) (by (with_reducible repeat (first | refine blk_drewN ?_ _ | refine blk_drew ?_ | refine blk_alloc ?_ _)); exact BK6101.out) hb); have n1_ := Aside0.mk (blk_below (g := gb6102) (o := .cells #[.int .i64 a1_0, .int .i64 a1_1, .int .i64 a1_2, .int .i64 a1_3, .int .i64 a1_4, .slice A1_5 l1_5.length c1_5, .bool a1_6] 36 (0, 0)) (by (with_reducible repeat (first | refine blk_drewN ?_ _ | refine blk_drew ?_ | refine blk_alloc ?_ _)); exact BK6102.out) hb); have n2_ := Aside0.mk (below_step (by repeat (first | (with_reducible first | exact HB.out | apply below_alloc | apply pw_below_drewN | apply below_drew1 | refine below_set ?_ GE6101.out | refine below_set ?_ GE6102.out) | exact HB.out)) hb); clear BK6101; clear BK6102; clear HB; have BK6101 := n0_; have BK6102 := n1_; have HB := n2_; clear n0_ n1_ n2_; (try clear hb); (try clear hb2); (try clear hk); (try clear hi)) | (go_at_call 20; (with_reducible refine (padlocklaw01_works.calls  t6113 _ A35.out).mono ?_); rintro e w43 ⟨rfl, hb⟩; have n0_ := Aside0.mk (blk_below (g := gb6101) (o := .cells #[.int .i64 a0_0, .int .i64 a0_1] 23 (0, 0)) (by (with_reducible repeat (first | refine blk_drewN ?_ _ | refine blk_drew ?_ | refine blk_alloc ?_ _)); exact BK6101.out) hb); have n1_ := Aside0.mk (blk_below (g := gb6102) (o := .cells #[.int .i64 a1_0, .int .i64 a1_1, .int .i64 a1_2, .int .i64 a1_3, .int .i64 a1_4, .slice A1_5 l1_5.length c1_5, .bool a1_6] 36 (0, 0)) (by (with_reducible repeat (first | refine blk_drewN ?_ _ | refine blk_drew ?_ | refine blk_alloc ?_ _)); exact BK6102.out) hb); have n2_ := Aside0.mk (below_step (by repeat (first | (with_reducible first | exact HB.out | apply below_alloc | apply pw_below_drewN | apply below_drew1 | refine below_set ?_ GE6101.out | refine below_set ?_ GE6102.out) | exact HB.out)) hb); clear BK6101; clear BK6102; clear HB; have BK6101 := n0_; have BK6102 := n1_; have HB := n2_; clear n0_ n1_ n2_; (try clear hb); (try clear hb2); (try clear hk); (try clear hi)))
            go_ret
            exact ⟨by first | rfl | (simp [errW_none, errW_some] <;> rfl) | (simp [*, errW_none, errW_some] <;> rfl), by repeat (first | (with_reducible first | exact HB.out | apply below_alloc | apply pw_below_drewN | apply below_drew1 | refine below_set ?_ GE6101.out | refine below_set ?_ GE6102.out) | exact HB.out)⟩
          · rw [if_neg c34] at H
            have c34b0 : (t6110 == t6112) = false := beq_eq_false_iff_ne.mpr c34
            have c34b1 : (t6110 != t6112) = true := bne_iff_ne.mpr c34
            obtain rfl := Option.some.inj H
            have hnb44 := NB6101_6102.out
            have hnc44 := NB6102_6101.out
            have hcz45_0 : wc.cell? ⟨gb6101, 0, none⟩ = some (.int .i64 a0_0) := (blk_cell BK6101.out 0).trans rfl
            have hcz45_1 : wc.cell? ⟨gb6101, 1, none⟩ = some (.int .i64 a0_1) := (blk_cell BK6101.out 1).trans rfl
            have hfz45_0 := blk_frozen BK6101.out 0
            have hfz45_1 := blk_frozen BK6101.out 1
            have hcz46_0 : wc.cell? ⟨gb6102, 0, none⟩ = some (.int .i64 a1_0) := (blk_cell BK6102.out 0).trans rfl
            have hcz46_1 : wc.cell? ⟨gb6102, 1, none⟩ = some (.int .i64 a1_1) := (blk_cell BK6102.out 1).trans rfl
            have hcz46_2 : wc.cell? ⟨gb6102, 2, none⟩ = some (.int .i64 a1_2) := (blk_cell BK6102.out 2).trans rfl
            have hcz46_3 : wc.cell? ⟨gb6102, 3, none⟩ = some (.int .i64 a1_3) := (blk_cell BK6102.out 3).trans rfl
            have hcz46_4 : wc.cell? ⟨gb6102, 4, none⟩ = some (.int .i64 a1_4) := (blk_cell BK6102.out 4).trans rfl
            have hcz46_5 : wc.cell? ⟨gb6102, 5, none⟩ = some (.slice A1_5 l1_5.length c1_5) := (blk_cell BK6102.out 5).trans rfl
            have hcz46_6 : wc.cell? ⟨gb6102, 6, none⟩ = some (.bool a1_6) := (blk_cell BK6102.out 6).trans rfl
            have hfz46_0 := blk_frozen BK6102.out 0
            have hfz46_1 := blk_frozen BK6102.out 1
            have hfz46_2 := blk_frozen BK6102.out 2
            have hfz46_3 := blk_frozen BK6102.out 3
            have hfz46_4 := blk_frozen BK6102.out 4
            have hfz46_5 := blk_frozen BK6102.out 5
            have hfz46_6 := blk_frozen BK6102.out 6
            go_wp2_with (first | ((with_reducible refine gate_callee (f := 30) rfl ?_); refine goesL_ (some 38) rfl rfl Try.func30 (by kernel_rfl) rfl #[.agg #[.int .i64 a0_0, .int .i64 a0_1], .agg #[.int .i64 a1_0, .int .i64 a1_1, .int .i64 a1_2, .int .i64 a1_3, .int .i64 a1_4, .slice A1_5 l1_5.length c1_5, .bool a1_6], .slice A2 l2.length c2] rfl (by (try simp only [List.map_toArray, List.map_cons, List.map_nil]); first | done | rfl | (simp only [List.length_drop, List.length_take]; rfl)) ?_; (with_reducible refine (codes_Holds.calls a0_0 a0_1 a1_0 a1_1 a1_2 a1_3 a1_4 _ _ l1_5 a1_6 _ _ l2 t6109 t6110 _ ?side1 ?side2 ?side3 ?side4 A31.out).mono ?_); (case side1 => repeat (first | exact (Kd.C_below HR1_5.out HB.out) | (with_reducible refine Kd.C_alloc ?_ _) | (with_reducible refine Kd.C_drewN ?_ _) | (with_reducible refine Kd.C_drew ?_))); (case side2 => exact HC1_5.out); (case side3 => repeat (first | exact (Kd.C_below HR2.out HB.out) | (with_reducible refine Kd.C_alloc ?_ _) | (with_reducible refine Kd.C_drewN ?_ _) | (with_reducible refine Kd.C_drew ?_))); (case side4 => exact HC2.out); rintro e w47 ⟨rfl, hb⟩; refine ⟨_, rfl, ?_⟩; have n0_ := Aside0.mk (blk_below (g := gb6101) (o := .cells #[.int .i64 a0_0, .int .i64 a0_1] 23 (0, 0)) (by (with_reducible repeat (first | refine blk_drewN ?_ _ | refine blk_drew ?_ | refine blk_alloc ?_ _)); exact BK6101.out) hb); have n1_ := Aside0.mk (blk_below (g := gb6102) (o := .cells #[.int .i64 a1_0, .int .i64 a1_1, .int .i64 a1_2, .int .i64 a1_3, .int .i64 a1_4, .slice A1_5 l1_5.length c1_5, .bool a1_6] 36 (0, 0)) (by (with_reducible repeat (first | refine blk_drewN ?_ _ | refine blk_drew ?_ | refine blk_alloc ?_ _)); exact BK6102.out) hb); have n2_ := Aside0.mk (below_step (by repeat (first | (with_reducible first | exact HB.out | apply below_alloc | apply pw_below_drewN | apply below_drew1 | refine below_set ?_ GE6101.out | refine below_set ?_ GE6102.out) | exact HB.out)) hb); clear BK6101; clear BK6102; clear HB; have BK6101 := n0_; have BK6102 := n1_; have HB := n2_; clear n0_ n1_ n2_; (try clear hb); (try clear hb2); (try clear hk); (try clear hi); have hcz48_0 : w47.cell? ⟨gb6101, 0, none⟩ = some (.int .i64 a0_0) := (blk_cell BK6101.out 0).trans rfl; have hcz48_1 : w47.cell? ⟨gb6101, 1, none⟩ = some (.int .i64 a0_1) := (blk_cell BK6101.out 1).trans rfl; have hfz48_0 := blk_frozen BK6101.out 0; have hfz48_1 := blk_frozen BK6101.out 1; have hcz49_0 : w47.cell? ⟨gb6102, 0, none⟩ = some (.int .i64 a1_0) := (blk_cell BK6102.out 0).trans rfl; have hcz49_1 : w47.cell? ⟨gb6102, 1, none⟩ = some (.int .i64 a1_1) := (blk_cell BK6102.out 1).trans rfl; have hcz49_2 : w47.cell? ⟨gb6102, 2, none⟩ = some (.int .i64 a1_2) := (blk_cell BK6102.out 2).trans rfl; have hcz49_3 : w47.cell? ⟨gb6102, 3, none⟩ = some (.int .i64 a1_3) := (blk_cell BK6102.out 3).trans rfl; have hcz49_4 : w47.cell? ⟨gb6102, 4, none⟩ = some (.int .i64 a1_4) := (blk_cell BK6102.out 4).trans rfl; have hcz49_5 : w47.cell? ⟨gb6102, 5, none⟩ = some (.slice A1_5 l1_5.length c1_5) := (blk_cell BK6102.out 5).trans rfl; have hcz49_6 : w47.cell? ⟨gb6102, 6, none⟩ = some (.bool a1_6) := (blk_cell BK6102.out 6).trans rfl; have hfz49_0 := blk_frozen BK6102.out 0; have hfz49_1 := blk_frozen BK6102.out 1; have hfz49_2 := blk_frozen BK6102.out 2; have hfz49_3 := blk_frozen BK6102.out 3; have hfz49_4 := blk_frozen BK6102.out 4; have hfz49_5 := blk_frozen BK6102.out 5; have hfz49_6 := blk_frozen BK6102.out 6) | ((with_reducible refine gate_callee (f := 31) rfl ?_); refine goesL_ (some 45) rfl rfl Try.func31 (by kernel_rfl) rfl #[.agg #[.int .i64 a0_0, .int .i64 a0_1], .agg #[.int .i64 a1_0, .int .i64 a1_1, .int .i64 a1_2, .int .i64 a1_3, .int .i64 a1_4, .slice A1_5 l1_5.length c1_5, .bool a1_6], .slice A2 l2.length c2] rfl (by (try simp only [List.map_toArray, List.map_cons, List.map_nil]); first | done | rfl | (simp only [List.length_drop, List.length_take]; rfl)) ?_; (with_reducible refine (padlockref01_Holds.calls kj3 a0_0 a0_1 a1_0 a1_1 a1_2 a1_3 a1_4 _ _ l1_5 a1_6 _ _ l2 t6111 t6112 _ ?side1 ?side2 ?side3 ?side4 A32.out).mono ?_); (case side1 => repeat (first | exact (Kd.C_below HR1_5.out HB.out) | (with_reducible refine Kd.C_alloc ?_ _) | (with_reducible refine Kd.C_drewN ?_ _) | (with_reducible refine Kd.C_drew ?_))); (case side2 => exact HC1_5.out); (case side3 => repeat (first | exact (Kd.C_below HR2.out HB.out) | (with_reducible refine Kd.C_alloc ?_ _) | (with_reducible refine Kd.C_drewN ?_ _) | (with_reducible refine Kd.C_drew ?_))); (case side4 => exact HC2.out); rintro e w50 ⟨rfl, hb⟩; refine ⟨_, rfl, ?_⟩; have n0_ := Aside0.mk (blk_below (g := gb6101) (o := .cells #[.int .i64 a0_0, .int .i64 a0_1] 23 (0, 0)) (by (with_reducible repeat (first | refine blk_drewN ?_ _ | refine blk_drew ?_ | refine blk_alloc ?_ _)); exact BK6101.out) hb); have n1_ := Aside0.mk (blk_below (g := gb6102) (o := .cells #[.int .i64 a1_0, .int .i64 a1_1, .int .i64 a1_2, .int .i64 a1_3, .int .i64 a1_4, .slice A1_5 l1_5.length c1_5, .bool a1_6] 36 (0, 0)) (by (with_reducible repeat (first | refine blk_drewN ?_ _ | refine blk_drew ?_ | refine blk_alloc ?_ _)); exact BK6102.out) hb); have n2_ := Aside0.mk (below_step (by repeat (first | (with_reducible first | exact HB.out | apply below_alloc | apply pw_below_drewN | apply below_drew1 | refine below_set ?_ GE6101.out | refine below_set ?_ GE6102.out) | exact HB.out)) hb); clear BK6101; clear BK6102; clear HB; have BK6101 := n0_; have BK6102 := n1_; have HB := n2_; clear n0_ n1_ n2_; (try clear hb); (try clear hb2); (try clear hk); (try clear hi)))
            go_ret
            exact ⟨by first | rfl | (simp [errW_none, errW_some] <;> rfl) | (simp [*, errW_none, errW_some] <;> rfl), by repeat (first | (with_reducible first | exact HB.out | apply below_alloc | apply pw_below_drewN | apply below_drew1 | refine below_set ?_ GE6101.out | refine below_set ?_ GE6102.out) | exact HB.out)⟩
        · rw [if_neg c33] at H
          have c33b0 : (t6109 == t6111) = false := by simpa using c33
          (try (have c33b1 : decide (t6109 = t6111) = false := by simpa using c33))
          (try (have c33b2 : (t6109 == t6111) = false := by simpa using c33))
          (try (have c33b3 : ¬ (t6109 = t6111) := by simpa using c33))
          clear c33
          obtain rfl := Option.some.inj H
          have hnb51 := NB6101_6102.out
          have hnc51 := NB6102_6101.out
          have hcz52_0 : wc.cell? ⟨gb6101, 0, none⟩ = some (.int .i64 a0_0) := (blk_cell BK6101.out 0).trans rfl
          have hcz52_1 : wc.cell? ⟨gb6101, 1, none⟩ = some (.int .i64 a0_1) := (blk_cell BK6101.out 1).trans rfl
          have hfz52_0 := blk_frozen BK6101.out 0
          have hfz52_1 := blk_frozen BK6101.out 1
          have hcz53_0 : wc.cell? ⟨gb6102, 0, none⟩ = some (.int .i64 a1_0) := (blk_cell BK6102.out 0).trans rfl
          have hcz53_1 : wc.cell? ⟨gb6102, 1, none⟩ = some (.int .i64 a1_1) := (blk_cell BK6102.out 1).trans rfl
          have hcz53_2 : wc.cell? ⟨gb6102, 2, none⟩ = some (.int .i64 a1_2) := (blk_cell BK6102.out 2).trans rfl
          have hcz53_3 : wc.cell? ⟨gb6102, 3, none⟩ = some (.int .i64 a1_3) := (blk_cell BK6102.out 3).trans rfl
          have hcz53_4 : wc.cell? ⟨gb6102, 4, none⟩ = some (.int .i64 a1_4) := (blk_cell BK6102.out 4).trans rfl
          have hcz53_5 : wc.cell? ⟨gb6102, 5, none⟩ = some (.slice A1_5 l1_5.length c1_5) := (blk_cell BK6102.out 5).trans rfl
          have hcz53_6 : wc.cell? ⟨gb6102, 6, none⟩ = some (.bool a1_6) := (blk_cell BK6102.out 6).trans rfl
          have hfz53_0 := blk_frozen BK6102.out 0
          have hfz53_1 := blk_frozen BK6102.out 1
          have hfz53_2 := blk_frozen BK6102.out 2
          have hfz53_3 := blk_frozen BK6102.out 3
          have hfz53_4 := blk_frozen BK6102.out 4
          have hfz53_5 := blk_frozen BK6102.out 5
          have hfz53_6 := blk_frozen BK6102.out 6
          go_wp2_with (first | ((with_reducible refine gate_callee (f := 30) rfl ?_); refine goesL_ (some 38) rfl rfl Try.func30 (by kernel_rfl) rfl #[.agg #[.int .i64 a0_0, .int .i64 a0_1], .agg #[.int .i64 a1_0, .int .i64 a1_1, .int .i64 a1_2, .int .i64 a1_3, .int .i64 a1_4, .slice A1_5 l1_5.length c1_5, .bool a1_6], .slice A2 l2.length c2] rfl (by (try simp only [List.map_toArray, List.map_cons, List.map_nil]); first | done | rfl | (simp only [List.length_drop, List.length_take]; rfl)) ?_; (with_reducible refine (codes_Holds.calls a0_0 a0_1 a1_0 a1_1 a1_2 a1_3 a1_4 _ _ l1_5 a1_6 _ _ l2 t6109 t6110 _ ?side1 ?side2 ?side3 ?side4 A31.out).mono ?_); (case side1 => repeat (first | exact (Kd.C_below HR1_5.out HB.out) | (with_reducible refine Kd.C_alloc ?_ _) | (with_reducible refine Kd.C_drewN ?_ _) | (with_reducible refine Kd.C_drew ?_))); (case side2 => exact HC1_5.out); (case side3 => repeat (first | exact (Kd.C_below HR2.out HB.out) | (with_reducible refine Kd.C_alloc ?_ _) | (with_reducible refine Kd.C_drewN ?_ _) | (with_reducible refine Kd.C_drew ?_))); (case side4 => exact HC2.out); rintro e w54 ⟨rfl, hb⟩; refine ⟨_, rfl, ?_⟩; have n0_ := Aside0.mk (blk_below (g := gb6101) (o := .cells #[.int .i64 a0_0, .int .i64 a0_1] 23 (0, 0)) (by (with_reducible repeat (first | refine blk_drewN ?_ _ | refine blk_drew ?_ | refine blk_alloc ?_ _)); exact BK6101.out) hb); have n1_ := Aside0.mk (blk_below (g := gb6102) (o := .cells #[.int .i64 a1_0, .int .i64 a1_1, .int .i64 a1_2, .int .i64 a1_3, .int .i64 a1_4, .slice A1_5 l1_5.length c1_5, .bool a1_6] 36 (0, 0)) (by (with_reducible repeat (first | refine blk_drewN ?_ _ | refine blk_drew ?_ | refine blk_alloc ?_ _)); exact BK6102.out) hb); have n2_ := Aside0.mk (below_step (by repeat (first | (with_reducible first | exact HB.out | apply below_alloc | apply pw_below_drewN | apply below_drew1 | refine below_set ?_ GE6101.out | refine below_set ?_ GE6102.out) | exact HB.out)) hb); clear BK6101; clear BK6102; clear HB; have BK6101 := n0_; have BK6102 := n1_; have HB := n2_; clear n0_ n1_ n2_; (try clear hb); (try clear hb2); (try clear hk); (try clear hi); have hcz55_0 : w54.cell? ⟨gb6101, 0, none⟩ = some (.int .i64 a0_0) := (blk_cell BK6101.out 0).trans rfl; have hcz55_1 : w54.cell? ⟨gb6101, 1, none⟩ = some (.int .i64 a0_1) := (blk_cell BK6101.out 1).trans rfl; have hfz55_0 := blk_frozen BK6101.out 0; have hfz55_1 := blk_frozen BK6101.out 1; have hcz56_0 : w54.cell? ⟨gb6102, 0, none⟩ = some (.int .i64 a1_0) := (blk_cell BK6102.out 0).trans rfl; have hcz56_1 : w54.cell? ⟨gb6102, 1, none⟩ = some (.int .i64 a1_1) := (blk_cell BK6102.out 1).trans rfl; have hcz56_2 : w54.cell? ⟨gb6102, 2, none⟩ = some (.int .i64 a1_2) := (blk_cell BK6102.out 2).trans rfl; have hcz56_3 : w54.cell? ⟨gb6102, 3, none⟩ = some (.int .i64 a1_3) := (blk_cell BK6102.out 3).trans rfl; have hcz56_4 : w54.cell? ⟨gb6102, 4, none⟩ = some (.int .i64 a1_4) := (blk_cell BK6102.out 4).trans rfl; have hcz56_5 : w54.cell? ⟨gb6102, 5, none⟩ = some (.slice A1_5 l1_5.length c1_5) := (blk_cell BK6102.out 5).trans rfl; have hcz56_6 : w54.cell? ⟨gb6102, 6, none⟩ = some (.bool a1_6) := (blk_cell BK6102.out 6).trans rfl; have hfz56_0 := blk_frozen BK6102.out 0; have hfz56_1 := blk_frozen BK6102.out 1; have hfz56_2 := blk_frozen BK6102.out 2; have hfz56_3 := blk_frozen BK6102.out 3; have hfz56_4 := blk_frozen BK6102.out 4; have hfz56_5 := blk_frozen BK6102.out 5; have hfz56_6 := blk_frozen BK6102.out 6) | ((with_reducible refine gate_callee (f := 31) rfl ?_); refine goesL_ (some 45) rfl rfl Try.func31 (by kernel_rfl) rfl #[.agg #[.int .i64 a0_0, .int .i64 a0_1], .agg #[.int .i64 a1_0, .int .i64 a1_1, .int .i64 a1_2, .int .i64 a1_3, .int .i64 a1_4, .slice A1_5 l1_5.length c1_5, .bool a1_6], .slice A2 l2.length c2] rfl (by (try simp only [List.map_toArray, List.map_cons, List.map_nil]); first | done | rfl | (simp only [List.length_drop, List.length_take]; rfl)) ?_; (with_reducible refine (padlockref01_Holds.calls kj3 a0_0 a0_1 a1_0 a1_1 a1_2 a1_3 a1_4 _ _ l1_5 a1_6 _ _ l2 t6111 t6112 _ ?side1 ?side2 ?side3 ?side4 A32.out).mono ?_); (case side1 => repeat (first | exact (Kd.C_below HR1_5.out HB.out) | (with_reducible refine Kd.C_alloc ?_ _) | (with_reducible refine Kd.C_drewN ?_ _) | (with_reducible refine Kd.C_drew ?_))); (case side2 => exact HC1_5.out); (case side3 => repeat (first | exact (Kd.C_below HR2.out HB.out) | (with_reducible refine Kd.C_alloc ?_ _) | (with_reducible refine Kd.C_drewN ?_ _) | (with_reducible refine Kd.C_drew ?_))); (case side4 => exact HC2.out); rintro e w57 ⟨rfl, hb⟩; refine ⟨_, rfl, ?_⟩; have n0_ := Aside0.mk (blk_below (g := gb6101) (o := .cells #[.int .i64 a0_0, .int .i64 a0_1] 23 (0, 0)) (by (with_reducible repeat (first | refine blk_drewN ?_ _ | refine blk_drew ?_ | refine blk_alloc ?_ _)); exact BK6101.out) hb); have n1_ := Aside0.mk (blk_below (g := gb6102) (o := .cells #[.int .i64 a1_0, .int .i64 a1_1, .int .i64 a1_2, .int .i64 a1_3, .int .i64 a1_4, .slice A1_5 l1_5.length c1_5, .bool a1_6] 36 (0, 0)) (by (with_reducible repeat (first | refine blk_drewN ?_ _ | refine blk_drew ?_ | refine blk_alloc ?_ _)); exact BK6102.out) hb); have n2_ := Aside0.mk (below_step (by repeat (first | (with_reducible first | exact HB.out | apply below_alloc | apply pw_below_drewN | apply below_drew1 | refine below_set ?_ GE6101.out | refine below_set ?_ GE6102.out) | exact HB.out)) hb); clear BK6101; clear BK6102; clear HB; have BK6101 := n0_; have BK6102 := n1_; have HB := n2_; clear n0_ n1_ n2_; (try clear hb); (try clear hb2); (try clear hk); (try clear hi)))
          go_ret
          exact ⟨by first | rfl | (simp [errW_none, errW_some] <;> rfl) | (simp [*, errW_none, errW_some] <;> rfl), by repeat (first | (with_reducible first | exact HB.out | apply below_alloc | apply pw_below_drewN | apply below_drew1 | refine below_set ?_ GE6101.out | refine below_set ?_ GE6102.out) | exact HB.out)⟩

end Go.Proofs.Ytimkchehdaadeaa.P
