/- Part 29 of a proof: the statement CodesChooses: for every input its law returns true (its texts without what nothing here names). -/
import Derived.Test.YtimkchehdaadeaaZChooses7
import Derived.Test.YtimkchehdaadeaaZChooses10
import Derived.Test.YtimkchehdaadeaaZChooses11
import Derived.Test.YtimkchehdaadeaaZChooses26

namespace Go.Proofs.Ytimkchehdaadeaa.P
open Go.RowKit Go.Proofs.YtimkchehdaadeaaW.PrintWords Go.Proofs.YtimkchehdaadeaaW.PrintLast Go.Proofs.YtimkchehdaadeaaW.PrintMore
attribute [local go_sem] max2_int min2_int max_two min_two max_three min_three max_four min_four
set_option linter.unusedVariables false
set_option linter.unusedSimpArgs false
def padlockref01_CheckClues.l0 : Nat → List (S36) → Int → Int → Int → Option (Int)
  | 0, _, _, _, _ => none
  | k + 1, x1, x6, x34102000, x34102001 => if x6 < (x1.length : Int) then (if 0 ≤ x6 then ((padlockref01_isClue.f x34102000 x34102001 ((rd_T36 x1 x6).f0) ((rd_T36 x1 x6).f1) ((rd_T36 x1 x6).f2) ((rd_T36 x1 x6).f3) ((rd_T36 x1 x6).f4) ((rd_T36 x1 x6).f5) ((rd_T36 x1 x6).f6)).bind fun t34104 => (if t34104 = true then (padlockref01_CheckClues.l0 k x1 (wrap64 (x6 + 1)) x34102000 x34102001) else (some 11))) else (none)) else (some 0)
def padlockref01_CheckClues.f (k : Nat) (a0_0 : Int) (a0_1 : Int) (l1 : List (S36)) : Option (Int) := (padlockref01_Check.f a0_0 a0_1).bind fun t34102 => (if t34102 = 0 then (if (l1.length : Int) > 20 then (some 2) else (padlockref01_CheckClues.l0 k l1 0 a0_0 a0_1)) else (some t34102))
set_option maxHeartbeats 8000000 in
set_option maxRecDepth 100000 in
theorem padlockref01_CheckClues.calls (k : Nat) (a0_0 : Int) (a0_1 : Int) (A1 : Option Addr) (c1 : Nat) (l1 : List (S36)) (r : Int) (w : World) (hr1 : Kd.C k36 w A1 l1.length l1) (hc1 : l1.length ≤ c1) (h : padlockref01_CheckClues.f k a0_0 a0_1 l1 = some r) :
    Calls Try.prog 34 #[.agg #[.int .i64 a0_0, .int .i64 a0_1], .slice A1 l1.length c1] w fun e w' => e = .returned (.int .i64 r) ∧ Below w.heap.size w w' := by
  have hu23 := Try.underlying23
  have hu36 := Try.underlying36
  have HR1 := Aside0.mk hr1
  have HC1 := Aside0.mk hc1
  clear hr1 hc1
  have HB := Aside0.mk (Below.refl w.heap.size w)
  have H : ((padlockref01_Check.f a0_0 a0_1).bind fun t34102 => (if t34102 = 0 then (if (l1.length : Int) > 20 then (some 2) else (padlockref01_CheckClues.l0 k l1 0 a0_0 a0_1)) else (some t34102))) = some r := h
  clear h
  replace H := Option.bind_eq_some_iff.mp H
  obtain ⟨t34102, A30, H⟩ := H
  replace H : (if t34102 = 0 then (if (l1.length : Int) > 20 then (some 2) else (padlockref01_CheckClues.l0 k l1 0 a0_0 a0_1)) else (some t34102)) = some r := H
  have A3 := Aside0.mk A30
  clear A30
  by_cases c4 : t34102 = 0
  · rw [if_pos c4] at H
    have c4b0 : (t34102 == 0) = true := beq_iff_eq.mpr c4
    have c4b1 : (t34102 != 0) = false := bne_eq_false_iff_eq.mpr c4
    clear c4
    by_cases c5 : (l1.length : Int) > 20
    · rw [if_pos c5] at H
      have c5b0 : decide (20 < (l1.length : Int)) = true := decide_eq_true c5
      have c5b1 : decide (20 < l1.length) = true := decide_eq_true (by omega)
      clear c5
      obtain rfl := Option.some.inj H
      go_enter Try.func34, Try.ntmps34
      go_wp2_with (first | ((with_reducible refine gate_dst (N := 2) rfl ?_); refine box_event ?hg (N := 2) ?hd (cs := #[.int .i64 a0_0, .int .i64 a0_1]) (t := 23) ?hr ?_; (case hd => rfl); (case hg => rfl); (case hr => first | (go_simp; done) | (go_simp; rfl)); intro gb34101 hg w6 hbox hb; have n0_ := Aside0.mk (below_step (by repeat (first | (with_reducible first | exact HB.out | apply below_alloc | apply pw_below_drewN | apply below_drew1) | exact HB.out)) hb); have n1_ := Aside0.mk (hbox); have n2_ := Aside0.mk ((by rw [hg]; exact (below_size (by repeat (first | (with_reducible first | exact HB.out | apply below_alloc | apply pw_below_drewN | apply below_drew1) | exact HB.out))) : w.heap.size ≤ gb34101)); have n3_ := Aside0.mk ((by rw [hg]; exact (below_size (by repeat (first | (with_reducible first | exact HB.out | apply below_alloc | apply pw_below_drewN | apply below_drew1) | exact HB.out))) : w.heap.size ≤ gb34101)); clear HB; have HB := n0_; have BK34101 := n1_; have GW34101 := n2_; have GE34101 := n3_; clear n0_ n1_ n2_ n3_; clear hb hbox hg; have hcz7_0 : w6.cell? ⟨gb34101, 0, none⟩ = some (.int .i64 a0_0) := (blk_cell BK34101.out 0).trans rfl; have hcz7_1 : w6.cell? ⟨gb34101, 1, none⟩ = some (.int .i64 a0_1) := (blk_cell BK34101.out 1).trans rfl; have hfz7_0 := blk_frozen BK34101.out 0; have hfz7_1 := blk_frozen BK34101.out 1) | ((with_reducible refine gate_callee (f := 25) rfl ?_); refine goesL_ (some 8) rfl rfl Try.func25 (by kernel_rfl) rfl #[.agg #[.int .i64 a0_0, .int .i64 a0_1]] rfl (by (try simp only [List.map_toArray, List.map_cons, List.map_nil]); first | done | rfl | (simp only [List.length_drop, List.length_take]; rfl)) ?_; (with_reducible refine (padlockref01_Check.calls a0_0 a0_1 t34102 _ A3.out).mono ?_); rintro e w8 ⟨rfl, hb⟩; refine ⟨_, rfl, ?_⟩; have n0_ := Aside0.mk (blk_below (g := gb34101) (o := .cells #[.int .i64 a0_0, .int .i64 a0_1] 23 (0, 0)) (by (with_reducible repeat (first | refine blk_drewN ?_ _ | refine blk_drew ?_ | refine blk_alloc ?_ _)); exact BK34101.out) hb); have n1_ := Aside0.mk (below_step (by repeat (first | (with_reducible first | exact HB.out | apply below_alloc | apply pw_below_drewN | apply below_drew1 | refine below_set ?_ GE34101.out) | exact HB.out)) hb); clear BK34101; clear HB; have BK34101 := n0_; have HB := n1_; clear n0_ n1_; (try clear hb); (try clear hb2); (try clear hk); (try clear hi)))
      go_ret
      exact ⟨by first | rfl | (simp [errW_none, errW_some] <;> rfl) | (simp [*, errW_none, errW_some] <;> rfl), by repeat (first | (with_reducible first | exact HB.out | apply below_alloc | apply pw_below_drewN | apply below_drew1 | refine below_set ?_ GE34101.out) | exact HB.out)⟩
    · rw [if_neg c5] at H
      have c5b0 : decide (20 < (l1.length : Int)) = false := decide_eq_false c5
      have c5b1 : decide (20 < l1.length) = false := decide_eq_false (by omega)
      clear c5
      have H' := Aside0.mk H
      clear H
      go_enter Try.func34, Try.ntmps34
      go_wp2_with (first | ((with_reducible refine gate_dst (N := 2) rfl ?_); refine box_event ?hg (N := 2) ?hd (cs := #[.int .i64 a0_0, .int .i64 a0_1]) (t := 23) ?hr ?_; (case hd => rfl); (case hg => rfl); (case hr => first | (go_simp; done) | (go_simp; rfl)); intro gb34101 hg w9 hbox hb; have n0_ := Aside0.mk (below_step (by repeat (first | (with_reducible first | exact HB.out | apply below_alloc | apply pw_below_drewN | apply below_drew1) | exact HB.out)) hb); have n1_ := Aside0.mk (hbox); have n2_ := Aside0.mk ((by rw [hg]; exact (below_size (by repeat (first | (with_reducible first | exact HB.out | apply below_alloc | apply pw_below_drewN | apply below_drew1) | exact HB.out))) : w.heap.size ≤ gb34101)); have n3_ := Aside0.mk ((by rw [hg]; exact (below_size (by repeat (first | (with_reducible first | exact HB.out | apply below_alloc | apply pw_below_drewN | apply below_drew1) | exact HB.out))) : w.heap.size ≤ gb34101)); clear HB; have HB := n0_; have BK34101 := n1_; have GW34101 := n2_; have GE34101 := n3_; clear n0_ n1_ n2_ n3_; clear hb hbox hg; have hcz10_0 : w9.cell? ⟨gb34101, 0, none⟩ = some (.int .i64 a0_0) := (blk_cell BK34101.out 0).trans rfl; have hcz10_1 : w9.cell? ⟨gb34101, 1, none⟩ = some (.int .i64 a0_1) := (blk_cell BK34101.out 1).trans rfl; have hfz10_0 := blk_frozen BK34101.out 0; have hfz10_1 := blk_frozen BK34101.out 1) | ((with_reducible refine gate_callee (f := 25) rfl ?_); refine goesL_ (some 8) rfl rfl Try.func25 (by kernel_rfl) rfl #[.agg #[.int .i64 a0_0, .int .i64 a0_1]] rfl (by (try simp only [List.map_toArray, List.map_cons, List.map_nil]); first | done | rfl | (simp only [List.length_drop, List.length_take]; rfl)) ?_; (with_reducible refine (padlockref01_Check.calls a0_0 a0_1 t34102 _ A3.out).mono ?_); rintro e w11 ⟨rfl, hb⟩; refine ⟨_, rfl, ?_⟩; have n0_ := Aside0.mk (blk_below (g := gb34101) (o := .cells #[.int .i64 a0_0, .int .i64 a0_1] 23 (0, 0)) (by (with_reducible repeat (first | refine blk_drewN ?_ _ | refine blk_drew ?_ | refine blk_alloc ?_ _)); exact BK34101.out) hb); have n1_ := Aside0.mk (below_step (by repeat (first | (with_reducible first | exact HB.out | apply below_alloc | apply pw_below_drewN | apply below_drew1 | refine below_set ?_ GE34101.out) | exact HB.out)) hb); clear BK34101; clear HB; have BK34101 := n0_; have HB := n1_; clear n0_ n1_; (try clear hb); (try clear hb2); (try clear hk); (try clear hi)))
      go_loopg [6] k (fun kq v6 w' => ∃ (x6_1 : Int), v6 = .int .i64 x6_1 ∧ Aside0 (padlockref01_CheckClues.l0 kq l1 x6_1 a0_0 a0_1 = some r) ∧ Aside0 (kq ≤ k) ∧ Aside0 (w'.heap[gb34101]? = some (.cells #[.int .i64 a0_0, .int .i64 a0_1] 23 (0, 0))) ∧ Aside0 (Below w.heap.size w w'))
      case atStart => exact ⟨(0), (by first | rfl | (simp; done) | (simp [*]; done)), H', ⟨Nat.le_refl _⟩, ⟨by (with_reducible repeat (first | refine blk_drewN ?_ _ | refine blk_drew ?_ | refine blk_alloc ?_ _)); exact BK34101.out⟩, ⟨by repeat (first | (with_reducible first | exact HB.out | apply below_alloc | apply pw_below_drewN | apply below_drew1 | refine below_set ?_ GE34101.out) | exact HB.out)⟩⟩
      case round =>
        clear H'
        try clear c1
        try clear c2
        try clear p2
        try clear c3
        try clear c4
        try clear c4b0
        try clear c4b1
        try clear c5
        try clear c5b0
        try clear c5b1
        try clear hcz10_0
        try clear hcz10_1
        try clear hcz7_0
        try clear hcz7_1
        try clear hfz10_0
        try clear hfz10_1
        try clear hfz7_0
        try clear hfz7_1
        obtain ⟨x6_1, rfl, HA, HK1, BK34101, HB⟩ := hrel
        cases gk with
        | zero => exact absurd HA.out (by simp [padlockref01_CheckClues.l0])
        | succ k1 =>
          have H := HA.out
          clear HA
          simp only [padlockref01_CheckClues.l0] at H
          by_cases c12 : x6_1 < (l1.length : Int)
          · rw [if_pos c12] at H
            have c12b0 : decide (x6_1 < (l1.length : Int)) = true := decide_eq_true c12
            clear c12
            by_cases c13 : 0 ≤ x6_1
            · rw [if_pos c13] at H
              have c13b0 : decide (0 ≤ x6_1) = true := decide_eq_true c13
              clear c13
              replace H := Option.bind_eq_some_iff.mp H
              obtain ⟨t34104, A140, H⟩ := H
              replace H : (if t34104 = true then (padlockref01_CheckClues.l0 k1 l1 (wrap64 (x6_1 + 1)) a0_0 a0_1) else (some 11)) = some r := H
              have A14 := Aside0.mk A140
              clear A140
              by_cases c15 : t34104 = true
              · subst c15
                have H1 : (padlockref01_CheckClues.l0 k1 l1 (wrap64 (x6_1 + 1)) a0_0 a0_1) = some r := by rw [if_pos rfl] at H; exact H
                clear H
                have H := H1
                clear H1
                have H' := Aside0.mk H
                clear H
                try go_wp2
                have n0_ := Aside0.mk (blk_drew BK34101.out)
                have n1_ := Aside0.mk (below_drew1 HB.out)
                clear BK34101
                clear HB
                have BK34101 := n0_
                have HB := n1_
                clear n0_ n1_
                have p34103 : 0 ≤ (x6_1 : Int) := of_decide_eq_true (by first | (with_reducible assumption) | assumption)
                have q34103 : x6_1 < (l1.length : Int) := of_decide_eq_true (by first | (with_reducible assumption) | assumption)
                obtain ⟨ad34103, A34103_5, c34103_5, e34103, hx34103_0, hx34103_1, hx34103_2, hx34103_3, hx34103_4, hx34103_5, hx34103_6, hl34103_5, hi34103_5⟩ := at_T36 HR1.out x6_1 p34103 q34103
                have hw34103_6 := hx34103_6
                have hw34103_5 := hx34103_5
                have hw34103_4 := hx34103_4
                have hw34103_3 := hx34103_3
                have hw34103_2 := hx34103_2
                have hw34103_1 := hx34103_1
                have hw34103_0 := hx34103_0
                cases e34103
                replace hx34103_0 := (HB.out.cell (World.block_lt_of_cell? w _ hx34103_0)).trans hx34103_0
                replace hx34103_1 := (HB.out.cell (World.block_lt_of_cell? w _ hx34103_1)).trans hx34103_1
                replace hx34103_2 := (HB.out.cell (World.block_lt_of_cell? w _ hx34103_2)).trans hx34103_2
                replace hx34103_3 := (HB.out.cell (World.block_lt_of_cell? w _ hx34103_3)).trans hx34103_3
                replace hx34103_4 := (HB.out.cell (World.block_lt_of_cell? w _ hx34103_4)).trans hx34103_4
                replace hx34103_5 := (HB.out.cell (World.block_lt_of_cell? w _ hx34103_5)).trans hx34103_5
                replace hx34103_6 := (HB.out.cell (World.block_lt_of_cell? w _ hx34103_6)).trans hx34103_6
                have HR34103_5 := Aside0.mk hi34103_5
                have HC34103_5 := Aside0.mk hl34103_5
                clear hi34103_5 hl34103_5
                replace p34103 := eq_true p34103
                replace q34103 := eq_true q34103
                refine start_ (n := 7) (S := fun w' => w'.cell? ⟨gb34101, 0, none⟩ = some (.int .i64 a0_0) ∧ w'.cell? ⟨gb34101, 1, none⟩ = some (.int .i64 a0_1) ∧ w'.cell? (ad34103.add ((x6_1).toNat * 7)) = some (.int .i64 ((rd_T36 l1 x6_1).f0)) ∧ w'.cell? ⟨(ad34103.add ((x6_1).toNat * 7)).block, (ad34103.add ((x6_1).toNat * 7)).off + 1, none⟩ = some (.int .i64 ((rd_T36 l1 x6_1).f1)) ∧ w'.cell? ⟨(ad34103.add ((x6_1).toNat * 7)).block, (ad34103.add ((x6_1).toNat * 7)).off + 2, none⟩ = some (.int .i64 ((rd_T36 l1 x6_1).f2)) ∧ w'.cell? ⟨(ad34103.add ((x6_1).toNat * 7)).block, (ad34103.add ((x6_1).toNat * 7)).off + 3, none⟩ = some (.int .i64 ((rd_T36 l1 x6_1).f3)) ∧ w'.cell? ⟨(ad34103.add ((x6_1).toNat * 7)).block, (ad34103.add ((x6_1).toNat * 7)).off + 4, none⟩ = some (.int .i64 ((rd_T36 l1 x6_1).f4)) ∧ w'.cell? ⟨(ad34103.add ((x6_1).toNat * 7)).block, (ad34103.add ((x6_1).toNat * 7)).off + 5, none⟩ = some (.slice A34103_5 ((rd_T36 l1 x6_1).f5).length c34103_5) ∧ w'.cell? ⟨(ad34103.add ((x6_1).toNat * 7)).block, (ad34103.add ((x6_1).toNat * 7)).off + 6, none⟩ = some (.bool ((rd_T36 l1 x6_1).f6))) (ds := []) #[false, false, false, false, false, false, false] (by kernel_rfl) rfl rfl ⟨(blk_cell BK34101.out 0).trans rfl, (blk_cell BK34101.out 1).trans rfl, ((HB.out.cell (World.block_lt_of_cell? w _ hw34103_0)).trans hw34103_0), ((HB.out.cell (World.block_lt_of_cell? w _ hw34103_1)).trans hw34103_1), ((HB.out.cell (World.block_lt_of_cell? w _ hw34103_2)).trans hw34103_2), ((HB.out.cell (World.block_lt_of_cell? w _ hw34103_3)).trans hw34103_3), ((HB.out.cell (World.block_lt_of_cell? w _ hw34103_4)).trans hw34103_4), ((HB.out.cell (World.block_lt_of_cell? w _ hw34103_5)).trans hw34103_5), ((HB.out.cell (World.block_lt_of_cell? w _ hw34103_6)).trans hw34103_6)⟩ (fun hHeld => ?_)
                generalize wr.drew = w16 at BK34101 HB HR34103_5 hx34103_0 hx34103_1 hx34103_2 hx34103_3 hx34103_4 hx34103_5 hx34103_6 hHeld ⊢
                refine pure_ (i := 1) (N := some 22) (v := ?_) (a' := ?_) #[false, true, false, false, false, false, false] rfl rfl (by kernel_rfl) (fun _ _ _ h => h) (Or.inl ⟨by rfl, ?_⟩) ?_ ?_
                rotate_left
                · intro w'
                  go_simp
                  with_reducible rfl
                rotate_left
                · simp only [Act.put, List.setIfInBounds_toArray, List.set_cons_zero, List.set_cons_succ, i64_w, i32_w]
                  rfl
                refine pure_ (i := 2) (N := some 23) (v := ?_) (a' := ?_) #[false, true, true, false, false, false, false] rfl rfl (by kernel_rfl) (fun _ _ _ h => h) (Or.inl ⟨by rfl, ?_⟩) ?_ ?_
                rotate_left
                · intro w'
                  go_simp
                  with_reducible rfl
                rotate_left
                · simp only [Act.put, List.setIfInBounds_toArray, List.set_cons_zero, List.set_cons_succ, i64_w, i32_w]
                  rfl
                refine pure_ (i := 3) (N := some 24) (v := ?_) (a' := ?_) #[false, true, true, true, false, false, false] rfl rfl (by kernel_rfl) (fun _ _ _ h => h) (Or.inl ⟨by rfl, ?_⟩) ?_ ?_
                rotate_left
                · intro w'
                  go_simp
                  with_reducible rfl
                rotate_left
                · simp only [Act.put, List.setIfInBounds_toArray, List.set_cons_zero, List.set_cons_succ, i64_w, i32_w]
                  rfl
                refine take_ (i := 0) (N := some 21) (v := ?_) (a' := ?_) #[true, true, true, true, false, false, false] rfl rfl (by kernel_rfl) (fun _ _ _ h => h) (Or.inl ⟨by rfl, ?_⟩) hHeld ?_ ?_
                rotate_left
                · rintro w' ⟨s0, s1, s2, s3, s4, s5, s6, s7, s8⟩
                  go_simp
                  with_reducible rfl
                rotate_left
                · simp only [Act.put, List.setIfInBounds_toArray, List.set_cons_zero, List.set_cons_succ, i64_w, i32_w]
                  rfl
                refine take_ (i := 4) (N := some 25) (v := ?_) (a' := ?_) #[true, true, true, true, true, false, false] rfl rfl (by kernel_rfl) (fun _ _ _ h => h) (Or.inl ⟨by rfl, ?_⟩) hHeld ?_ ?_
                rotate_left
                · rintro w' ⟨s0, s1, s2, s3, s4, s5, s6, s7, s8⟩
                  go_simp
                  with_reducible rfl
                rotate_left
                · simp only [Act.put, List.setIfInBounds_toArray, List.set_cons_zero, List.set_cons_succ, i64_w, i32_w]
                  rfl
                refine one_ (i := 5) (N := some 26) #[true, true, true, true, true, true, false] rfl rfl (by kernel_rfl) (by decide) (fun K hK => ?_)
                refine goes_ Try.func69 (by kernel_rfl) rfl #[.agg #[.int .i64 a0_0, .int .i64 a0_1], .agg #[.int .i64 ((rd_T36 l1 x6_1).f0), .int .i64 ((rd_T36 l1 x6_1).f1), .int .i64 ((rd_T36 l1 x6_1).f2), .int .i64 ((rd_T36 l1 x6_1).f3), .int .i64 ((rd_T36 l1 x6_1).f4), .slice A34103_5 ((rd_T36 l1 x6_1).f5).length c34103_5, .bool ((rd_T36 l1 x6_1).f6)]] (by rfl) rfl rfl (by (try simp only [List.map_toArray, List.map_cons, List.map_nil]); first | done | rfl | (simp only [List.length_drop, List.length_take]; rfl)) ?_
                with_reducible refine (padlockref01_isClue.calls a0_0 a0_1 ((rd_T36 l1 x6_1).f0) ((rd_T36 l1 x6_1).f1) ((rd_T36 l1 x6_1).f2) ((rd_T36 l1 x6_1).f3) ((rd_T36 l1 x6_1).f4) _ _ ((rd_T36 l1 x6_1).f5) ((rd_T36 l1 x6_1).f6) true _ ?side1 ?side2 A14.out).mono ?_
                (case side1 => repeat (first | exact (Kd.C_below HR34103_5.out HB.out) | (with_reducible refine Kd.C_alloc ?_ _) | (with_reducible refine Kd.C_drewN ?_ _) | (with_reducible refine Kd.C_drew ?_)))
                (case side2 => exact HC34103_5.out)
                rintro e w17 ⟨rfl, hb⟩
                refine ⟨_, rfl, ?_⟩
                have n0_ := Aside0.mk (blk_below (g := gb34101) (o := .cells #[.int .i64 a0_0, .int .i64 a0_1] 23 (0, 0)) (by (with_reducible repeat (first | refine blk_drewN ?_ _ | refine blk_drew ?_ | refine blk_alloc ?_ _)); exact BK34101.out) hb)
                have n1_ := Aside0.mk (below_step (by repeat (first | (with_reducible first | exact HB.out | apply below_alloc | apply pw_below_drewN | apply below_drew1 | refine below_set ?_ GE34101.out) | exact HB.out)) hb)
                clear BK34101
                clear HB
                have BK34101 := n0_
                have HB := n1_
                clear n0_ n1_
                (try clear hb)
                (try clear hb2)
                (try clear hk)
                (try clear hi)
                refine hK.out _ _ ⟨(blk_cell BK34101.out 0).trans rfl, (blk_cell BK34101.out 1).trans rfl, ((HB.out.cell (World.block_lt_of_cell? w _ hw34103_0)).trans hw34103_0), ((HB.out.cell (World.block_lt_of_cell? w _ hw34103_1)).trans hw34103_1), ((HB.out.cell (World.block_lt_of_cell? w _ hw34103_2)).trans hw34103_2), ((HB.out.cell (World.block_lt_of_cell? w _ hw34103_3)).trans hw34103_3), ((HB.out.cell (World.block_lt_of_cell? w _ hw34103_4)).trans hw34103_4), ((HB.out.cell (World.block_lt_of_cell? w _ hw34103_5)).trans hw34103_5), ((HB.out.cell (World.block_lt_of_cell? w _ hw34103_6)).trans hw34103_6)⟩ (fun hHeld => ?_)
                clear hK K
                refine norm_ (a' := ?_) ?_ ?_
                rotate_left
                · show Act.put _ (some 26) _ = _
                  simp only [Act.put, List.setIfInBounds_toArray, List.set_cons_zero, List.set_cons_succ, i64_w, i32_w]
                  rfl
                refine pure_ (i := 6) (N := some 27) (v := ?_) (a' := ?_) #[true, true, true, true, true, true, true] rfl rfl (by kernel_rfl) (fun _ _ _ h => h) (Or.inl ⟨by rfl, ?_⟩) ?_ ?_
                rotate_left
                · intro w'
                  go_simp
                  with_reducible rfl
                rotate_left
                · simp only [Act.put, List.setIfInBounds_toArray, List.set_cons_zero, List.set_cons_succ, i64_w, i32_w]
                  rfl
                refine done_ (by kernel_rfl) ?_
                try go_wp2
                go_roundg k1
                case measure => have := HK1.out; omega
                case rel => exact ⟨(wrap64 (x6_1 + 1)), (by first | rfl | (simp; done) | (simp [*]; done)), H', ⟨by have := HK1.out; omega⟩, ⟨by (with_reducible repeat (first | refine blk_drewN ?_ _ | refine blk_drew ?_ | refine blk_alloc ?_ _)); exact BK34101.out⟩, ⟨by repeat (first | (with_reducible first | exact HB.out | apply below_alloc | apply pw_below_drewN | apply below_drew1 | refine below_set ?_ GE34101.out) | exact HB.out)⟩⟩
              · replace c15 := Bool.eq_false_iff.mpr c15
                subst c15
                have H1 : (some 11) = some r := by rw [if_neg (show ¬ (false = true) by decide)] at H; exact H
                clear H
                have H := H1
                clear H1
                obtain rfl := Option.some.inj H
                try go_wp2
                have n0_ := Aside0.mk (blk_drew BK34101.out)
                have n1_ := Aside0.mk (below_drew1 HB.out)
                clear BK34101
                clear HB
                have BK34101 := n0_
                have HB := n1_
                clear n0_ n1_
                have p34103 : 0 ≤ (x6_1 : Int) := of_decide_eq_true (by first | (with_reducible assumption) | assumption)
                have q34103 : x6_1 < (l1.length : Int) := of_decide_eq_true (by first | (with_reducible assumption) | assumption)
                obtain ⟨ad34103, A34103_5, c34103_5, e34103, hx34103_0, hx34103_1, hx34103_2, hx34103_3, hx34103_4, hx34103_5, hx34103_6, hl34103_5, hi34103_5⟩ := at_T36 HR1.out x6_1 p34103 q34103
                have hw34103_6 := hx34103_6
                have hw34103_5 := hx34103_5
                have hw34103_4 := hx34103_4
                have hw34103_3 := hx34103_3
                have hw34103_2 := hx34103_2
                have hw34103_1 := hx34103_1
                have hw34103_0 := hx34103_0
                cases e34103
                replace hx34103_0 := (HB.out.cell (World.block_lt_of_cell? w _ hx34103_0)).trans hx34103_0
                replace hx34103_1 := (HB.out.cell (World.block_lt_of_cell? w _ hx34103_1)).trans hx34103_1
                replace hx34103_2 := (HB.out.cell (World.block_lt_of_cell? w _ hx34103_2)).trans hx34103_2
                replace hx34103_3 := (HB.out.cell (World.block_lt_of_cell? w _ hx34103_3)).trans hx34103_3
                replace hx34103_4 := (HB.out.cell (World.block_lt_of_cell? w _ hx34103_4)).trans hx34103_4
                replace hx34103_5 := (HB.out.cell (World.block_lt_of_cell? w _ hx34103_5)).trans hx34103_5
                replace hx34103_6 := (HB.out.cell (World.block_lt_of_cell? w _ hx34103_6)).trans hx34103_6
                have HR34103_5 := Aside0.mk hi34103_5
                have HC34103_5 := Aside0.mk hl34103_5
                clear hi34103_5 hl34103_5
                replace p34103 := eq_true p34103
                replace q34103 := eq_true q34103
                refine start_ (n := 7) (S := fun w' => w'.cell? ⟨gb34101, 0, none⟩ = some (.int .i64 a0_0) ∧ w'.cell? ⟨gb34101, 1, none⟩ = some (.int .i64 a0_1) ∧ w'.cell? (ad34103.add ((x6_1).toNat * 7)) = some (.int .i64 ((rd_T36 l1 x6_1).f0)) ∧ w'.cell? ⟨(ad34103.add ((x6_1).toNat * 7)).block, (ad34103.add ((x6_1).toNat * 7)).off + 1, none⟩ = some (.int .i64 ((rd_T36 l1 x6_1).f1)) ∧ w'.cell? ⟨(ad34103.add ((x6_1).toNat * 7)).block, (ad34103.add ((x6_1).toNat * 7)).off + 2, none⟩ = some (.int .i64 ((rd_T36 l1 x6_1).f2)) ∧ w'.cell? ⟨(ad34103.add ((x6_1).toNat * 7)).block, (ad34103.add ((x6_1).toNat * 7)).off + 3, none⟩ = some (.int .i64 ((rd_T36 l1 x6_1).f3)) ∧ w'.cell? ⟨(ad34103.add ((x6_1).toNat * 7)).block, (ad34103.add ((x6_1).toNat * 7)).off + 4, none⟩ = some (.int .i64 ((rd_T36 l1 x6_1).f4)) ∧ w'.cell? ⟨(ad34103.add ((x6_1).toNat * 7)).block, (ad34103.add ((x6_1).toNat * 7)).off + 5, none⟩ = some (.slice A34103_5 ((rd_T36 l1 x6_1).f5).length c34103_5) ∧ w'.cell? ⟨(ad34103.add ((x6_1).toNat * 7)).block, (ad34103.add ((x6_1).toNat * 7)).off + 6, none⟩ = some (.bool ((rd_T36 l1 x6_1).f6))) (ds := []) #[false, false, false, false, false, false, false] (by kernel_rfl) rfl rfl ⟨(blk_cell BK34101.out 0).trans rfl, (blk_cell BK34101.out 1).trans rfl, ((HB.out.cell (World.block_lt_of_cell? w _ hw34103_0)).trans hw34103_0), ((HB.out.cell (World.block_lt_of_cell? w _ hw34103_1)).trans hw34103_1), ((HB.out.cell (World.block_lt_of_cell? w _ hw34103_2)).trans hw34103_2), ((HB.out.cell (World.block_lt_of_cell? w _ hw34103_3)).trans hw34103_3), ((HB.out.cell (World.block_lt_of_cell? w _ hw34103_4)).trans hw34103_4), ((HB.out.cell (World.block_lt_of_cell? w _ hw34103_5)).trans hw34103_5), ((HB.out.cell (World.block_lt_of_cell? w _ hw34103_6)).trans hw34103_6)⟩ (fun hHeld => ?_)
                generalize wr.drew = w18 at BK34101 HB HR34103_5 hx34103_0 hx34103_1 hx34103_2 hx34103_3 hx34103_4 hx34103_5 hx34103_6 hHeld ⊢
                refine pure_ (i := 1) (N := some 22) (v := ?_) (a' := ?_) #[false, true, false, false, false, false, false] rfl rfl (by kernel_rfl) (fun _ _ _ h => h) (Or.inl ⟨by rfl, ?_⟩) ?_ ?_
                rotate_left
                · intro w'
                  go_simp
                  with_reducible rfl
                rotate_left
                · simp only [Act.put, List.setIfInBounds_toArray, List.set_cons_zero, List.set_cons_succ, i64_w, i32_w]
                  rfl
                refine pure_ (i := 2) (N := some 23) (v := ?_) (a' := ?_) #[false, true, true, false, false, false, false] rfl rfl (by kernel_rfl) (fun _ _ _ h => h) (Or.inl ⟨by rfl, ?_⟩) ?_ ?_
                rotate_left
                · intro w'
                  go_simp
                  with_reducible rfl
                rotate_left
                · simp only [Act.put, List.setIfInBounds_toArray, List.set_cons_zero, List.set_cons_succ, i64_w, i32_w]
                  rfl
                refine pure_ (i := 3) (N := some 24) (v := ?_) (a' := ?_) #[false, true, true, true, false, false, false] rfl rfl (by kernel_rfl) (fun _ _ _ h => h) (Or.inl ⟨by rfl, ?_⟩) ?_ ?_
                rotate_left
                · intro w'
                  go_simp
                  with_reducible rfl
                rotate_left
                · simp only [Act.put, List.setIfInBounds_toArray, List.set_cons_zero, List.set_cons_succ, i64_w, i32_w]
                  rfl
                refine take_ (i := 0) (N := some 21) (v := ?_) (a' := ?_) #[true, true, true, true, false, false, false] rfl rfl (by kernel_rfl) (fun _ _ _ h => h) (Or.inl ⟨by rfl, ?_⟩) hHeld ?_ ?_
                rotate_left
                · rintro w' ⟨s0, s1, s2, s3, s4, s5, s6, s7, s8⟩
                  go_simp
                  with_reducible rfl
                rotate_left
                · simp only [Act.put, List.setIfInBounds_toArray, List.set_cons_zero, List.set_cons_succ, i64_w, i32_w]
                  rfl
                refine take_ (i := 4) (N := some 25) (v := ?_) (a' := ?_) #[true, true, true, true, true, false, false] rfl rfl (by kernel_rfl) (fun _ _ _ h => h) (Or.inl ⟨by rfl, ?_⟩) hHeld ?_ ?_
                rotate_left
                · rintro w' ⟨s0, s1, s2, s3, s4, s5, s6, s7, s8⟩
                  go_simp
                  with_reducible rfl
                rotate_left
                · simp only [Act.put, List.setIfInBounds_toArray, List.set_cons_zero, List.set_cons_succ, i64_w, i32_w]
                  rfl
                refine one_ (i := 5) (N := some 26) #[true, true, true, true, true, true, false] rfl rfl (by kernel_rfl) (by decide) (fun K hK => ?_)
                refine goes_ Try.func69 (by kernel_rfl) rfl #[.agg #[.int .i64 a0_0, .int .i64 a0_1], .agg #[.int .i64 ((rd_T36 l1 x6_1).f0), .int .i64 ((rd_T36 l1 x6_1).f1), .int .i64 ((rd_T36 l1 x6_1).f2), .int .i64 ((rd_T36 l1 x6_1).f3), .int .i64 ((rd_T36 l1 x6_1).f4), .slice A34103_5 ((rd_T36 l1 x6_1).f5).length c34103_5, .bool ((rd_T36 l1 x6_1).f6)]] (by rfl) rfl rfl (by (try simp only [List.map_toArray, List.map_cons, List.map_nil]); first | done | rfl | (simp only [List.length_drop, List.length_take]; rfl)) ?_
                with_reducible refine (padlockref01_isClue.calls a0_0 a0_1 ((rd_T36 l1 x6_1).f0) ((rd_T36 l1 x6_1).f1) ((rd_T36 l1 x6_1).f2) ((rd_T36 l1 x6_1).f3) ((rd_T36 l1 x6_1).f4) _ _ ((rd_T36 l1 x6_1).f5) ((rd_T36 l1 x6_1).f6) false _ ?side1 ?side2 A14.out).mono ?_
                (case side1 => repeat (first | exact (Kd.C_below HR34103_5.out HB.out) | (with_reducible refine Kd.C_alloc ?_ _) | (with_reducible refine Kd.C_drewN ?_ _) | (with_reducible refine Kd.C_drew ?_)))
                (case side2 => exact HC34103_5.out)
                rintro e w19 ⟨rfl, hb⟩
                refine ⟨_, rfl, ?_⟩
                have n0_ := Aside0.mk (blk_below (g := gb34101) (o := .cells #[.int .i64 a0_0, .int .i64 a0_1] 23 (0, 0)) (by (with_reducible repeat (first | refine blk_drewN ?_ _ | refine blk_drew ?_ | refine blk_alloc ?_ _)); exact BK34101.out) hb)
                have n1_ := Aside0.mk (below_step (by repeat (first | (with_reducible first | exact HB.out | apply below_alloc | apply pw_below_drewN | apply below_drew1 | refine below_set ?_ GE34101.out) | exact HB.out)) hb)
                clear BK34101
                clear HB
                have BK34101 := n0_
                have HB := n1_
                clear n0_ n1_
                (try clear hb)
                (try clear hb2)
                (try clear hk)
                (try clear hi)
                refine hK.out _ _ ⟨(blk_cell BK34101.out 0).trans rfl, (blk_cell BK34101.out 1).trans rfl, ((HB.out.cell (World.block_lt_of_cell? w _ hw34103_0)).trans hw34103_0), ((HB.out.cell (World.block_lt_of_cell? w _ hw34103_1)).trans hw34103_1), ((HB.out.cell (World.block_lt_of_cell? w _ hw34103_2)).trans hw34103_2), ((HB.out.cell (World.block_lt_of_cell? w _ hw34103_3)).trans hw34103_3), ((HB.out.cell (World.block_lt_of_cell? w _ hw34103_4)).trans hw34103_4), ((HB.out.cell (World.block_lt_of_cell? w _ hw34103_5)).trans hw34103_5), ((HB.out.cell (World.block_lt_of_cell? w _ hw34103_6)).trans hw34103_6)⟩ (fun hHeld => ?_)
                clear hK K
                refine norm_ (a' := ?_) ?_ ?_
                rotate_left
                · show Act.put _ (some 26) _ = _
                  simp only [Act.put, List.setIfInBounds_toArray, List.set_cons_zero, List.set_cons_succ, i64_w, i32_w]
                  rfl
                refine pure_ (i := 6) (N := some 27) (v := ?_) (a' := ?_) #[true, true, true, true, true, true, true] rfl rfl (by kernel_rfl) (fun _ _ _ h => h) (Or.inl ⟨by rfl, ?_⟩) ?_ ?_
                rotate_left
                · intro w'
                  go_simp
                  with_reducible rfl
                rotate_left
                · simp only [Act.put, List.setIfInBounds_toArray, List.set_cons_zero, List.set_cons_succ, i64_w, i32_w]
                  rfl
                refine done_ (by kernel_rfl) ?_
                try go_wp2
                go_ret
                exact ⟨by first | rfl | (simp [errW_none, errW_some] <;> rfl) | (simp [*, errW_none, errW_some] <;> rfl), by repeat (first | (with_reducible first | exact HB.out | apply below_alloc | apply pw_below_drewN | apply below_drew1 | refine below_set ?_ GE34101.out) | exact HB.out)⟩
            · rw [if_neg c13] at H
              exact absurd H (by simp)
          · rw [if_neg c12] at H
            have c12b0 : decide (x6_1 < (l1.length : Int)) = false := decide_eq_false c12
            clear c12
            obtain rfl := Option.some.inj H
            go_wp2
            go_ret
            exact ⟨by first | rfl | (simp [errW_none, errW_some] <;> rfl) | (simp [*, errW_none, errW_some] <;> rfl), by repeat (first | (with_reducible first | exact HB.out | apply below_alloc | apply pw_below_drewN | apply below_drew1 | refine below_set ?_ GE34101.out) | exact HB.out)⟩
  · rw [if_neg c4] at H
    have c4b0 : (t34102 == 0) = false := beq_eq_false_iff_ne.mpr c4
    have c4b1 : (t34102 != 0) = true := bne_iff_ne.mpr c4
    obtain rfl := Option.some.inj H
    go_enter Try.func34, Try.ntmps34
    go_wp2_with (first | ((with_reducible refine gate_dst (N := 2) rfl ?_); refine box_event ?hg (N := 2) ?hd (cs := #[.int .i64 a0_0, .int .i64 a0_1]) (t := 23) ?hr ?_; (case hd => rfl); (case hg => rfl); (case hr => first | (go_simp; done) | (go_simp; rfl)); intro gb34101 hg w20 hbox hb; have n0_ := Aside0.mk (below_step (by repeat (first | (with_reducible first | exact HB.out | apply below_alloc | apply pw_below_drewN | apply below_drew1) | exact HB.out)) hb); have n1_ := Aside0.mk (hbox); have n2_ := Aside0.mk ((by rw [hg]; exact (below_size (by repeat (first | (with_reducible first | exact HB.out | apply below_alloc | apply pw_below_drewN | apply below_drew1) | exact HB.out))) : w.heap.size ≤ gb34101)); have n3_ := Aside0.mk ((by rw [hg]; exact (below_size (by repeat (first | (with_reducible first | exact HB.out | apply below_alloc | apply pw_below_drewN | apply below_drew1) | exact HB.out))) : w.heap.size ≤ gb34101)); clear HB; have HB := n0_; have BK34101 := n1_; have GW34101 := n2_; have GE34101 := n3_; clear n0_ n1_ n2_ n3_; clear hb hbox hg; have hcz21_0 : w20.cell? ⟨gb34101, 0, none⟩ = some (.int .i64 a0_0) := (blk_cell BK34101.out 0).trans rfl; have hcz21_1 : w20.cell? ⟨gb34101, 1, none⟩ = some (.int .i64 a0_1) := (blk_cell BK34101.out 1).trans rfl; have hfz21_0 := blk_frozen BK34101.out 0; have hfz21_1 := blk_frozen BK34101.out 1) | ((with_reducible refine gate_callee (f := 25) rfl ?_); refine goesL_ (some 8) rfl rfl Try.func25 (by kernel_rfl) rfl #[.agg #[.int .i64 a0_0, .int .i64 a0_1]] rfl (by (try simp only [List.map_toArray, List.map_cons, List.map_nil]); first | done | rfl | (simp only [List.length_drop, List.length_take]; rfl)) ?_; (with_reducible refine (padlockref01_Check.calls a0_0 a0_1 t34102 _ A3.out).mono ?_); rintro e w22 ⟨rfl, hb⟩; refine ⟨_, rfl, ?_⟩; have n0_ := Aside0.mk (blk_below (g := gb34101) (o := .cells #[.int .i64 a0_0, .int .i64 a0_1] 23 (0, 0)) (by (with_reducible repeat (first | refine blk_drewN ?_ _ | refine blk_drew ?_ | refine blk_alloc ?_ _)); exact BK34101.out) hb); have n1_ := Aside0.mk (below_step (by repeat (first | (with_reducible first | exact HB.out | apply below_alloc | apply pw_below_drewN | apply below_drew1 | refine below_set ?_ GE34101.out) | exact HB.out)) hb); clear BK34101; clear HB; have BK34101 := n0_; have HB := n1_; clear n0_ n1_; (try clear hb); (try clear hb2); (try clear hk); (try clear hi)))
    go_ret
    exact ⟨by first | rfl | (simp [errW_none, errW_some] <;> rfl) | (simp [*, errW_none, errW_some] <;> rfl), by repeat (first | (with_reducible first | exact HB.out | apply below_alloc | apply pw_below_drewN | apply below_drew1 | refine below_set ?_ GE34101.out) | exact HB.out)⟩
end Go.Proofs.Ytimkchehdaadeaa.P
