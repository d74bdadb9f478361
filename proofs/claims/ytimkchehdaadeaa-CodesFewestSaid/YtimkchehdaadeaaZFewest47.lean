/- Part 47 of a proof: the statement CodesFewest: for every input its law returns true (its texts without what nothing here names). -/
import Derived.Test.YtimkchehdaadeaaZFewest7
import Derived.Test.YtimkchehdaadeaaZFewest20

namespace Go.Proofs.Ytimkchehdaadeaa.P
open Go.RowKit Go.Proofs.YtimkchehdaadeaaW.PrintWords Go.Proofs.YtimkchehdaadeaaW.PrintLast Go.Proofs.YtimkchehdaadeaaW.PrintMore
attribute [local go_sem] max2_int min2_int max_two min_two max_three min_three max_four min_four
set_option linter.unusedVariables false
set_option linter.unusedSimpArgs false
def padlocklaw01_alone.l0 : Nat → List (S36) → List Int → List Int → List (S36) → Int → Int → Int → Option (Bool)
  | 0, _, _, _, _, _, _, _ => none
  | k + 1, x1, x2, x3, x9, x10, x58102000, x58102001 => if x10 < (x2.length : Int) then (if 0 ≤ x10 then (if (rd x2 x10) < 0 then (some false) else (if (rd x2 x10) ≥ (x1.length : Int) then (some false) else (if 0 ≤ (rd x2 x10) then (if (rd x2 x10) < (x1.length : Int) then (if x9.length < 1954687338268 then (padlocklaw01_alone.l0 k x1 x2 x3 (x9 ++ [(⟨(rd_T36 x1 (rd x2 x10)).f0, (rd_T36 x1 (rd x2 x10)).f1, (rd_T36 x1 (rd x2 x10)).f2, (rd_T36 x1 (rd x2 x10)).f3, (rd_T36 x1 (rd x2 x10)).f4, (rd_T36 x1 (rd x2 x10)).f5, (rd_T36 x1 (rd x2 x10)).f6⟩ : S36)]) (wrap64 (x10 + 1)) x58102000 x58102001) else (none)) else (none)) else (none)))) else (none)) else ((codes_Count.f x58102000 x58102001 x9).bind fun bt58109 => ((codes_Fits.f x58102000 x58102001 x9 x3).bind fun bt58111 => (if bt58109.2 = 0 then (if bt58111.2.2 = 0 then (if bt58109.1 = 1 then (some bt58111.2.1) else (some false)) else (some false)) else (some false))))
def padlocklaw01_alone.f (k : Nat) (a0_0 : Int) (a0_1 : Int) (l1 : List (S36)) (l2 : List Int) (l3 : List Int) : Option (Bool) := padlocklaw01_alone.l0 k l1 l2 l3 ([] : List (S36)) 0 a0_0 a0_1
set_option maxHeartbeats 8000000 in
set_option maxRecDepth 100000 in
theorem padlocklaw01_alone.calls (k : Nat) (a0_0 : Int) (a0_1 : Int) (P1_ : Nat → Prop) (A1 : Option Addr) (c1 : Nat) (l1 : List (S36)) (A2 : Option Addr) (c2 : Nat) (l2 : List Int) (A3 : Option Addr) (c3 : Nat) (l3 : List Int) (r : Bool) (w : World) (hs1 : Kd.V k36 36 w w.heap.size (fun k_ => P1_ k_) (.slice A1 l1.length c1) l1) (hr2 : Kd.C (Kd.int .i64) w A2 l2.length l2) (hc2 : l2.length ≤ c2) (hr3 : Kd.C (Kd.int .i64) w A3 l3.length l3) (hc3 : l3.length ≤ c3) (h : padlocklaw01_alone.f k a0_0 a0_1 l1 l2 l3 = some r) :
    Calls Try.prog 58 #[.agg #[.int .i64 a0_0, .int .i64 a0_1], .slice A1 l1.length c1, .slice A2 l2.length c2, .slice A3 l3.length c3] w fun e w' => e = .returned (.bool r) ∧ Below w.heap.size w w' := by
  have hu23 := Try.underlying23
  have hu36 := Try.underlying36
  have HO1 := Aside0.mk (show Kd.V k36 36 w w.heap.size (fun k_ => (P1_ k_ ∨ w.heap.size ≤ k_)) (.slice A1 l1.length c1) l1 from Kd.V_mono hs1 (fun k_ hk => .inl hk))
  have HR2 := Aside0.mk hr2
  have HC2 := Aside0.mk hc2
  clear hr2 hc2
  have HR3 := Aside0.mk hr3
  have HC3 := Aside0.mk hc3
  clear hr3 hc3
  have HB := Aside0.mk (Below.refl w.heap.size w)
  have H : (padlocklaw01_alone.l0 k l1 l2 l3 ([] : List (S36)) 0 a0_0 a0_1) = some r := h
  clear h
  have H' := Aside0.mk H
  clear H
  go_enter Try.func58, Try.ntmps58
  go_wp2_with (first | ((with_reducible refine gate_dst (N := 4) rfl ?_); refine box_event ?hg (N := 4) ?hd (cs := #[.int .i64 a0_0, .int .i64 a0_1]) (t := 23) ?hr ?_; (case hd => rfl); (case hg => rfl); (case hr => first | (go_simp; done) | (go_simp; rfl)); intro gb58101 hg w5 hbox hb; have n0_ := Aside0.mk (Kd.V_below (Kd.V_elderB (by (with_reducible repeat (first | apply Kd.V_alloc | apply Kd.V_drewN | apply Kd.V_drew)); exact HO1.out) gb58101 (Nat.le_of_eq hg.symm)) hb); have n1_ := Aside0.mk (below_step (by repeat (first | (with_reducible first | exact HB.out | apply below_alloc | apply pw_below_drewN | apply below_drew1) | exact HB.out)) hb); have n2_ := Aside0.mk (hbox); have n3_ := Aside0.mk ((by rw [hg]; exact (below_size (by repeat (first | (with_reducible first | exact HB.out | apply below_alloc | apply pw_below_drewN | apply below_drew1) | exact HB.out))) : w.heap.size ≤ gb58101)); have n4_ := Aside0.mk ((by rw [hg]; exact (below_size (by repeat (first | (with_reducible first | exact HB.out | apply below_alloc | apply pw_below_drewN | apply below_drew1) | exact HB.out))) : w.heap.size ≤ gb58101)); clear HO1; clear HB; have HO1 := n0_; have HB := n1_; have BK58101 := n2_; have GW58101 := n3_; have GE58101 := n4_; clear n0_ n1_ n2_ n3_ n4_; clear hb hbox hg))
  go_loopg [9, 10] k (fun kq v9 v10 w' => ∃ (x9_1 : List (S36)) (x10_1 : Int), v10 = .int .i64 x10_1 ∧ Aside0 (padlocklaw01_alone.l0 kq l1 l2 l3 x9_1 x10_1 a0_0 a0_1 = some r) ∧ Aside0 (kq ≤ k) ∧ Aside0 (Kd.V k36 36 w' w.heap.size (fun k_ => (P1_ k_ ∨ w.heap.size ≤ k_) ∧ some k_ ≠ (v9 : Value).ownBlock ∧ k_ ≠ gb58101) (.slice A1 l1.length c1) l1) ∧ Aside0 (Kd.N k36 36 w' w.heap.size (fun k_ => (P1_ k_ ∨ w.heap.size ≤ k_) ∧ k_ ≠ gb58101) v9 x9_1) ∧ Aside0 (w'.heap[gb58101]? = some (.cells #[.int .i64 a0_0, .int .i64 a0_1] 23 (0, 0))) ∧ Aside0 (Below w.heap.size w w'))
  case atStart => exact ⟨(([] : List (S36))), (0), (by first | rfl | (simp; done) | (simp [*]; done)), H', ⟨Nat.le_refl _⟩, ⟨by (with_reducible repeat (first | apply Kd.V_alloc | apply Kd.V_drewN | apply Kd.V_drew)); exact Kd.V_mono HO1.out (fun _ hk => ⟨hk.1, ⟨(by simp [Value.ownBlock]), hk.2⟩⟩)⟩, ⟨by first | exact Kd.S_nil _ _ _ _ _ | exact Kd.N_nil _ _ _ _ _ | exact Kd.V_nil _ _ _ _ _ | exact Kd.Q_nil _ _ _ _ _ | exact Kd.R_nil _ _ _ _ _⟩, ⟨by (with_reducible repeat (first | refine blk_drewN ?_ _ | refine blk_drew ?_ | refine blk_alloc ?_ _)); exact BK58101.out⟩, ⟨by repeat (first | (with_reducible first | exact HB.out | apply below_alloc | apply pw_below_drewN | apply below_drew1 | refine below_set ?_ GE58101.out) | exact HB.out)⟩⟩
  case round =>
    clear H'
    try clear c1
    try clear c2
    try clear p2
    try clear c3
    try clear c5
    obtain ⟨x9_1, x10_1, rfl, HA, HK1, HO_1, HO_9, BK58101, HB⟩ := hrel
    cases gk with
    | zero => exact absurd HA.out (by simp [padlocklaw01_alone.l0])
    | succ k1 =>
      have H := HA.out
      clear HA
      simp only [padlocklaw01_alone.l0] at H
      by_cases c6 : x10_1 < (l2.length : Int)
      · rw [if_pos c6] at H
        have c6b0 : decide (x10_1 < (l2.length : Int)) = true := decide_eq_true c6
        clear c6
        by_cases c7 : 0 ≤ x10_1
        · rw [if_pos c7] at H
          have c7b0 : decide (0 ≤ x10_1) = true := decide_eq_true c7
          clear c7
          by_cases c8 : (rd l2 x10_1) < 0
          · rw [if_pos c8] at H
            have c8b0 : decide ((rd l2 x10_1) < 0) = true := decide_eq_true c8
            clear c8
            obtain rfl := Option.some.inj H
            have p58102 : 0 ≤ (x10_1 : Int) := of_decide_eq_true (by first | (with_reducible assumption) | assumption)
            have q58102 : x10_1 < (l2.length : Int) := of_decide_eq_true (by first | (with_reducible assumption) | assumption)
            obtain ⟨ad58102, e58102, hx58102_0⟩ := Kd.at_int HR2.out x10_1 p58102 q58102
            cases e58102
            replace hx58102_0 := (HB.out.cell (World.block_lt_of_cell? w _ hx58102_0)).trans hx58102_0
            replace p58102 := eq_true p58102
            replace q58102 := eq_true q58102
            go_wp2
            go_ret
            exact ⟨by first | rfl | (simp [errW_none, errW_some] <;> rfl) | (simp [*, errW_none, errW_some] <;> rfl), by repeat (first | (with_reducible first | exact HB.out | apply below_alloc | apply pw_below_drewN | apply below_drew1 | refine below_set ?_ GE58101.out) | exact HB.out)⟩
          · rw [if_neg c8] at H
            have c8b0 : decide ((rd l2 x10_1) < 0) = false := decide_eq_false c8
            clear c8
            by_cases c9 : (rd l2 x10_1) ≥ (l1.length : Int)
            · rw [if_pos c9] at H
              have c9b0 : decide ((l1.length : Int) ≤ (rd l2 x10_1)) = true := decide_eq_true c9
              clear c9
              obtain rfl := Option.some.inj H
              have p58102 : 0 ≤ (x10_1 : Int) := of_decide_eq_true (by first | (with_reducible assumption) | assumption)
              have q58102 : x10_1 < (l2.length : Int) := of_decide_eq_true (by first | (with_reducible assumption) | assumption)
              obtain ⟨ad58102, e58102, hx58102_0⟩ := Kd.at_int HR2.out x10_1 p58102 q58102
              cases e58102
              replace hx58102_0 := (HB.out.cell (World.block_lt_of_cell? w _ hx58102_0)).trans hx58102_0
              replace p58102 := eq_true p58102
              replace q58102 := eq_true q58102
              have p58103 : 0 ≤ (x10_1 : Int) := of_decide_eq_true (by first | (with_reducible assumption) | assumption)
              have q58103 : x10_1 < (l2.length : Int) := of_decide_eq_true (by first | (with_reducible assumption) | assumption)
              obtain ⟨ad58103, e58103, hx58103_0⟩ := Kd.at_int HR2.out x10_1 p58103 q58103
              obtain rfl : ad58102 = ad58103 := (by injection e58103)
              replace hx58103_0 := (HB.out.cell (World.block_lt_of_cell? w _ hx58103_0)).trans hx58103_0
              replace p58103 := eq_true p58103
              replace q58103 := eq_true q58103
              go_wp2
              go_ret
              exact ⟨by first | rfl | (simp [errW_none, errW_some] <;> rfl) | (simp [*, errW_none, errW_some] <;> rfl), by repeat (first | (with_reducible first | exact HB.out | apply below_alloc | apply pw_below_drewN | apply below_drew1 | refine below_set ?_ GE58101.out) | exact HB.out)⟩
            · rw [if_neg c9] at H
              have c9b0 : decide ((l1.length : Int) ≤ (rd l2 x10_1)) = false := decide_eq_false c9
              clear c9
              by_cases c10 : 0 ≤ (rd l2 x10_1)
              · rw [if_pos c10] at H
                have c10b0 : decide (0 ≤ (rd l2 x10_1)) = true := decide_eq_true c10
                clear c10
                by_cases c11 : (rd l2 x10_1) < (l1.length : Int)
                · rw [if_pos c11] at H
                  have c11b0 : decide ((rd l2 x10_1) < (l1.length : Int)) = true := decide_eq_true c11
                  clear c11
                  by_cases c12 : x9_1.length < 1954687338268
                  · rw [if_pos c12] at H
                    have LMc12 := Aside0.mk c12
                    clear c12
                    obtain ⟨y58106, hy58106⟩ : ∃ y_ : List (S36), y_ = (x9_1 ++ [(⟨(rd_T36 l1 (rd l2 x10_1)).f0, (rd_T36 l1 (rd l2 x10_1)).f1, (rd_T36 l1 (rd l2 x10_1)).f2, (rd_T36 l1 (rd l2 x10_1)).f3, (rd_T36 l1 (rd l2 x10_1)).f4, (rd_T36 l1 (rd l2 x10_1)).f5, (rd_T36 l1 (rd l2 x10_1)).f6⟩ : S36)]) := ⟨_, rfl⟩
                    replace H : (padlocklaw01_alone.l0 k1 l1 l2 l3 y58106 (wrap64 (x10_1 + 1)) a0_0 a0_1) = some r := by first | (rw [hy58106]; with_reducible exact H) | (have H2_ := (Option.bind_some _ _).symm.trans H; rw [hy58106]; with_reducible exact H2_) | (have H2_ := (Option.bind_some _ _).symm.trans H; with_reducible exact H2_) | with_reducible exact H | (rw [hy58106]; exact H) | exact H
                    have Ny58106 := Aside0.mk hy58106
                    clear hy58106
                    have H' := Aside0.mk H
                    clear H
                    have p58102 : 0 ≤ (x10_1 : Int) := of_decide_eq_true (by first | (with_reducible assumption) | assumption)
                    have q58102 : x10_1 < (l2.length : Int) := of_decide_eq_true (by first | (with_reducible assumption) | assumption)
                    obtain ⟨ad58102, e58102, hx58102_0⟩ := Kd.at_int HR2.out x10_1 p58102 q58102
                    cases e58102
                    replace hx58102_0 := (HB.out.cell (World.block_lt_of_cell? w _ hx58102_0)).trans hx58102_0
                    replace p58102 := eq_true p58102
                    replace q58102 := eq_true q58102
                    have p58103 : 0 ≤ (x10_1 : Int) := of_decide_eq_true (by first | (with_reducible assumption) | assumption)
                    have q58103 : x10_1 < (l2.length : Int) := of_decide_eq_true (by first | (with_reducible assumption) | assumption)
                    obtain ⟨ad58103, e58103, hx58103_0⟩ := Kd.at_int HR2.out x10_1 p58103 q58103
                    obtain rfl : ad58102 = ad58103 := (by injection e58103)
                    replace hx58103_0 := (HB.out.cell (World.block_lt_of_cell? w _ hx58103_0)).trans hx58103_0
                    replace p58103 := eq_true p58103
                    replace q58103 := eq_true q58103
                    have p58104 : 0 ≤ (x10_1 : Int) := of_decide_eq_true (by first | (with_reducible assumption) | assumption)
                    have q58104 : x10_1 < (l2.length : Int) := of_decide_eq_true (by first | (with_reducible assumption) | assumption)
                    obtain ⟨ad58104, e58104, hx58104_0⟩ := Kd.at_int HR2.out x10_1 p58104 q58104
                    obtain rfl : ad58102 = ad58104 := (by injection e58104)
                    replace hx58104_0 := (HB.out.cell (World.block_lt_of_cell? w _ hx58104_0)).trans hx58104_0
                    replace p58104 := eq_true p58104
                    replace q58104 := eq_true q58104
                    have p58105 : 0 ≤ ((rd l2 x10_1) : Int) := of_decide_eq_true (by first | (with_reducible assumption) | assumption)
                    have q58105 : (rd l2 x10_1) < (l1.length : Int) := of_decide_eq_true (by first | (with_reducible assumption) | assumption)
                    obtain ⟨ad58105, A58105_5, c58105_5, e58105, hx58105_0, hx58105_1, hx58105_2, hx58105_3, hx58105_4, hx58105_5, hx58105_6, hl58105_5, hi58105_5⟩ := at_T36 (Kd.V_reads' HO_1.out).2.2 (rd l2 x10_1) p58105 q58105
                    cases e58105
                    obtain ⟨ce58105, hce58105, hMe58105, hcc58105⟩ := Kd.V_get HO_1.out z36 (rd l2 x10_1) p58105 (by first | exact q58105 | exact of_decide_eq_true (by first | (with_reducible assumption) | assumption) | (have e_ := (Kd.V_reads' HO_1.out).1; omega))
                    obtain ⟨ua58105_5, uc58105_5, rfl, ul58105_5, ge58105_5⟩ := k36_openF hMe58105
                    have hv58105_5 := hcc58105 5 _ rfl
                    rw [add_field _ _ 5 (by omega)] at hv58105_5
                    replace hv58105_5 := Option.some.inj (hv58105_5.symm.trans hx58105_5)
                    injection hv58105_5 with hva_ hvn_ hvc_
                    rw [hva_] at ge58105_5
                    rw [hvc_] at ul58105_5
                    have HL58105_5 := Aside0.mk (show Kd.V (Kd.int .i64) 3 _ w.heap.size _ _ ((rd_T36 l1 (rd l2 x10_1)).f5) from Kd.V_mk ul58105_5 ge58105_5)
                    clear hva_ hvn_ hvc_ ge58105_5 ul58105_5
                    clear hcc58105 hce58105
                    have HR58105_5 := Aside0.mk hi58105_5
                    have HC58105_5 := Aside0.mk hl58105_5
                    clear hi58105_5 hl58105_5
                    replace p58105 := eq_true p58105
                    replace q58105 := eq_true q58105
                    go_wp2_with (first | ((with_reducible refine gate_builtin (b := .append) (xs := #[.tmp 36, .tmp 44]) rfl ?_); at_builtin; refine Kd.N_append k36 (w0 := w) w.heap.size rfl (.tmp 36) (.tmp 44) 31 36 (.agg #[(.int .i64 0), (.int .i64 0), (.int .i64 0), (.int .i64 0), (.int .i64 0), (.slice none 0 0), (.bool false)]) 72 rfl Try.underlying31 info36 rfl (by decide) (by omega) u9 x9_1 (⟨(rd_T36 l1 (rd l2 x10_1)).f0, (rd_T36 l1 (rd l2 x10_1)).f1, (rd_T36 l1 (rd l2 x10_1)).f2, (rd_T36 l1 (rd l2 x10_1)).f3, (rd_T36 l1 (rd l2 x10_1)).f4, (rd_T36 l1 (rd l2 x10_1)).f5, (rd_T36 l1 (rd l2 x10_1)).f6⟩ : S36) [.int .i64 ((rd_T36 l1 (rd l2 x10_1)).f0), .int .i64 ((rd_T36 l1 (rd l2 x10_1)).f1), .int .i64 ((rd_T36 l1 (rd l2 x10_1)).f2), .int .i64 ((rd_T36 l1 (rd l2 x10_1)).f3), .int .i64 ((rd_T36 l1 (rd l2 x10_1)).f4), .slice A58105_5 ((rd_T36 l1 (rd l2 x10_1)).f5).length c58105_5, .bool ((rd_T36 l1 (rd l2 x10_1)).f6)] (fun k_ => (P1_ k_ ∨ w.heap.size ≤ k_) ∧ k_ ≠ gb58101) (fun k_ => ((fun k_ => (P1_ k_ ∨ w.heap.size ≤ k_) ∧ k_ ≠ gb58101)) k_ ∧ some k_ ≠ (u9 : Value).ownBlock) rfl rfl ?aP (fun _ hk => hk) ?aF ?aO ?aB ?aS ?aL ?_; (case aP => exact (k36_mkF _ _ (⟨(rd_T36 l1 (rd l2 x10_1)).f0, (rd_T36 l1 (rd l2 x10_1)).f1, (rd_T36 l1 (rd l2 x10_1)).f2, (rd_T36 l1 (rd l2 x10_1)).f3, (rd_T36 l1 (rd l2 x10_1)).f4, (rd_T36 l1 (rd l2 x10_1)).f5, (rd_T36 l1 (rd l2 x10_1)).f6⟩ : S36) (Kd.V_reads' (Kd.V_mono (ok' := (fun k_ => ((fun k_ => (P1_ k_ ∨ w.heap.size ≤ k_) ∧ k_ ≠ gb58101)) k_ ∧ some k_ ≠ (u9 : Value).ownBlock)) (HL58105_5.out) (fun k_ hk => ⟨⟨hk.1, hk.2.2⟩, hk.2.1⟩))).2.1 (Kd.V_F (Kd.V_mono (ok' := (fun k_ => ((fun k_ => (P1_ k_ ∨ w.heap.size ≤ k_) ∧ k_ ≠ gb58101)) k_ ∧ some k_ ≠ (u9 : Value).ownBlock)) (HL58105_5.out) (fun k_ hk => ⟨⟨hk.1, hk.2.2⟩, hk.2.1⟩))))); (case aB => exact (by repeat (first | (with_reducible first | exact HB.out | apply below_alloc | apply pw_below_drewN | apply below_drew1 | refine below_set ?_ GE58101.out) | exact HB.out))); (case aF => exact (fun k_ hk => ⟨(.inr (Nat.le_trans (below_size (by repeat (first | (with_reducible first | exact HB.out | apply below_alloc | apply pw_below_drewN | apply below_drew1 | refine below_set ?_ GE58101.out) | exact HB.out))) hk)), Kd.freshB (g := gb58101) (o := .cells #[.int .i64 a0_0, .int .i64 a0_1] 23 (0, 0)) (by (with_reducible repeat (first | refine blk_drewN ?_ _ | refine blk_drew ?_ | refine blk_alloc ?_ _)); exact BK58101.out) k_ hk⟩)); (case aO => exact (by (with_reducible repeat (first | apply Kd.N_alloc | apply Kd.N_drewN | apply Kd.N_drew)); exact HO_9.out)); (case aS => exact (below_size (by repeat (first | (with_reducible first | exact HB.out | apply below_alloc | apply pw_below_drewN | apply below_drew1 | refine below_set ?_ GE58101.out) | exact HB.out)))); (case aL => have := LMc12.out; omega); intro v58107 w13 ho hb hg hat; rw [← Ny58106.out] at ho; have n0_ := Aside0.mk (Kd.V_afterv (ok := (fun k_ => (P1_ k_ ∨ w.heap.size ≤ k_) ∧ k_ ≠ gb58101)) (by (with_reducible repeat (first | apply Kd.V_alloc | apply Kd.V_drewN | apply Kd.V_drew)); exact Kd.V_mono HO_1.out (fun _ hk => ⟨⟨hk.1, hk.2.2⟩, hk.2.1⟩)) hg hat); have n1_ := Aside0.mk (blk_grown (g := gb58101) (o := .cells #[.int .i64 a0_0, .int .i64 a0_1] 23 (0, 0)) (by (with_reducible repeat (first | refine blk_drewN ?_ _ | refine blk_drew ?_ | refine blk_alloc ?_ _)); exact BK58101.out) hg (Kd.N_ne HO_9.out BK58101.out (by decide))); have n2_ := Aside0.mk (Kd.V_afterv (ok := (fun k_ => (P1_ k_ ∨ w.heap.size ≤ k_) ∧ k_ ≠ gb58101)) (by (with_reducible repeat (first | apply Kd.V_alloc | apply Kd.V_drewN | apply Kd.V_drew)); exact Kd.V_mono HL58105_5.out (fun _ hk => ⟨⟨hk.1, hk.2.2⟩, hk.2.1⟩)) hg hat); have n3_ := Aside0.mk (hb); have n4_ := Aside0.mk (ho); clear HO_1; clear BK58101; clear HL58105_5; clear HB; clear HO_9; have HO_1 := n0_; have BK58101 := n1_; have HL58105_5 := n2_; have HB := n3_; have HO58108 := n4_; clear n0_ n1_ n2_ n3_ n4_; clear ho hb hg hat))
                    go_roundg k1
                    case measure => have := HK1.out; omega
                    case rel => exact ⟨(y58106), (wrap64 (x10_1 + 1)), (by first | rfl | (simp; done) | (simp [*]; done)), H', ⟨by have := HK1.out; omega⟩, ⟨by (with_reducible repeat (first | apply Kd.V_alloc | apply Kd.V_drewN | apply Kd.V_drew)); exact Kd.V_mono HO_1.out (fun _ hk => ⟨hk.1.1, ⟨hk.2, hk.1.2⟩⟩)⟩, ⟨by (with_reducible repeat (first | apply Kd.N_alloc | apply Kd.N_drewN | apply Kd.N_drew)); exact HO58108.out⟩, ⟨by (with_reducible repeat (first | refine blk_drewN ?_ _ | refine blk_drew ?_ | refine blk_alloc ?_ _)); exact BK58101.out⟩, ⟨by repeat (first | (with_reducible first | exact HB.out | apply below_alloc | apply pw_below_drewN | apply below_drew1 | refine below_set ?_ GE58101.out) | exact HB.out)⟩⟩
                  · rw [if_neg c12] at H
                    exact absurd H (by simp)
                · rw [if_neg c11] at H
                  exact absurd H (by simp)
              · rw [if_neg c10] at H
                exact absurd H (by simp)
        · rw [if_neg c7] at H
          exact absurd H (by simp)
      · rw [if_neg c6] at H
        have c6b0 : decide (x10_1 < (l2.length : Int)) = false := decide_eq_false c6
        clear c6
        replace H := Option.bind_eq_some_iff.mp H
        obtain ⟨⟨t58109, t58110⟩, A140, H⟩ := H
        replace H : ((codes_Fits.f a0_0 a0_1 x9_1 l3).bind fun bt58111 => (if t58110 = 0 then (if bt58111.2.2 = 0 then (if t58109 = 1 then (some bt58111.2.1) else (some false)) else (some false)) else (some false))) = some r := H
        have A14 := Aside0.mk A140
        clear A140
        replace H := Option.bind_eq_some_iff.mp H
        obtain ⟨⟨t58111, t58112, t58113⟩, A150, H⟩ := H
        replace H : (if t58110 = 0 then (if t58113 = 0 then (if t58109 = 1 then (some t58112) else (some false)) else (some false)) else (some false)) = some r := H
        have A15 := Aside0.mk A150
        clear A150
        by_cases c16 : t58110 = 0
        · rw [if_pos c16] at H
          have c16b0 : (t58110 == 0) = true := beq_iff_eq.mpr c16
          have c16b1 : (t58110 != 0) = false := bne_eq_false_iff_eq.mpr c16
          clear c16
          by_cases c17 : t58113 = 0
          · rw [if_pos c17] at H
            have c17b0 : (t58113 == 0) = true := beq_iff_eq.mpr c17
            have c17b1 : (t58113 != 0) = false := bne_eq_false_iff_eq.mpr c17
            clear c17
            by_cases c18 : t58109 = 1
            · rw [if_pos c18] at H
              have c18b0 : (t58109 == 1) = true := beq_iff_eq.mpr c18
              have c18b1 : (t58109 != 1) = false := bne_eq_false_iff_eq.mpr c18
              clear c18
              obtain rfl := Option.some.inj H
              have hcz19_0 : wr.cell? ⟨gb58101, 0, none⟩ = some (.int .i64 a0_0) := (blk_cell BK58101.out 0).trans rfl
              have hcz19_1 : wr.cell? ⟨gb58101, 1, none⟩ = some (.int .i64 a0_1) := (blk_cell BK58101.out 1).trans rfl
              have hfz19_0 := blk_frozen BK58101.out 0
              have hfz19_1 := blk_frozen BK58101.out 1
              obtain ⟨Ao20, co20, eo20⟩ := Kd.N_slice HO_9.out
              subst eo20
              go_wp2_with (first | ((with_reducible refine gate_callee (f := 35) rfl ?_); refine goesL_ (some 49) rfl rfl Try.func35 (by kernel_rfl) rfl #[.agg #[.int .i64 a0_0, .int .i64 a0_1], .slice Ao20 x9_1.length co20] rfl (by (try simp only [List.map_toArray, List.map_cons, List.map_nil]); first | done | rfl | (simp only [List.length_drop, List.length_take]; rfl)) ?_; (with_reducible refine (codes_Count.calls a0_0 a0_1 _ _ x9_1 t58109 t58110 _ ?side1 ?side2 A14.out).mono ?_); (case side1 => repeat (first | exact (Kd.N_reads' HO_9.out).2.2 | (with_reducible refine Kd.C_alloc ?_ _) | (with_reducible refine Kd.C_drewN ?_ _) | (with_reducible refine Kd.C_drew ?_))); (case side2 => exact (Kd.N_reads' HO_9.out).2.1); rintro e w21 ⟨rfl, hb⟩; refine ⟨_, rfl, ?_⟩; have n0_ := Aside0.mk (Kd.V_below (by (with_reducible repeat (first | apply Kd.V_alloc | apply Kd.V_drewN | apply Kd.V_drew)); exact HO_1.out) hb); have n1_ := Aside0.mk (Kd.N_below (by (with_reducible repeat (first | apply Kd.N_alloc | apply Kd.N_drewN | apply Kd.N_drew)); exact HO_9.out) hb); have n2_ := Aside0.mk (blk_below (g := gb58101) (o := .cells #[.int .i64 a0_0, .int .i64 a0_1] 23 (0, 0)) (by (with_reducible repeat (first | refine blk_drewN ?_ _ | refine blk_drew ?_ | refine blk_alloc ?_ _)); exact BK58101.out) hb); have n3_ := Aside0.mk (below_step (by repeat (first | (with_reducible first | exact HB.out | apply below_alloc | apply pw_below_drewN | apply below_drew1 | refine below_set ?_ GE58101.out) | exact HB.out)) hb); clear HO_1; clear HO_9; clear BK58101; clear HB; have HO_1 := n0_; have HO_9 := n1_; have BK58101 := n2_; have HB := n3_; clear n0_ n1_ n2_ n3_; (try clear hb); (try clear hb2); (try clear hk); (try clear hi); have hcz22_0 : w21.cell? ⟨gb58101, 0, none⟩ = some (.int .i64 a0_0) := (blk_cell BK58101.out 0).trans rfl; have hcz22_1 : w21.cell? ⟨gb58101, 1, none⟩ = some (.int .i64 a0_1) := (blk_cell BK58101.out 1).trans rfl; have hfz22_0 := blk_frozen BK58101.out 0; have hfz22_1 := blk_frozen BK58101.out 1) | ((with_reducible refine gate_callee (f := 22) rfl ?_); refine goesL_ (some 56) rfl rfl Try.func22 (by kernel_rfl) rfl #[.agg #[.int .i64 a0_0, .int .i64 a0_1], .slice Ao20 x9_1.length co20, .slice A3 l3.length c3] rfl (by (try simp only [List.map_toArray, List.map_cons, List.map_nil]); first | done | rfl | (simp only [List.length_drop, List.length_take]; rfl)) ?_; (with_reducible refine (codes_Fits.calls a0_0 a0_1 _ _ x9_1 _ _ l3 t58111 t58112 t58113 _ ?side1 ?side2 ?side3 ?side4 A15.out).mono ?_); (case side1 => repeat (first | exact (Kd.N_reads' HO_9.out).2.2 | (with_reducible refine Kd.C_alloc ?_ _) | (with_reducible refine Kd.C_drewN ?_ _) | (with_reducible refine Kd.C_drew ?_))); (case side2 => exact (Kd.N_reads' HO_9.out).2.1); (case side3 => repeat (first | exact (Kd.C_below HR3.out HB.out) | (with_reducible refine Kd.C_alloc ?_ _) | (with_reducible refine Kd.C_drewN ?_ _) | (with_reducible refine Kd.C_drew ?_))); (case side4 => exact HC3.out); rintro e w23 ⟨rfl, hb⟩; refine ⟨_, rfl, ?_⟩; have n0_ := Aside0.mk (Kd.V_below (by (with_reducible repeat (first | apply Kd.V_alloc | apply Kd.V_drewN | apply Kd.V_drew)); exact HO_1.out) hb); have n1_ := Aside0.mk (Kd.N_below (by (with_reducible repeat (first | apply Kd.N_alloc | apply Kd.N_drewN | apply Kd.N_drew)); exact HO_9.out) hb); have n2_ := Aside0.mk (blk_below (g := gb58101) (o := .cells #[.int .i64 a0_0, .int .i64 a0_1] 23 (0, 0)) (by (with_reducible repeat (first | refine blk_drewN ?_ _ | refine blk_drew ?_ | refine blk_alloc ?_ _)); exact BK58101.out) hb); have n3_ := Aside0.mk (below_step (by repeat (first | (with_reducible first | exact HB.out | apply below_alloc | apply pw_below_drewN | apply below_drew1 | refine below_set ?_ GE58101.out) | exact HB.out)) hb); clear HO_1; clear HO_9; clear BK58101; clear HB; have HO_1 := n0_; have HO_9 := n1_; have BK58101 := n2_; have HB := n3_; clear n0_ n1_ n2_ n3_; (try clear hb); (try clear hb2); (try clear hk); (try clear hi)))
              go_ret
              exact ⟨by first | rfl | (simp [errW_none, errW_some] <;> rfl) | (simp [*, errW_none, errW_some] <;> rfl), by repeat (first | (with_reducible first | exact HB.out | apply below_alloc | apply pw_below_drewN | apply below_drew1 | refine below_set ?_ GE58101.out) | exact HB.out)⟩
            · rw [if_neg c18] at H
              have c18b0 : (t58109 == 1) = false := beq_eq_false_iff_ne.mpr c18
              have c18b1 : (t58109 != 1) = true := bne_iff_ne.mpr c18
              obtain rfl := Option.some.inj H
              have hcz24_0 : wr.cell? ⟨gb58101, 0, none⟩ = some (.int .i64 a0_0) := (blk_cell BK58101.out 0).trans rfl
              have hcz24_1 : wr.cell? ⟨gb58101, 1, none⟩ = some (.int .i64 a0_1) := (blk_cell BK58101.out 1).trans rfl
              have hfz24_0 := blk_frozen BK58101.out 0
              have hfz24_1 := blk_frozen BK58101.out 1
              obtain ⟨Ao25, co25, eo25⟩ := Kd.N_slice HO_9.out
              subst eo25
              go_wp2_with (first | ((with_reducible refine gate_callee (f := 35) rfl ?_); refine goesL_ (some 49) rfl rfl Try.func35 (by kernel_rfl) rfl #[.agg #[.int .i64 a0_0, .int .i64 a0_1], .slice Ao25 x9_1.length co25] rfl (by (try simp only [List.map_toArray, List.map_cons, List.map_nil]); first | done | rfl | (simp only [List.length_drop, List.length_take]; rfl)) ?_; (with_reducible refine (codes_Count.calls a0_0 a0_1 _ _ x9_1 t58109 t58110 _ ?side1 ?side2 A14.out).mono ?_); (case side1 => repeat (first | exact (Kd.N_reads' HO_9.out).2.2 | (with_reducible refine Kd.C_alloc ?_ _) | (with_reducible refine Kd.C_drewN ?_ _) | (with_reducible refine Kd.C_drew ?_))); (case side2 => exact (Kd.N_reads' HO_9.out).2.1); rintro e w26 ⟨rfl, hb⟩; refine ⟨_, rfl, ?_⟩; have n0_ := Aside0.mk (Kd.V_below (by (with_reducible repeat (first | apply Kd.V_alloc | apply Kd.V_drewN | apply Kd.V_drew)); exact HO_1.out) hb); have n1_ := Aside0.mk (Kd.N_below (by (with_reducible repeat (first | apply Kd.N_alloc | apply Kd.N_drewN | apply Kd.N_drew)); exact HO_9.out) hb); have n2_ := Aside0.mk (blk_below (g := gb58101) (o := .cells #[.int .i64 a0_0, .int .i64 a0_1] 23 (0, 0)) (by (with_reducible repeat (first | refine blk_drewN ?_ _ | refine blk_drew ?_ | refine blk_alloc ?_ _)); exact BK58101.out) hb); have n3_ := Aside0.mk (below_step (by repeat (first | (with_reducible first | exact HB.out | apply below_alloc | apply pw_below_drewN | apply below_drew1 | refine below_set ?_ GE58101.out) | exact HB.out)) hb); clear HO_1; clear HO_9; clear BK58101; clear HB; have HO_1 := n0_; have HO_9 := n1_; have BK58101 := n2_; have HB := n3_; clear n0_ n1_ n2_ n3_; (try clear hb); (try clear hb2); (try clear hk); (try clear hi); have hcz27_0 : w26.cell? ⟨gb58101, 0, none⟩ = some (.int .i64 a0_0) := (blk_cell BK58101.out 0).trans rfl; have hcz27_1 : w26.cell? ⟨gb58101, 1, none⟩ = some (.int .i64 a0_1) := (blk_cell BK58101.out 1).trans rfl; have hfz27_0 := blk_frozen BK58101.out 0; have hfz27_1 := blk_frozen BK58101.out 1) | ((with_reducible refine gate_callee (f := 22) rfl ?_); refine goesL_ (some 56) rfl rfl Try.func22 (by kernel_rfl) rfl #[.agg #[.int .i64 a0_0, .int .i64 a0_1], .slice Ao25 x9_1.length co25, .slice A3 l3.length c3] rfl (by (try simp only [List.map_toArray, List.map_cons, List.map_nil]); first | done | rfl | (simp only [List.length_drop, List.length_take]; rfl)) ?_; (with_reducible refine (codes_Fits.calls a0_0 a0_1 _ _ x9_1 _ _ l3 t58111 t58112 t58113 _ ?side1 ?side2 ?side3 ?side4 A15.out).mono ?_); (case side1 => repeat (first | exact (Kd.N_reads' HO_9.out).2.2 | (with_reducible refine Kd.C_alloc ?_ _) | (with_reducible refine Kd.C_drewN ?_ _) | (with_reducible refine Kd.C_drew ?_))); (case side2 => exact (Kd.N_reads' HO_9.out).2.1); (case side3 => repeat (first | exact (Kd.C_below HR3.out HB.out) | (with_reducible refine Kd.C_alloc ?_ _) | (with_reducible refine Kd.C_drewN ?_ _) | (with_reducible refine Kd.C_drew ?_))); (case side4 => exact HC3.out); rintro e w28 ⟨rfl, hb⟩; refine ⟨_, rfl, ?_⟩; have n0_ := Aside0.mk (Kd.V_below (by (with_reducible repeat (first | apply Kd.V_alloc | apply Kd.V_drewN | apply Kd.V_drew)); exact HO_1.out) hb); have n1_ := Aside0.mk (Kd.N_below (by (with_reducible repeat (first | apply Kd.N_alloc | apply Kd.N_drewN | apply Kd.N_drew)); exact HO_9.out) hb); have n2_ := Aside0.mk (blk_below (g := gb58101) (o := .cells #[.int .i64 a0_0, .int .i64 a0_1] 23 (0, 0)) (by (with_reducible repeat (first | refine blk_drewN ?_ _ | refine blk_drew ?_ | refine blk_alloc ?_ _)); exact BK58101.out) hb); have n3_ := Aside0.mk (below_step (by repeat (first | (with_reducible first | exact HB.out | apply below_alloc | apply pw_below_drewN | apply below_drew1 | refine below_set ?_ GE58101.out) | exact HB.out)) hb); clear HO_1; clear HO_9; clear BK58101; clear HB; have HO_1 := n0_; have HO_9 := n1_; have BK58101 := n2_; have HB := n3_; clear n0_ n1_ n2_ n3_; (try clear hb); (try clear hb2); (try clear hk); (try clear hi)))
              go_ret
              exact ⟨by first | rfl | (simp [errW_none, errW_some] <;> rfl) | (simp [*, errW_none, errW_some] <;> rfl), by repeat (first | (with_reducible first | exact HB.out | apply below_alloc | apply pw_below_drewN | apply below_drew1 | refine below_set ?_ GE58101.out) | exact HB.out)⟩
          · rw [if_neg c17] at H
            have c17b0 : (t58113 == 0) = false := beq_eq_false_iff_ne.mpr c17
            have c17b1 : (t58113 != 0) = true := bne_iff_ne.mpr c17
            obtain rfl := Option.some.inj H
            have hcz29_0 : wr.cell? ⟨gb58101, 0, none⟩ = some (.int .i64 a0_0) := (blk_cell BK58101.out 0).trans rfl
            have hcz29_1 : wr.cell? ⟨gb58101, 1, none⟩ = some (.int .i64 a0_1) := (blk_cell BK58101.out 1).trans rfl
            have hfz29_0 := blk_frozen BK58101.out 0
            have hfz29_1 := blk_frozen BK58101.out 1
            obtain ⟨Ao30, co30, eo30⟩ := Kd.N_slice HO_9.out
            subst eo30
            go_wp2_with (first | ((with_reducible refine gate_callee (f := 35) rfl ?_); refine goesL_ (some 49) rfl rfl Try.func35 (by kernel_rfl) rfl #[.agg #[.int .i64 a0_0, .int .i64 a0_1], .slice Ao30 x9_1.length co30] rfl (by (try simp only [List.map_toArray, List.map_cons, List.map_nil]); first | done | rfl | (simp only [List.length_drop, List.length_take]; rfl)) ?_; (with_reducible refine (codes_Count.calls a0_0 a0_1 _ _ x9_1 t58109 t58110 _ ?side1 ?side2 A14.out).mono ?_); (case side1 => repeat (first | exact (Kd.N_reads' HO_9.out).2.2 | (with_reducible refine Kd.C_alloc ?_ _) | (with_reducible refine Kd.C_drewN ?_ _) | (with_reducible refine Kd.C_drew ?_))); (case side2 => exact (Kd.N_reads' HO_9.out).2.1); rintro e w31 ⟨rfl, hb⟩; refine ⟨_, rfl, ?_⟩; have n0_ := Aside0.mk (Kd.V_below (by (with_reducible repeat (first | apply Kd.V_alloc | apply Kd.V_drewN | apply Kd.V_drew)); exact HO_1.out) hb); have n1_ := Aside0.mk (Kd.N_below (by (with_reducible repeat (first | apply Kd.N_alloc | apply Kd.N_drewN | apply Kd.N_drew)); exact HO_9.out) hb); have n2_ := Aside0.mk (blk_below (g := gb58101) (o := .cells #[.int .i64 a0_0, .int .i64 a0_1] 23 (0, 0)) (by (with_reducible repeat (first | refine blk_drewN ?_ _ | refine blk_drew ?_ | refine blk_alloc ?_ _)); exact BK58101.out) hb); have n3_ := Aside0.mk (below_step (by repeat (first | (with_reducible first | exact HB.out | apply below_alloc | apply pw_below_drewN | apply below_drew1 | refine below_set ?_ GE58101.out) | exact HB.out)) hb); clear HO_1; clear HO_9; clear BK58101; clear HB; have HO_1 := n0_; have HO_9 := n1_; have BK58101 := n2_; have HB := n3_; clear n0_ n1_ n2_ n3_; (try clear hb); (try clear hb2); (try clear hk); (try clear hi); have hcz32_0 : w31.cell? ⟨gb58101, 0, none⟩ = some (.int .i64 a0_0) := (blk_cell BK58101.out 0).trans rfl; have hcz32_1 : w31.cell? ⟨gb58101, 1, none⟩ = some (.int .i64 a0_1) := (blk_cell BK58101.out 1).trans rfl; have hfz32_0 := blk_frozen BK58101.out 0; have hfz32_1 := blk_frozen BK58101.out 1) | ((with_reducible refine gate_callee (f := 22) rfl ?_); refine goesL_ (some 56) rfl rfl Try.func22 (by kernel_rfl) rfl #[.agg #[.int .i64 a0_0, .int .i64 a0_1], .slice Ao30 x9_1.length co30, .slice A3 l3.length c3] rfl (by (try simp only [List.map_toArray, List.map_cons, List.map_nil]); first | done | rfl | (simp only [List.length_drop, List.length_take]; rfl)) ?_; (with_reducible refine (codes_Fits.calls a0_0 a0_1 _ _ x9_1 _ _ l3 t58111 t58112 t58113 _ ?side1 ?side2 ?side3 ?side4 A15.out).mono ?_); (case side1 => repeat (first | exact (Kd.N_reads' HO_9.out).2.2 | (with_reducible refine Kd.C_alloc ?_ _) | (with_reducible refine Kd.C_drewN ?_ _) | (with_reducible refine Kd.C_drew ?_))); (case side2 => exact (Kd.N_reads' HO_9.out).2.1); (case side3 => repeat (first | exact (Kd.C_below HR3.out HB.out) | (with_reducible refine Kd.C_alloc ?_ _) | (with_reducible refine Kd.C_drewN ?_ _) | (with_reducible refine Kd.C_drew ?_))); (case side4 => exact HC3.out); rintro e w33 ⟨rfl, hb⟩; refine ⟨_, rfl, ?_⟩; have n0_ := Aside0.mk (Kd.V_below (by (with_reducible repeat (first | apply Kd.V_alloc | apply Kd.V_drewN | apply Kd.V_drew)); exact HO_1.out) hb); have n1_ := Aside0.mk (Kd.N_below (by (with_reducible repeat (first | apply Kd.N_alloc | apply Kd.N_drewN | apply Kd.N_drew)); exact HO_9.out) hb); have n2_ := Aside0.mk (blk_below (g := gb58101) (o := .cells #[.int .i64 a0_0, .int .i64 a0_1] 23 (0, 0)) (by (with_reducible repeat (first | refine blk_drewN ?_ _ | refine blk_drew ?_ | refine blk_alloc ?_ _)); exact BK58101.out) hb); have n3_ := Aside0.mk (below_step (by repeat (first | (with_reducible first | exact HB.out | apply below_alloc | apply pw_below_drewN | apply below_drew1 | refine below_set ?_ GE58101.out) | exact HB.out)) hb); clear HO_1; clear HO_9; clear BK58101; clear HB; have HO_1 := n0_; have HO_9 := n1_; have BK58101 := n2_; have HB := n3_; clear n0_ n1_ n2_ n3_; (try clear hb); (try clear hb2); (try clear hk); (try clear hi)))
            go_ret
            exact ⟨by first | rfl | (simp [errW_none, errW_some] <;> rfl) | (simp [*, errW_none, errW_some] <;> rfl), by repeat (first | (with_reducible first | exact HB.out | apply below_alloc | apply pw_below_drewN | apply below_drew1 | refine below_set ?_ GE58101.out) | exact HB.out)⟩
        · rw [if_neg c16] at H
          have c16b0 : (t58110 == 0) = false := beq_eq_false_iff_ne.mpr c16
          have c16b1 : (t58110 != 0) = true := bne_iff_ne.mpr c16
          obtain rfl := Option.some.inj H
          have hcz34_0 : wr.cell? ⟨gb58101, 0, none⟩ = some (.int .i64 a0_0) := (blk_cell BK58101.out 0).trans rfl
          have hcz34_1 : wr.cell? ⟨gb58101, 1, none⟩ = some (.int .i64 a0_1) := (blk_cell BK58101.out 1).trans rfl
          have hfz34_0 := blk_frozen BK58101.out 0
          have hfz34_1 := blk_frozen BK58101.out 1
          obtain ⟨Ao35, co35, eo35⟩ := Kd.N_slice HO_9.out
          subst eo35
          go_wp2_with (first | ((with_reducible refine gate_callee (f := 35) rfl ?_); refine goesL_ (some 49) rfl rfl Try.func35 (by kernel_rfl) rfl #[.agg #[.int .i64 a0_0, .int .i64 a0_1], .slice Ao35 x9_1.length co35] rfl (by (try simp only [List.map_toArray, List.map_cons, List.map_nil]); first | done | rfl | (simp only [List.length_drop, List.length_take]; rfl)) ?_; (with_reducible refine (codes_Count.calls a0_0 a0_1 _ _ x9_1 t58109 t58110 _ ?side1 ?side2 A14.out).mono ?_); (case side1 => repeat (first | exact (Kd.N_reads' HO_9.out).2.2 | (with_reducible refine Kd.C_alloc ?_ _) | (with_reducible refine Kd.C_drewN ?_ _) | (with_reducible refine Kd.C_drew ?_))); (case side2 => exact (Kd.N_reads' HO_9.out).2.1); rintro e w36 ⟨rfl, hb⟩; refine ⟨_, rfl, ?_⟩; have n0_ := Aside0.mk (Kd.V_below (by (with_reducible repeat (first | apply Kd.V_alloc | apply Kd.V_drewN | apply Kd.V_drew)); exact HO_1.out) hb); have n1_ := Aside0.mk (Kd.N_below (by (with_reducible repeat (first | apply Kd.N_alloc | apply Kd.N_drewN | apply Kd.N_drew)); exact HO_9.out) hb); have n2_ := Aside0.mk (blk_below (g := gb58101) (o := .cells #[.int .i64 a0_0, .int .i64 a0_1] 23 (0, 0)) (by (with_reducible repeat (first | refine blk_drewN ?_ _ | refine blk_drew ?_ | refine blk_alloc ?_ _)); exact BK58101.out) hb); have n3_ := Aside0.mk (below_step (by repeat (first | (with_reducible first | exact HB.out | apply below_alloc | apply pw_below_drewN | apply below_drew1 | refine below_set ?_ GE58101.out) | exact HB.out)) hb); clear HO_1; clear HO_9; clear BK58101; clear HB; have HO_1 := n0_; have HO_9 := n1_; have BK58101 := n2_; have HB := n3_; clear n0_ n1_ n2_ n3_; (try clear hb); (try clear hb2); (try clear hk); (try clear hi); have hcz37_0 : w36.cell? ⟨gb58101, 0, none⟩ = some (.int .i64 a0_0) := (blk_cell BK58101.out 0).trans rfl; have hcz37_1 : w36.cell? ⟨gb58101, 1, none⟩ = some (.int .i64 a0_1) := (blk_cell BK58101.out 1).trans rfl; have hfz37_0 := blk_frozen BK58101.out 0; have hfz37_1 := blk_frozen BK58101.out 1) | ((with_reducible refine gate_callee (f := 22) rfl ?_); refine goesL_ (some 56) rfl rfl Try.func22 (by kernel_rfl) rfl #[.agg #[.int .i64 a0_0, .int .i64 a0_1], .slice Ao35 x9_1.length co35, .slice A3 l3.length c3] rfl (by (try simp only [List.map_toArray, List.map_cons, List.map_nil]); first | done | rfl | (simp only [List.length_drop, List.length_take]; rfl)) ?_; (with_reducible refine (codes_Fits.calls a0_0 a0_1 _ _ x9_1 _ _ l3 t58111 t58112 t58113 _ ?side1 ?side2 ?side3 ?side4 A15.out).mono ?_); (case side1 => repeat (first | exact (Kd.N_reads' HO_9.out).2.2 | (with_reducible refine Kd.C_alloc ?_ _) | (with_reducible refine Kd.C_drewN ?_ _) | (with_reducible refine Kd.C_drew ?_))); (case side2 => exact (Kd.N_reads' HO_9.out).2.1); (case side3 => repeat (first | exact (Kd.C_below HR3.out HB.out) | (with_reducible refine Kd.C_alloc ?_ _) | (with_reducible refine Kd.C_drewN ?_ _) | (with_reducible refine Kd.C_drew ?_))); (case side4 => exact HC3.out); rintro e w38 ⟨rfl, hb⟩; refine ⟨_, rfl, ?_⟩; have n0_ := Aside0.mk (Kd.V_below (by (with_reducible repeat (first | apply Kd.V_alloc | apply Kd.V_drewN | apply Kd.V_drew)); exact HO_1.out) hb); have n1_ := Aside0.mk (Kd.N_below (by (with_reducible repeat (first | apply Kd.N_alloc | apply Kd.N_drewN | apply Kd.N_drew)); exact HO_9.out) hb); have n2_ := Aside0.mk (blk_below (g := gb58101) (o := .cells #[.int .i64 a0_0, .int .i64 a0_1] 23 (0, 0)) (by (with_reducible repeat (first | refine blk_drewN ?_ _ | refine blk_drew ?_ | refine blk_alloc ?_ _)); exact BK58101.out) hb); have n3_ := Aside0.mk (below_step (by repeat (first | (with_reducible first | exact HB.out | apply below_alloc | apply pw_below_drewN | apply below_drew1 | refine below_set ?_ GE58101.out) | exact HB.out)) hb); clear HO_1; clear HO_9; clear BK58101; clear HB; have HO_1 := n0_; have HO_9 := n1_; have BK58101 := n2_; have HB := n3_; clear n0_ n1_ n2_ n3_; (try clear hb); (try clear hb2); (try clear hk); (try clear hi)))
          go_ret
          exact ⟨by first | rfl | (simp [errW_none, errW_some] <;> rfl) | (simp [*, errW_none, errW_some] <;> rfl), by repeat (first | (with_reducible first | exact HB.out | apply below_alloc | apply pw_below_drewN | apply below_drew1 | refine below_set ?_ GE58101.out) | exact HB.out)⟩
end Go.Proofs.Ytimkchehdaadeaa.P
