/- Part 50 of a proof: the statement TopPortraits: for every input its law returns true (its texts without what nothing here names). -/
import Derived.Test.YtimkchehdaadeaaZTop7
import Derived.Test.YtimkchehdaadeaaZTop26

namespace Go.Proofs.Ytimkchehdaadeaa.P
open Go.RowKit Go.Proofs.YtimkchehdaadeaaW.PrintWords Go.Proofs.YtimkchehdaadeaaW.PrintLast Go.Proofs.YtimkchehdaadeaaW.PrintMore
attribute [local go_sem] max2_int min2_int max_two min_two max_three min_three max_four min_four
set_option linter.unusedVariables false
set_option linter.unusedSimpArgs false
def padlocktop_counts.f  : Option (Bool) := (codes_Count.f 2 4 (([(⟨2, 0, 1, 4, 0, ([] : List Int), false⟩ : S36)] : List (S36)))).bind fun bt38104 => (if bt38104.1 = 3 then (some (bt38104.2 == 0)) else (some false))
set_option maxHeartbeats 8000000 in
set_option maxRecDepth 100000 in
theorem padlocktop_counts.calls  (r : Bool) (w : World) (h : padlocktop_counts.f  = some r) :
    Calls Try.prog 38 #[] w fun e w' => e = .returned (.bool r) ∧ Below w.heap.size w w' := by
  have hu23 := Try.underlying23
  have hu36 := Try.underlying36
  have HB := Aside0.mk (Below.refl w.heap.size w)
  have H : ((codes_Count.f 2 4 (([(⟨2, 0, 1, 4, 0, ([] : List Int), false⟩ : S36)] : List (S36)))).bind fun bt38104 => (if bt38104.1 = 3 then (some (bt38104.2 == 0)) else (some false))) = some r := h
  clear h
  obtain ⟨y38101, hy38101⟩ : ∃ y_ : List (S36), y_ = (([(⟨2, 0, 1, 4, 0, ([] : List Int), false⟩ : S36)] : List (S36))) := ⟨_, rfl⟩
  replace H : ((codes_Count.f 2 4 y38101).bind fun bt38104 => (if bt38104.1 = 3 then (some (bt38104.2 == 0)) else (some false))) = some r := by first | (rw [hy38101]; with_reducible exact H) | (have H2_ := (Option.bind_some _ _).symm.trans H; rw [hy38101]; with_reducible exact H2_) | (have H2_ := (Option.bind_some _ _).symm.trans H; with_reducible exact H2_) | with_reducible exact H | (rw [hy38101]; exact H) | exact H
  have Ny38101 := Aside0.mk hy38101
  clear hy38101
  replace H := Option.bind_eq_some_iff.mp H
  obtain ⟨⟨t38104, t38105⟩, A10, H⟩ := H
  replace H : (if t38104 = 3 then (some (t38105 == 0)) else (some false)) = some r := H
  have A1 := Aside0.mk A10
  clear A10
  by_cases c2 : t38104 = 3
  · rw [if_pos c2] at H
    have c2b0 : (t38104 == 3) = true := beq_iff_eq.mpr c2
    have c2b1 : (t38104 != 3) = false := bne_eq_false_iff_eq.mpr c2
    clear c2
    obtain rfl := Option.some.inj H
    go_enter Try.func38, Try.ntmps38
    go_wp2_with (first | ((with_reducible refine gate_dst (N := 6) rfl ?_); refine Kd.S_lit k36 _ 36 ?hg (N := 6) ?hd (xs := ([(⟨2, 0, 1, 4, 0, ([] : List Int), false⟩ : S36)] : List (S36))) (inner := [.int .i64 2, .int .i64 0, .int .i64 1, .int .i64 4, .int .i64 0, .slice none 0 0, .bool false]) (ok := fun _ => True) (okp := fun _ => True) ?hr ?hp (fun _ hk => hk) trivial (Below.refl _ _) (Nat.le_refl _) (by simp) ?_; (case hd => rfl); (case hg => rfl); (case hr => first | (go_simp; done) | (go_simp; rfl)); (case hp => exact (Reps.c7 (show Kd.M k36 _ _ _ (⟨2, 0, 1, 4, 0, ([] : List Int), false⟩ : S36) [.int .i64 2, .int .i64 0, .int .i64 1, .int .i64 4, .int .i64 0, .slice none 0 0, .bool false] from (k36_mkM _ _ _ (⟨2, 0, 1, 4, 0, ([] : List Int), false⟩ : S36) (Kd.R_nil _ _ _ _ _))) (Reps.none _ _))); intro v38102 w3 ho4 hb hg_ hnew_; clear hg_ hnew_; (first | rw [← Ny38101.out] at ho4 | (simp only [Int.reduceToNat] at ho4; rw [← Ny38101.out] at ho4)); have n0_ := Aside0.mk (Kd.S_lower ho4 (below_size (by repeat (first | (with_reducible first | exact HB.out | apply below_alloc | apply pw_below_drewN | apply below_drew1) | exact HB.out)))); have n1_ := Aside0.mk (below_step (by repeat (first | (with_reducible first | exact HB.out | apply below_alloc | apply pw_below_drewN | apply below_drew1) | exact HB.out)) hb); clear HB; have HO38103 := n0_; have HB := n1_; clear n0_ n1_; clear hb ho4; obtain ⟨Ao5, co5, eo5⟩ := Kd.S_slice HO38103.out; subst eo5) | ((with_reducible refine gate_callee (f := 35) rfl ?_); refine goesL_ (some 7) rfl rfl Try.func35 (by kernel_rfl) rfl #[.agg #[.int .i64 2, .int .i64 4], .slice Ao5 y38101.length co5] rfl (by (try simp only [List.map_toArray, List.map_cons, List.map_nil]); first | done | rfl | (simp only [List.length_drop, List.length_take]; rfl)) ?_; (with_reducible refine (codes_Count.calls 2 4 _ _ y38101 t38104 t38105 _ ?side1 ?side2 A1.out).mono ?_); (case side1 => repeat (first | exact (Kd.S_reads' HO38103.out).2.2 | (with_reducible refine Kd.C_alloc ?_ _) | (with_reducible refine Kd.C_drewN ?_ _) | (with_reducible refine Kd.C_drew ?_))); (case side2 => exact (Kd.S_reads' HO38103.out).2.1); rintro e w6 ⟨rfl, hb⟩; refine ⟨_, rfl, ?_⟩; have n0_ := Aside0.mk (Kd.S_below (by (with_reducible repeat (first | apply Kd.S_alloc | apply Kd.S_drewN | apply Kd.S_drew)); exact HO38103.out) hb); have n1_ := Aside0.mk (below_step (by repeat (first | (with_reducible first | exact HB.out | apply below_alloc | apply pw_below_drewN | apply below_drew1) | exact HB.out)) hb); clear HO38103; clear HB; have HO38103 := n0_; have HB := n1_; clear n0_ n1_; (try clear hb); (try clear hb2); (try clear hk); (try clear hi)))
    go_ret
    exact ⟨by first | rfl | (simp [errW_none, errW_some] <;> rfl) | (simp [*, errW_none, errW_some] <;> rfl), by repeat (first | (with_reducible first | exact HB.out | apply below_alloc | apply pw_below_drewN | apply below_drew1) | exact HB.out)⟩
  · rw [if_neg c2] at H
    have c2b0 : (t38104 == 3) = false := beq_eq_false_iff_ne.mpr c2
    have c2b1 : (t38104 != 3) = true := bne_iff_ne.mpr c2
    obtain rfl := Option.some.inj H
    go_enter Try.func38, Try.ntmps38
    go_wp2_with (first | ((with_reducible refine gate_dst (N := 6) rfl ?_); refine Kd.S_lit k36 _ 36 ?hg (N := 6) ?hd (xs := ([(⟨2, 0, 1, 4, 0, ([] : List Int), false⟩ : S36)] : List (S36))) (inner := [.int .i64 2, .int .i64 0, .int .i64 1, .int .i64 4, .int .i64 0, .slice none 0 0, .bool false]) (ok := fun _ => True) (okp := fun _ => True) ?hr ?hp (fun _ hk => hk) trivial (Below.refl _ _) (Nat.le_refl _) (by simp) ?_; (case hd => rfl); (case hg => rfl); (case hr => first | (go_simp; done) | (go_simp; rfl)); (case hp => exact (Reps.c7 (show Kd.M k36 _ _ _ (⟨2, 0, 1, 4, 0, ([] : List Int), false⟩ : S36) [.int .i64 2, .int .i64 0, .int .i64 1, .int .i64 4, .int .i64 0, .slice none 0 0, .bool false] from (k36_mkM _ _ _ (⟨2, 0, 1, 4, 0, ([] : List Int), false⟩ : S36) (Kd.R_nil _ _ _ _ _))) (Reps.none _ _))); intro v38102 w7 ho8 hb hg_ hnew_; clear hg_ hnew_; (first | rw [← Ny38101.out] at ho8 | (simp only [Int.reduceToNat] at ho8; rw [← Ny38101.out] at ho8)); have n0_ := Aside0.mk (Kd.S_lower ho8 (below_size (by repeat (first | (with_reducible first | exact HB.out | apply below_alloc | apply pw_below_drewN | apply below_drew1) | exact HB.out)))); have n1_ := Aside0.mk (below_step (by repeat (first | (with_reducible first | exact HB.out | apply below_alloc | apply pw_below_drewN | apply below_drew1) | exact HB.out)) hb); clear HB; have HO38103 := n0_; have HB := n1_; clear n0_ n1_; clear hb ho8; obtain ⟨Ao9, co9, eo9⟩ := Kd.S_slice HO38103.out; subst eo9) | ((with_reducible refine gate_callee (f := 35) rfl ?_); refine goesL_ (some 7) rfl rfl Try.func35 (by kernel_rfl) rfl #[.agg #[.int .i64 2, .int .i64 4], .slice Ao9 y38101.length co9] rfl (by (try simp only [List.map_toArray, List.map_cons, List.map_nil]); first | done | rfl | (simp only [List.length_drop, List.length_take]; rfl)) ?_; (with_reducible refine (codes_Count.calls 2 4 _ _ y38101 t38104 t38105 _ ?side1 ?side2 A1.out).mono ?_); (case side1 => repeat (first | exact (Kd.S_reads' HO38103.out).2.2 | (with_reducible refine Kd.C_alloc ?_ _) | (with_reducible refine Kd.C_drewN ?_ _) | (with_reducible refine Kd.C_drew ?_))); (case side2 => exact (Kd.S_reads' HO38103.out).2.1); rintro e w10 ⟨rfl, hb⟩; refine ⟨_, rfl, ?_⟩; have n0_ := Aside0.mk (Kd.S_below (by (with_reducible repeat (first | apply Kd.S_alloc | apply Kd.S_drewN | apply Kd.S_drew)); exact HO38103.out) hb); have n1_ := Aside0.mk (below_step (by repeat (first | (with_reducible first | exact HB.out | apply below_alloc | apply pw_below_drewN | apply below_drew1) | exact HB.out)) hb); clear HO38103; clear HB; have HO38103 := n0_; have HB := n1_; clear n0_ n1_; (try clear hb); (try clear hb2); (try clear hk); (try clear hi)))
    go_ret
    exact ⟨by first | rfl | (simp [errW_none, errW_some] <;> rfl) | (simp [*, errW_none, errW_some] <;> rfl), by repeat (first | (with_reducible first | exact HB.out | apply below_alloc | apply pw_below_drewN | apply below_drew1) | exact HB.out)⟩
end Go.Proofs.Ytimkchehdaadeaa.P
