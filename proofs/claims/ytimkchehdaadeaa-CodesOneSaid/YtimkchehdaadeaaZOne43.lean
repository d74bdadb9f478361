/- Part 43 of a proof: the statement CodesOne: for every input its law returns true (its texts without what nothing here names). -/
import Derived.Test.YtimkchehdaadeaaZOne6
import Derived.Test.YtimkchehdaadeaaZOne7

namespace Go.Proofs.Ytimkchehdaadeaa.P
open Go.RowKit Go.Proofs.YtimkchehdaadeaaW.PrintWords Go.Proofs.YtimkchehdaadeaaW.PrintLast Go.Proofs.YtimkchehdaadeaaW.PrintMore
set_option linter.unusedVariables false
set_option linter.unusedSimpArgs false
theorem row_put {W : World} {base O n cap i : Nat} {X : List (List Int)} (hi : i < n) (hS : Kd.S (Kd.slice 3 (Kd.int .i64)) 24 W base (fun _ => True) (.slice (some ⟨O, 0, none⟩) n cap) X) :
    ∃ (oki : Nat → Prop) (A : Option Addr) (c : Nat), Kd.R (Kd.int .i64) 3 W base oki (.slice A (X.getD i []).length c) (X.getD i []) ∧ (X.getD i []).length ≤ c ∧ W.cell? ⟨O, i, none⟩ = some (.slice A (X.getD i []).length c) ∧ (∀ k, oki k → k < W.heap.size) ∧
      ∀ W1 v1 L', W.grownBy W1 (Value.slice A (X.getD i []).length c).ownBlock → Kd.R (Kd.int .i64) 3 W1 base (fun k => oki k ∨ W.heap.size ≤ k) v1 L' → Kd.S (Kd.slice 3 (Kd.int .i64)) 24 (W1.setCell ⟨O, i, none⟩ v1) base (fun _ => True) (.slice (some ⟨O, 0, none⟩) n cap) (X.set i L') ∧ W1.frozen? ⟨O, i, none⟩ = false ∧ (∃ u, W1.cell? ⟨O, i, none⟩ = some u) := by
  have hO := Kd.S_lt hS O (by simp [Value.ownBlock])
  obtain ⟨cells, hblk⟩ := Kd.S_typed hS O (by simp [Value.ownBlock])
  have hS' : Kd.S (Kd.slice 3 (Kd.int .i64)) 24 W base (fun k => True ∧ ¬ W.heap.size ≤ k) (.slice (some ⟨O, 0, none⟩) n cap) X := Kd.S_mono (Kd.S_bound hS) (fun k hk => ⟨trivial, by have := hk.2.2.1; omega⟩)
  obtain ⟨oki, c, hcl, hM, hcc, hfr, hoki, hH⟩ := Kd.S_elem hS' [] (i : Int) (by omega) (by omega)
  rw [Int.toNat_natCast] at hM hcc
  obtain ⟨vi, rfl, hR⟩ := hM
  obtain ⟨A, c, rfl, hl, hC⟩ := Kd.R_reads hR
  have hc0 := hcc 0 _ rfl
  simp only [show (Kd.slice 3 (Kd.int .i64)).sz = 1 from rfl, Nat.mul_one, Nat.add_zero] at hc0
  refine ⟨oki, A, c, hR, hl, hc0, fun k hk => by have := (hoki k hk).1.2; omega, fun W1 v1 L' hg hR1 => ?_⟩
  have hne : some O ≠ (Value.slice A (X.getD i []).length c).ownBlock := fun e => (hoki O (hR.1 O e.symm)).2 rfl
  have hb1 := (hg.block O hO hne).trans hblk
  obtain ⟨h2, _⟩ := Kd.S_seg (okg := fun k => W.heap.size ≤ k) (seg := [v1]) (j := 0) (x' := L') (Kd.H_grown hH hg (fun k hk => hR.1 k hk)) (by omega) (by omega) (Nat.le_refl _) ⟨v1, rfl, hR1⟩ (fun k hk => hk) (fun k hk => ⟨trivial, by omega⟩)
  rw [Int.toNat_natCast] at h2
  simp only [show (Kd.slice 3 (Kd.int .i64)).sz = 1 from rfl, Nat.mul_one, Nat.add_zero] at h2
  refine ⟨h2, blk_frozen hb1 i, ?_⟩
  have hcell : W1.cell? ⟨O, i, none⟩ = W.cell? ⟨O, i, none⟩ := by rw [blk_cell hb1 i, blk_cell hblk i]
  exact ⟨_, hcell.trans hc0⟩
end Go.Proofs.Ytimkchehdaadeaa.P
