/- Part 45 of a proof: the statement CodesFewest: for every input its law returns true (its texts without what nothing here names). -/
import Derived.Test.YtimkchehdaadeaaZFewest6
import Derived.Test.YtimkchehdaadeaaZFewest16
import Derived.Test.YtimkchehdaadeaaZFewest42

namespace Go.Proofs.Ytimkchehdaadeaa.P
open Go.RowKit Go.Proofs.YtimkchehdaadeaaW.PrintWords Go.Proofs.YtimkchehdaadeaaW.PrintLast Go.Proofs.YtimkchehdaadeaaW.PrintMore
set_option linter.unusedVariables false
set_option linter.unusedSimpArgs false
theorem info4 : (Try.prog.info? 4).map (fun i => (i.zero, i.size, i.bytes)) = some (some (.bool false), 1, 1) := by kernel_rfl
theorem info110 : (Try.prog.info? 110).map (fun i => (i.zero, i.size, i.bytes)) = some (some (.slice none 0 0), 1, 24) := by kernel_rfl
theorem row_putB {W : World} {base O n cap i : Nat} {ok : Nat → Prop} {X : List (List Bool)} (hi : i < n) (hok : ∀ k, W.heap.size ≤ k → ok k) (hS : Kd.S kBB 110 W base ok (.slice (some ⟨O, 0, none⟩) n cap) X) :
    ∃ (oki : Nat → Prop) (A : Option Addr) (c : Nat), Kd.R Kd.bool 4 W base oki (.slice A (X.getD i []).length c) (X.getD i []) ∧ (X.getD i []).length ≤ c ∧ W.cell? ⟨O, i, none⟩ = some (.slice A (X.getD i []).length c) ∧ (∀ k, oki k → ok k ∧ k ≠ O ∧ k < W.heap.size) ∧
      ∀ W1 v1 L', W.grownBy W1 (Value.slice A (X.getD i []).length c).ownBlock → Kd.R Kd.bool 4 W1 base (fun k => oki k ∨ W.heap.size ≤ k) v1 L' → Kd.S kBB 110 (W1.setCell ⟨O, i, none⟩ v1) base ok (.slice (some ⟨O, 0, none⟩) n cap) (X.set i L') ∧ W1.frozen? ⟨O, i, none⟩ = false ∧ (∃ u, W1.cell? ⟨O, i, none⟩ = some u) := by
  have hO := Kd.S_lt hS O (by simp [Value.ownBlock])
  obtain ⟨cells, hblk⟩ := Kd.S_typed hS O (by simp [Value.ownBlock])
  have hS' : Kd.S kBB 110 W base (fun k => ok k ∧ ¬ W.heap.size ≤ k) (.slice (some ⟨O, 0, none⟩) n cap) X := Kd.S_mono (Kd.S_bound hS) (fun k hk => ⟨hk.1, by have := hk.2.2.1; omega⟩)
  obtain ⟨oki, c, hcl, hM, hcc, hfr, hoki, hH⟩ := Kd.S_elem hS' [] (i : Int) (by omega) (by omega)
  rw [Int.toNat_natCast] at hM hcc
  obtain ⟨vi, rfl, hR⟩ := hM
  obtain ⟨A, c, rfl, hl, hC⟩ := Kd.R_reads hR
  have hc0 := hcc 0 _ rfl
  simp only [show (kBB).sz = 1 from rfl, Nat.mul_one, Nat.add_zero] at hc0
  refine ⟨oki, A, c, hR, hl, hc0, fun k hk => ⟨(hoki k hk).1.1, (hoki k hk).2, by have := (hoki k hk).1.2; omega⟩, fun W1 v1 L' hg hR1 => ?_⟩
  have hne : some O ≠ (Value.slice A (X.getD i []).length c).ownBlock := fun e => (hoki O (hR.1 O e.symm)).2 rfl
  have hb1 := (hg.block O hO hne).trans hblk
  obtain ⟨h2, _⟩ := Kd.S_seg (okg := fun k => W.heap.size ≤ k) (seg := [v1]) (j := 0) (x' := L') (Kd.H_grown hH hg (fun k hk => hR.1 k hk)) (by omega) (by omega) (Nat.le_refl _) ⟨v1, rfl, hR1⟩ (fun k hk => hk) (fun k hk => ⟨hok k hk, by omega⟩)
  rw [Int.toNat_natCast] at h2
  simp only [show (kBB).sz = 1 from rfl, Nat.mul_one, Nat.add_zero] at h2
  refine ⟨h2, blk_frozen hb1 i, ?_⟩
  have hcell : W1.cell? ⟨O, i, none⟩ = W.cell? ⟨O, i, none⟩ := by rw [blk_cell hb1 i, blk_cell hblk i]
  exact ⟨_, hcell.trans hc0⟩
def nilsB (n : Nat) : Array Value := madeCells (Value.slice none 0 0).cells (n * 1)
theorem run_makeB (n : Nat) (w : World) (h : n ≤ 1000) : (Instr.makeSlice 106 (.int .i64 (n : Int)) (.int .i64 (n : Int))).run Try.prog w = .ok (.slice (some ⟨w.heap.size, 0, none⟩) n n) (w.alloc (.cells (nilsB n) 110)) := by
  obtain ⟨i0, hi, hz0, hz1, hz2⟩ := info_parts info110
  have := run_makeSlice (P := Try.prog) w 106 110 i0 (.slice none 0 0) Try.underlying106 hi hz0 .i64 .i64 (n : Int) (n : Int) (by omega) (by omega) (by rw [hz1]; omega) (by rw [hz2]; omega) (by omega)
  rw [this, hz1]
  rfl
theorem S_nilsB (n : Nat) (w : World) (base : Nat) (ok : Nat → Prop) (hb : base ≤ w.heap.size) (hok : ok w.heap.size) (h : n ≤ 1000) : Kd.S kBB 110 (w.alloc (.cells (nilsB n) 110)) base ok (.slice (some ⟨w.heap.size, 0, none⟩) n n) (List.replicate n []) := by
  refine Kd.S_bare ⟨fun k hk => ?_, (nilsB n).toList, ?_, ?_⟩
  · have : w.heap.size = k := by simpa [Value.ownBlock] using hk
    subst this
    exact hok
  · rw [List.length_replicate]
    have h2 := World.ownsRow_lit (base := base) (e := 110) (size := 1) w (nilsB n) n hb (by unfold maxLen; omega) (by simp [nilsB, size_madeCells])
    exact h2
  · exact (Kd.reps_made (R := fun (x : List Bool) (cs : List Value) => (Kd.bare kBB).M (w.alloc (.cells (nilsB n) 110)) base (fun k => ok k ∧ some k ≠ (Value.slice (some ⟨w.heap.size, 0, none⟩) n n).ownBlock) x cs) rfl (by decide) (by
      exact ⟨_, rfl, Kd.R_nil _ _ _ _ _⟩) n)
end Go.Proofs.Ytimkchehdaadeaa.P
