/- Part 46 of a proof: the statement TopPortraits: for every input its law returns true (its texts without what nothing here names). -/
import Derived.Test.YtimkchehdaadeaaZTop16

set_option linter.unusedVariables false
namespace Go.Pad
open Go.RowKit
structure Held (lo : Nat) (R : Nat → Prop) (A B : World) : Prop where
  os : B.os = A.os
  tape : B.tape = A.tape
  output : B.output = A.output
  size : A.heap.size ≤ B.heap.size
  block : ∀ k, k < A.heap.size → (k < lo ∨ R k) → B.heap[k]? = A.heap[k]?
theorem Held.refl (lo : Nat) (R : Nat → Prop) (A : World) : Held lo R A A := ⟨rfl, rfl, rfl, Nat.le_refl _, fun _ _ _ => rfl⟩
theorem Held.trans {lo : Nat} {R : Nat → Prop} {A B C : World} (h : Held lo R A B) (k : Held lo R B C) : Held lo R A C :=
  ⟨k.os.trans h.os, k.tape.trans h.tape, k.output.trans h.output, Nat.le_trans h.size k.size, fun i hi ho => (k.block i (Nat.lt_of_lt_of_le hi h.size) ho).trans (h.block i hi ho)⟩
theorem Held.of_below {lo : Nat} {R : Nat → Prop} {A B C : World} (h : Held lo R A B) (k : Below B.heap.size B C) : Held lo R A C :=
  ⟨k.os.trans h.os, k.tape.trans h.tape, k.output.trans h.output, Nat.le_trans h.size k.size, fun i hi ho => (k.block i (Nat.lt_of_lt_of_le hi h.size)).trans (h.block i hi ho)⟩
theorem Held.alloc {lo : Nat} {R : Nat → Prop} {A B : World} (h : Held lo R A B) (o : Obj) : Held lo R A (B.alloc o) := h.of_below ((Below.refl _ B).alloc (Nat.le_refl _) o)
theorem Held.drew {lo : Nat} {R : Nat → Prop} {A B : World} (h : Held lo R A B) : Held lo R A B.drew := ⟨h.os, h.tape, h.output, h.size, h.block⟩
theorem Held.drewN {lo : Nat} {R : Nat → Prop} {A B : World} (h : Held lo R A B) (n : Nat) : Held lo R A (B.drewN n) := ⟨h.os, h.tape, h.output, h.size, h.block⟩
theorem Held.setCell {lo : Nat} {R : Nat → Prop} {A B : World} (h : Held lo R A B) (a : Addr) (u : Value) (h1 : lo ≤ a.block) (h2 : ¬ R a.block) : Held lo R A (B.setCell a u) :=
  ⟨h.os, h.tape, h.output, by simpa [World.setCell] using h.size, fun k hk ho => (Below.heap_setCell B a u k (fun e => by rcases ho with ho | ho; omega; exact h2 (e ▸ ho))).trans (h.block k hk ho)⟩
theorem Held.of_grown {lo : Nat} {R : Nat → Prop} {A B C : World} {row : Option Nat} (h : Held lo R A B) (k : B.grownBy C row) (hr : ∀ r, row = some r → lo ≤ r ∧ ¬ R r) : Held lo R A C :=
  ⟨k.os.trans h.os, k.tape.trans h.tape, k.output.trans h.output, Nat.le_trans h.size k.size, fun i hi ho => (k.block i (Nat.lt_of_lt_of_le hi h.size) (fun e => by
    obtain ⟨h1, h2⟩ := hr i e.symm
    rcases ho with ho | ho
    · omega
    · exact h2 ho)).trans (h.block i hi ho)⟩
structure KeepR (M R : Nat → Prop) (A B : World) : Prop where
  os : B.os = A.os
  tape : B.tape = A.tape
  output : B.output = A.output
  size : A.heap.size ≤ B.heap.size
  block : ∀ k, k < A.heap.size → ¬ M k → ¬ R k → B.heap[k]? = A.heap[k]?
theorem KeepR.refl (M R : Nat → Prop) (A : World) : KeepR M R A A := ⟨rfl, rfl, rfl, Nat.le_refl _, fun _ _ _ _ => rfl⟩
theorem KeepR.of_below {M R : Nat → Prop} {A B C : World} (h : KeepR M R A B) (k : Below B.heap.size B C) : KeepR M R A C :=
  ⟨k.os.trans h.os, k.tape.trans h.tape, k.output.trans h.output, Nat.le_trans h.size k.size, fun i hi h1 h2 => (k.block i (Nat.lt_of_lt_of_le hi h.size)).trans (h.block i hi h1 h2)⟩
theorem KeepR.drew {M R : Nat → Prop} {A B : World} (h : KeepR M R A B) : KeepR M R A B.drew := ⟨h.os, h.tape, h.output, h.size, h.block⟩
theorem KeepR.setCell {M R : Nat → Prop} {A B : World} (h : KeepR M R A B) (a : Addr) (u : Value) (h1 : M a.block ∨ R a.block ∨ A.heap.size ≤ a.block) : KeepR M R A (B.setCell a u) :=
  ⟨h.os, h.tape, h.output, by simpa [World.setCell] using h.size, fun k hk hm hr => (Below.heap_setCell B a u k (fun e => by subst e; rcases h1 with h1 | h1 | h1; exact hm h1; exact hr h1; omega)).trans (h.block k hk hm hr)⟩
theorem KeepR.of_grown {M R : Nat → Prop} {A B C : World} {row : Option Nat} (h : KeepR M R A B) (k : B.grownBy C row) (hr : ∀ r, row = some r → M r ∨ R r ∨ A.heap.size ≤ r) : KeepR M R A C :=
  ⟨k.os.trans h.os, k.tape.trans h.tape, k.output.trans h.output, Nat.le_trans h.size k.size, fun i hi h1 h2 => (k.block i (Nat.lt_of_lt_of_le hi h.size) (fun e => by
    rcases hr i e.symm with h3 | h3 | h3
    · exact h1 h3
    · exact h2 h3
    · omega)).trans (h.block i hi h1 h2)⟩
def grewR (R : Nat → Prop) (A B : World) : Nat → Prop := fun k => R k ∨ (A.heap.size ≤ k ∧ k < B.heap.size)
def ItersO {α : Type} (P : Program) (g : Nat) (lb : Array Value) (elem : α → Array Value → World → Prop) (xs : List α) (M : Nat → Prop) (W : World) : Prop :=
  ∀ (l : Nat) (J : (Nat → Prop) → List α → World → Prop),
    (∀ R s A B, J R s A → Held W.heap.size R A B → J R s B) →
    (∀ R pre x args W1, (pre ++ [x]) <+: xs → J R pre W1 → elem x args W1 → W.heap.size ≤ W1.heap.size → (∀ k, R k → W.heap.size ≤ k ∧ k < W1.heap.size) →
       YieldAt Fence.wide 0 P l args W1 fun e W' => e = .returned (.bool true) ∧ J (grewR R W1 W') (pre ++ [x]) W' ∧ KeepR M R W1 W') →
    J (fun _ => False) [] W →
    Calls P g (#[.func (.yield l) #[] #[]] ++ lb) W fun e W' => (∃ v, e = .returned v) ∧ ∃ R, J R xs W' ∧ (∀ k, R k → W.heap.size ≤ k ∧ k < W'.heap.size)
variable {P : Program}
theorem wpIn_iterO {α : Type} {g : Operand} {ps : Array Tmp} {assign body : Code} {Q : Exit → Act → World → Prop} {a : Act} {w : World} {n : Nat}
    {gf : Nat} {lb : Array Value} (hg : a.eval g = .func (.func gf) #[] lb) (eg : ∀ args w, (callFunc gf args).run P w = .ok (.enter gf args) w)
    {elem : α → Array Value → World → Prop} {xs : List α} {M : Nat → Prop}
    (hit : ∀ r : Loop, ItersO P gf lb elem xs M ((w.alloc (.deferred (some []))).alloc (.loop r)))
    (hM : ∀ b, M b → b < w.heap.size) (hps : ∀ x args W, elem x args W → args.size = ps.size)
    (hel : ∀ x args A B, elem x args A → Apart w.heap.size (w.heap.size + 2) A B → elem x args B)
    (I : (Nat → Prop) → List α → World → Prop)
    (hI : ∀ R s A B, I R s A → (∀ k, k < A.heap.size → (k < w.heap.size ∨ R k) → B.heap[k]? = A.heap[k]?) → B.os = A.os → B.tape = A.tape → B.output = A.output → A.heap.size ≤ B.heap.size → I R s B) (h0 : I (fun _ => False) [] w) (a₁ : Array Value → Act)
    (hassign : ∀ (l : Nat) (x : α) (args : Array Value) (W : World) (K : Act → World → Prop), elem x args W → K (a₁ args) W →
      assign.wpIn (Fence.wide.inRound l) 0 P (Exit.then K (fun _ _ _ => False)) { tmps := (ps.zip args).foldl (fun t (p, v) => t.setIfInBounds p v) a.tmps, defers := [] } W)
    (hbody : ∀ (l : Nat) (R : Nat → Prop) (pre : List α) (x : α) (args : Array Value) (W : World), (pre ++ [x]) <+: xs → I R pre W → elem x args W → w.heap.size + 2 ≤ W.heap.size → (∀ k, R k → w.heap.size + 2 ≤ k ∧ k < W.heap.size) →
      body.wpIn (Fence.wide.inRound l) 0 P (fun e a' W' => e = .normal ∧ I (grewR R W W') (pre ++ [x]) W' ∧ KeepR M R W W') (a₁ args) W)
    (hdone : ∀ (R : Nat → Prop) (W : World), I R xs W → (∀ k, R k → w.heap.size + 2 ≤ k ∧ k < W.heap.size) → W.heap[w.heap.size]? = some (.deferred (some [])) → Q .normal { a with defers := { target := .collected w.heap.size, args := #[] } :: a.defers } W) :
    (Code.rangeFunc g ps assign body).wpIn Fence.wide n P Q a w := by
  refine wpIn_rangeFunc ?_
  intro fn hfn
  obtain ⟨rec, hrec⟩ : ∃ rec : LoopState → Option Code → Loop, rec = fun st pe => { state := st, pending := pe, fn, tmps := a.tmps, params := ps, assign, body, defers := w.heap.size } := ⟨_, rfl⟩
  obtain ⟨W1, hW1⟩ : ∃ W1, (w.alloc (.deferred (some []))).alloc (.loop (rec .ready none)) = W1 := ⟨_, rfl⟩
  have hz1 : W1.heap.size = w.heap.size + 2 := by rw [← hW1]; simp
  have hL1 : W1.heap[w.heap.size + 1]? = some (.loop (rec .ready none)) := by
    rw [← hW1]; have := World.alloc_heap_new (w.alloc (.deferred (some []))) (.loop (rec .ready none)); rwa [World.size_alloc] at this
  have hK1 : W1.heap[w.heap.size]? = some (.deferred (some [])) := by
    rw [← hW1]; exact (Below.heap_alloc _ _ _ (by simp)).trans (World.alloc_heap_new w _)
  have hI1 : I (fun _ => False) [] W1 := by
    rw [← hW1]
    exact hI _ _ _ _ h0 (fun k hk _ => (Below.heap_alloc _ _ k (by simp; omega)).trans (Below.heap_alloc _ _ k hk)) rfl rfl rfl (by simp; omega)
  have hit1 := hit (rec .ready none)
  rw [hW1] at hit1
  refine ⟨w.heap.size + 1, [{ target := .collected w.heap.size, args := #[] }], W1, { target := .fn (.func gf) lb, args := #[.func (.yield (w.heap.size + 1)) #[] #[]] }, W1, gf,
    #[.func (.yield (w.heap.size + 1)) #[] #[]] ++ lb, W1, ?_, ?_, ?_, ?_, fun h => by simp [Fence.wide] at h, ?_⟩
  · rw [← hW1, hrec]; exact run_enterLoop_outer _ _ _ _ _
  · simp only [resolve, hg]
    simp [go_sem]
  · intro f' _; trivial
  · simp [invoke, go_sem, eg]
  · refine callsIn_wide.2 ?_
    refine (hit1 (w.heap.size + 1)
      (fun R pre W => I R pre W ∧ W.heap[w.heap.size + 1]? = some (.loop (rec .ready none)) ∧ W.heap[w.heap.size]? = some (.deferred (some [])))
      ?_ ?_ ⟨hI1, hL1, hK1⟩).mono ?_
    · rintro R s A B ⟨hi, hl, hk⟩ hab
      have hla := (Array.getElem?_eq_some_iff.1 hl).1
      exact ⟨hI _ _ _ _ hi (fun k hk ho => hab.block k hk (by rcases ho with h | h; exact .inl (by omega); exact .inr h)) hab.os hab.tape hab.output hab.size, (hab.block _ hla (.inl (by omega))).trans hl, (hab.block _ (by omega) (.inl (by omega))).trans hk⟩
    · rintro R pre x args W hpre ⟨hi, hl, hk⟩ hex hsz hR
      rw [hz1] at hR hsz
      have hlt : w.heap.size + 1 < W.heap.size := (Array.getElem?_eq_some_iff.1 hl).1
      have hy := run_yield (P := P) (args := args) hl (by rw [hrec]; exact hps x args W hex)
      rw [hrec] at hy
      refine ⟨fn, _, assign, body, hy, roundIn_of_wpIn hfn (hassign _ x args W _ hex ⟨_, run_beginRound hl (by rw [hrec]), ?_⟩)⟩
      have hl2 : (W.putObj (w.heap.size + 1) (.loop { rec .ready none with state := .busy })).heap[w.heap.size + 1]? = some (.loop { rec .ready none with state := .busy }) := World.putObj_heap_same hlt
      have hk2 : (W.putObj (w.heap.size + 1) (.loop { rec .ready none with state := .busy })).heap[w.heap.size]? = some (.deferred (some [])) := (World.putObj_heap_other (by omega)).trans hk
      have hap : Apart w.heap.size (w.heap.size + 2) W (W.putObj (w.heap.size + 1) (.loop { rec .ready none with state := .busy })) := (Apart.refl _ _ W).putObj _ _ (by omega) (by omega)
      have hzb : (W.putObj (w.heap.size + 1) (.loop { rec .ready none with state := .busy })).heap.size = W.heap.size := by simp
      refine wpIn_mono (hbody _ R pre x args _ hpre (hI _ _ _ _ hi (fun k hk ho => hap.block k hk (by rcases ho with h | h; exact .inl h; exact .inr (hR k h).1)) rfl rfl rfl (by rw [hzb]; exact Nat.le_refl _)) (hel _ _ _ _ hex hap) (by rw [hzb]; exact hsz) (fun k hk => by rw [hzb]; exact hR k hk)) ?_
      rintro e a3 W3 ⟨rfl, hi3, hk3⟩
      have hl3 : W3.heap[w.heap.size + 1]? = some (.loop { rec .ready none with state := .busy }) := (hk3.block _ (by rw [hzb]; exact hlt) (fun h => by have := hM _ h; omega) (fun h => by have := hR _ h; omega)).trans hl2
      have hk4 : W3.heap[w.heap.size]? = some (.deferred (some [])) := (hk3.block _ (by rw [hzb]; omega) (fun h => by have := hM _ h; omega) (fun h => by have := hR _ h; omega)).trans hk2
      have hr : (Instr.endRound (w.heap.size + 1) none).run P W3 = .ok (.bool true) (W3.putObj (w.heap.size + 1) (.loop (rec .ready none))) := by
        have := run_endRound (P := P) none hl3
        rw [hrec] at this ⊢
        exact this
      have hsz3 : W.heap.size ≤ W3.heap.size := by have := hk3.size; rw [hzb] at this; exact this
      have hz4 : (W3.putObj (w.heap.size + 1) (.loop (rec .ready none))).heap.size = W3.heap.size := by simp
      have hgr : grewR R (W.putObj (w.heap.size + 1) (.loop { rec .ready none with state := .busy })) W3 = grewR R W (W3.putObj (w.heap.size + 1) (.loop (rec .ready none))) := by
        unfold grewR; rw [hzb, hz4]
      rw [hgr] at hi3
      refine ⟨_, _, hr, rfl, ⟨hI _ _ _ _ hi3 (fun k hk ho => World.putObj_heap_other (fun e => by
        subst e
        rcases ho with ho | ho | ho
        · omega
        · have := hR _ ho; omega
        · omega)) rfl rfl rfl (by simp), ?_, (World.putObj_heap_other (by omega)).trans hk4⟩, ?_⟩
      · rw [hrec]; exact World.putObj_heap_same (Array.getElem?_eq_some_iff.1 hl3).1
      · exact ⟨hk3.os, hk3.tape, hk3.output, by simpa using hsz3, fun b hb hm hr' => by
          by_cases e : b = w.heap.size + 1
          · subst e
            exact (World.putObj_heap_same (by omega)).trans hl.symm
          · exact (World.putObj_heap_other e).trans ((hk3.block b (by rw [hzb]; exact hb) hm hr').trans (World.putObj_heap_other e))⟩
    · rintro e W2 ⟨⟨v, rfl⟩, R, ⟨hi, hl, hk⟩, hR⟩
      rw [hz1] at hR
      have hlt := (Array.getElem?_eq_some_iff.1 hl).1
      exact ⟨none, _, by have := run_endLoop (P := P) hl (by rw [hrec]; simp); rw [hrec] at this; exact this, hdone R _ (hI _ _ _ _ hi (fun k hk ho => World.putObj_heap_other (fun e => by
        subst e
        rcases ho with ho | ho
        · omega
        · have := hR _ ho; omega)) rfl rfl rfl (by simp)) (fun k hk => by have := hR k hk; simp; omega) ((World.putObj_heap_other (by omega)).trans hk)⟩
end Go.Pad
