/- Part 16 of a proof: the statement TopPortraits: for every input its law returns true (its texts without what nothing here names). -/

import Derived.RangeFuncNested
import Derived.RangeFuncBound
import Derived.RangeFuncCalls
import Derived.RangeFuncLeaves
import Derived.WalkKit
import Derived.Deep.Draws
namespace Go.Pad
open Go.RowKit
structure Apart (lo hi : Nat) (A B : World) : Prop where
  os : B.os = A.os
  tape : B.tape = A.tape
  output : B.output = A.output
  size : A.heap.size ≤ B.heap.size
  block : ∀ k, k < A.heap.size → (k < lo ∨ hi ≤ k) → B.heap[k]? = A.heap[k]?
theorem Apart.refl (lo hi : Nat) (A : World) : Apart lo hi A A := ⟨rfl, rfl, rfl, Nat.le_refl _, fun _ _ _ => rfl⟩
theorem Apart.trans {lo hi : Nat} {A B C : World} (h : Apart lo hi A B) (k : Apart lo hi B C) : Apart lo hi A C :=
  ⟨k.os.trans h.os, k.tape.trans h.tape, k.output.trans h.output, Nat.le_trans h.size k.size,
    fun i hi ho => (k.block i (Nat.lt_of_lt_of_le hi h.size) ho).trans (h.block i hi ho)⟩
theorem Apart.mono {lo hi lo' hi' : Nat} {A B : World} (h : Apart lo hi A B) (h1 : lo' ≤ lo) (h2 : hi ≤ hi') : Apart lo' hi' A B :=
  ⟨h.os, h.tape, h.output, h.size, fun k hk ho => h.block k hk (by omega)⟩
theorem Apart.alloc {lo hi : Nat} {A B : World} (h : Apart lo hi A B) (o : Obj) : Apart lo hi A (B.alloc o) :=
  ⟨h.os, h.tape, h.output, Nat.le_trans h.size (by simp), fun k hk ho => (Below.heap_alloc B o k (Nat.lt_of_lt_of_le hk h.size)).trans (h.block k hk ho)⟩
theorem Apart.drewN {lo hi : Nat} {A B : World} (h : Apart lo hi A B) (n : Nat) : Apart lo hi A (B.drewN n) := ⟨h.os, h.tape, h.output, h.size, h.block⟩
theorem Apart.drew {lo hi : Nat} {A B : World} (h : Apart lo hi A B) : Apart lo hi A B.drew := ⟨h.os, h.tape, h.output, h.size, h.block⟩
theorem Apart.putObj {lo hi : Nat} {A B : World} (h : Apart lo hi A B) (l : Nat) (o : Obj) (h1 : lo ≤ l) (h2 : l < hi) : Apart lo hi A (B.putObj l o) :=
  ⟨h.os, h.tape, h.output, by simpa using h.size, fun k hk ho => (World.putObj_heap_other (by omega)).trans (h.block k hk ho)⟩
theorem Apart.setCell {lo hi : Nat} {A B : World} (h : Apart lo hi A B) (a : Addr) (u : Value) (h1 : (lo ≤ a.block ∧ a.block < hi) ∨ A.heap.size ≤ a.block) : Apart lo hi A (B.setCell a u) :=
  ⟨h.os, h.tape, h.output, by simpa [World.setCell] using h.size, fun k hk ho => (Below.heap_setCell B a u k (by omega)).trans (h.block k hk ho)⟩
theorem Apart.of_below {lo hi : Nat} {A B C : World} (h : Apart lo hi A B) (k : Below B.heap.size B C) : Apart lo hi A C :=
  ⟨k.os.trans h.os, k.tape.trans h.tape, k.output.trans h.output, Nat.le_trans h.size k.size, fun i hi ho => (k.block i (Nat.lt_of_lt_of_le hi h.size)).trans (h.block i hi ho)⟩
theorem below_of_apart {n lo hi : Nat} {w A B : World} (h : Below n w A) (k : Apart lo hi A B) (hn : n ≤ lo) (hA : n ≤ A.heap.size) : Below n w B :=
  ⟨k.os.trans h.os, k.tape.trans h.tape, k.output.trans h.output, Nat.le_trans h.size k.size, fun i hi => (k.block i (by omega) (.inl (by omega))).trans (h.block i hi)⟩
def Stable {β : Type} (lo hi : Nat) (J : β → World → Prop) : Prop := ∀ s A B, J s A → Apart lo hi A B → J s B
structure KeepM (hi : Nat) (M : Nat → Prop) (A B : World) : Prop where
  os : B.os = A.os
  tape : B.tape = A.tape
  output : B.output = A.output
  size : A.heap.size ≤ B.heap.size
  block : ∀ k, k < hi → ¬ M k → B.heap[k]? = A.heap[k]?
theorem KeepM.refl (hi : Nat) (M : Nat → Prop) (A : World) : KeepM hi M A A := ⟨rfl, rfl, rfl, Nat.le_refl _, fun _ _ _ => rfl⟩
theorem KeepM.trans {hi : Nat} {M : Nat → Prop} {A B C : World} (h : KeepM hi M A B) (k : KeepM hi M B C) : KeepM hi M A C :=
  ⟨k.os.trans h.os, k.tape.trans h.tape, k.output.trans h.output, Nat.le_trans h.size k.size, fun i hi ho => (k.block i hi ho).trans (h.block i hi ho)⟩
theorem KeepM.alloc {hi : Nat} {M : Nat → Prop} {A B : World} (h : KeepM hi M A B) (hh : hi ≤ B.heap.size) (o : Obj) : KeepM hi M A (B.alloc o) :=
  ⟨h.os, h.tape, h.output, Nat.le_trans h.size (by simp), fun k hk ho => (Below.heap_alloc B o k (by omega)).trans (h.block k hk ho)⟩
theorem KeepM.drewN {hi : Nat} {M : Nat → Prop} {A B : World} (h : KeepM hi M A B) (n : Nat) : KeepM hi M A (B.drewN n) := ⟨h.os, h.tape, h.output, h.size, h.block⟩
theorem KeepM.drew {hi : Nat} {M : Nat → Prop} {A B : World} (h : KeepM hi M A B) : KeepM hi M A B.drew := ⟨h.os, h.tape, h.output, h.size, h.block⟩
theorem KeepM.setCell {hi : Nat} {M : Nat → Prop} {A B : World} (h : KeepM hi M A B) (a : Addr) (u : Value) (h1 : M a.block ∨ hi ≤ a.block) : KeepM hi M A (B.setCell a u) :=
  ⟨h.os, h.tape, h.output, by simpa [World.setCell] using h.size, fun k hk ho => (Below.heap_setCell B a u k (by rcases h1 with h1 | h1; (intro e; subst e; exact ho h1); omega)).trans (h.block k hk ho)⟩
theorem KeepM.of_below {hi : Nat} {M : Nat → Prop} {A B C : World} (h : KeepM hi M A B) (k : Below B.heap.size B C) (hh : hi ≤ B.heap.size) : KeepM hi M A C :=
  ⟨k.os.trans h.os, k.tape.trans h.tape, k.output.trans h.output, Nat.le_trans h.size k.size, fun i hi ho => (k.block i (by omega)).trans (h.block i hi ho)⟩
theorem KeepM.of_grown {hi : Nat} {M : Nat → Prop} {A B C : World} {row : Option Nat} (h : KeepM hi M A B) (k : B.grownBy C row) (hh : hi ≤ B.heap.size) (hr : ∀ r, row = some r → hi ≤ r ∨ M r) : KeepM hi M A C :=
  ⟨k.os.trans h.os, k.tape.trans h.tape, k.output.trans h.output, Nat.le_trans h.size k.size, fun i hi ho => (k.block i (by omega) (fun e => by
    rcases hr i e.symm with h1 | h1
    · omega
    · exact ho h1)).trans (h.block i hi ho)⟩
theorem KeepM.mono {hi hi' : Nat} {M M' : Nat → Prop} {A B : World} (h : KeepM hi M A B) (h1 : hi' ≤ hi) (h2 : ∀ b, M b → M' b) : KeepM hi' M' A B :=
  ⟨h.os, h.tape, h.output, h.size, fun k hk ho => h.block k (by omega) (fun hm => ho (h2 _ hm))⟩
theorem RoundIn.inRound {F : Fence} {n : Nat} {P : Program} {l : Nat} {f : FuncId} {tmps : Array Value} {assign body : Code} {w : World} {R : Ending → World → Prop} (l' : Nat)
    (h : RoundIn F n P l f tmps assign body w R) : RoundIn (F.inRound l') n P l f tmps assign body w R := h
theorem roundIn_wide {n m : Nat} {P : Program} {l : Nat} {f : FuncId} {tmps : Array Value} {assign body : Code} {w : World} {R : Ending → World → Prop}
    (h : RoundIn Fence.wide n P l f tmps assign body w R) : RoundIn Fence.wide m P l f tmps assign body w R := ⟨h.1, fun c cs _ => h.2 c cs (room_wide _)⟩
theorem yieldAt_wide {n m : Nat} {P : Program} {l : Nat} {as : Array Value} {w : World} {R : Ending → World → Prop}
    (h : YieldAt Fence.wide n P l as w R) : YieldAt Fence.wide m P l as w R := by
  obtain ⟨fn, tmps, assign, body, hy, hR⟩ := h
  exact ⟨fn, tmps, assign, body, hy, roundIn_wide hR⟩
def Iters {α : Type} (P : Program) (g : Nat) (lb : Array Value) (as : α → Array Value) (elem : α → World → Prop) (xs : List α) (k : Nat) (M : Nat → Prop) (W : World) : Prop :=
  ∀ (l : Nat) (J Jx : List α → World → Prop),
    Stable W.heap.size (W.heap.size + k) J → Stable W.heap.size (W.heap.size + k) Jx →
    (∀ pre x W1, (pre ++ [x]) <+: xs → J pre W1 → elem x W1 → W.heap.size + k ≤ W1.heap.size →
       YieldAt Fence.wide 0 P l (as x) W1 fun e W' =>
         (e = .returned (.bool true) ∧ J (pre ++ [x]) W' ∧ KeepM (W.heap.size + k) M W1 W') ∨ (e = .returned (.bool false) ∧ Jx (pre ++ [x]) W' ∧ KeepM (W.heap.size + k) (fun b => b < W.heap.size) W1 W')) →
    J [] W →
    Calls P g (#[.func (.yield l) #[] #[]] ++ lb) W fun e W' => (∃ v, e = .returned v) ∧ (J xs W' ∨ ∃ pre, pre ≠ [] ∧ pre <+: xs ∧ Jx pre W')
def iterPost {α : Type} (lo hi : Nat) (M : Nat → Prop) (I : List α → World → Prop) (Ix : Code → List α → World → Prop) (xs : List α) (W : World) : Exit → Act → World → Prop
  | .normal, _, W' => I xs W' ∧ KeepM hi M W W'
  | .ret, _, W' => Ix .ret xs W' ∧ KeepM hi (fun b => b < lo) W W'
  | .exit id, _, W' => Ix (.exit id) xs W' ∧ KeepM hi (fun b => b < lo) W W'
  | .goto t, _, W' => Ix (.goto t) xs W' ∧ KeepM hi (fun b => b < lo) W W'
  | .panic _, _, _ => False
  | .outgrown, _, _ => False
variable {P : Program}
theorem wpIn_iter {α : Type} {g : Operand} {ps : Array Tmp} {assign body : Code} {Q : Exit → Act → World → Prop} {a : Act} {w : World} {n : Nat}
    {gf : Nat} {lb : Array Value} (hg : a.eval g = .func (.func gf) #[] lb) (eg : ∀ args w, (callFunc gf args).run P w = .ok (.enter gf args) w)
    {as : α → Array Value} {elem : α → World → Prop} {xs : List α} {k : Nat} {M : Nat → Prop}
    (hit : ∀ r : Loop, Iters P gf lb as elem xs k M ((w.alloc (.deferred (some []))).alloc (.loop r)))
    (hM : ∀ b, M b → b < w.heap.size) (hps : ∀ x, (as x).size = ps.size)
    (hel : ∀ x A B, elem x A → Apart w.heap.size (w.heap.size + 2) A B → elem x B)
    (I : List α → World → Prop) (Ix : Code → List α → World → Prop)
    (hI : Stable w.heap.size (w.heap.size + 2 + k) I) (hIx : ∀ c, Stable w.heap.size (w.heap.size + 2 + k) (Ix c)) (h0 : I [] w) (a₁ : α → Act)
    (hassign : ∀ (l : Nat) (x : α) (W : World) (K : Act → World → Prop), K (a₁ x) W →
      assign.wpIn (Fence.wide.inRound l) 0 P (Exit.then K (fun _ _ _ => False)) { tmps := (ps.zip (as x)).foldl (fun t (p, v) => t.setIfInBounds p v) a.tmps, defers := [] } W)
    (hbody : ∀ (l : Nat) (pre : List α) (x : α) (W : World), (pre ++ [x]) <+: xs → I pre W → elem x W → w.heap.size + 2 + k ≤ W.heap.size →
      body.wpIn (Fence.wide.inRound l) 0 P (iterPost w.heap.size (w.heap.size + 2 + k) M I Ix (pre ++ [x]) W) (a₁ x) W)
    (hdone : ∀ (W : World), I xs W → W.heap[w.heap.size]? = some (.deferred (some [])) → Q .normal { a with defers := { target := .collected w.heap.size, args := #[] } :: a.defers } W)
    (hstop : ∀ (c : Code) (pre : List α) (W : World), pre ≠ [] → pre <+: xs → Ix c pre W → W.heap[w.heap.size]? = some (.deferred (some [])) →
      c.wpIn Fence.wide n P Q { a with defers := { target := .collected w.heap.size, args := #[] } :: a.defers } W) :
    (Code.rangeFunc g ps assign body).wpIn Fence.wide n P Q a w := by
  refine wpIn_rangeFunc ?_
  intro fn hfn
  obtain ⟨rec, hrec⟩ : ∃ rec : LoopState → Option Code → Loop, rec = fun st pe => { state := st, pending := pe, fn, tmps := a.tmps, params := ps, assign, body, defers := w.heap.size } := ⟨_, rfl⟩
  obtain ⟨W1, hW1⟩ : ∃ W1, (w.alloc (.deferred (some []))).alloc (.loop (rec .ready none)) = W1 := ⟨_, rfl⟩
  have hz1 : W1.heap.size = w.heap.size + 2 := by rw [← hW1]; simp
  have hL1 : W1.heap[w.heap.size + 1]? = some (.loop (rec .ready none)) := by
    rw [← hW1]; have := World.alloc_heap_new (w.alloc (.deferred (some []))) (.loop (rec .ready none)); rwa [World.size_alloc] at this
  have hK1 : W1.heap[w.heap.size]? = some (.deferred (some [])) := by
    rw [← hW1]; exact (Below.heap_alloc _ _ _ (by simp)).trans (World.alloc_heap_new w _)
  have hI1 : I [] W1 := by rw [← hW1]; exact hI _ _ _ h0 (((Apart.refl _ _ w).alloc _).alloc _)
  have hit1 := hit (rec .ready none)
  rw [hW1] at hit1
  refine ⟨w.heap.size + 1, [{ target := .collected w.heap.size, args := #[] }], W1, { target := .fn (.func gf) lb, args := #[.func (.yield (w.heap.size + 1)) #[] #[]] }, W1, gf,
    #[.func (.yield (w.heap.size + 1)) #[] #[]] ++ lb, W1, ?_, ?_, ?_, ?_, fun h => by simp [Fence.wide] at h, ?_⟩
  · rw [← hW1, hrec]; exact run_enterLoop_outer _ _ _ _ _
  · simp only [resolve, hg]
    simp [go_sem]
  · intro f' _; trivial
  · simp [invoke, go_sem, eg]
  · refine callsIn_wide.2 ?_
    refine (hit1 (w.heap.size + 1)
      (fun pre W => I pre W ∧ W.heap[w.heap.size + 1]? = some (.loop (rec .ready none)) ∧ W.heap[w.heap.size]? = some (.deferred (some [])))
      (fun pre W => ∃ c, Ix c pre W ∧ W.heap[w.heap.size + 1]? = some (.loop (rec .done (some c))) ∧ W.heap[w.heap.size]? = some (.deferred (some [])))
      ?_ ?_ ?_ ⟨hI1, hL1, hK1⟩).mono ?_
    · rintro s A B ⟨hi, hl, hk⟩ hab
      have hla := (Array.getElem?_eq_some_iff.1 hl).1
      exact ⟨hI _ _ _ hi (hab.mono (by omega) (by omega)), (hab.block _ hla (.inl (by omega))).trans hl, (hab.block _ (by omega) (.inl (by omega))).trans hk⟩
    · rintro s A B ⟨c, hi, hl, hk⟩ hab
      have hla := (Array.getElem?_eq_some_iff.1 hl).1
      exact ⟨c, hIx _ _ _ _ hi (hab.mono (by omega) (by omega)), (hab.block _ hla (.inl (by omega))).trans hl, (hab.block _ (by omega) (.inl (by omega))).trans hk⟩
    · rintro pre x W hpre ⟨hi, hl, hk⟩ hex hsz
      have hlt : w.heap.size + 1 < W.heap.size := (Array.getElem?_eq_some_iff.1 hl).1
      have hy := run_yield (P := P) (args := as x) hl (by rw [hrec]; exact hps x)
      rw [hrec] at hy
      refine ⟨fn, _, assign, body, hy, roundIn_of_wpIn hfn (hassign _ x W _ ⟨_, run_beginRound hl (by rw [hrec]), ?_⟩)⟩
      have hl2 : (W.putObj (w.heap.size + 1) (.loop { rec .ready none with state := .busy })).heap[w.heap.size + 1]? = some (.loop { rec .ready none with state := .busy }) := World.putObj_heap_same hlt
      have hk2 : (W.putObj (w.heap.size + 1) (.loop { rec .ready none with state := .busy })).heap[w.heap.size]? = some (.deferred (some [])) := (World.putObj_heap_other (by omega)).trans hk
      have hap : Apart w.heap.size (w.heap.size + 2) W (W.putObj (w.heap.size + 1) (.loop { rec .ready none with state := .busy })) := (Apart.refl _ _ W).putObj _ _ (by omega) (by omega)
      refine wpIn_mono (hbody _ pre x _ hpre (hI _ _ _ hi (hap.mono (Nat.le_refl _) (by omega))) (hel _ _ _ hex hap) (by simp; omega)) ?_
      have fin : ∀ (M : Nat → Prop) (hM : ∀ b, M b → b < w.heap.size) (jump : Option Code) (W3 : World), KeepM (w.heap.size + 2 + k) M (W.putObj (w.heap.size + 1) (.loop { rec .ready none with state := .busy })) W3 →
          (Instr.endRound (w.heap.size + 1) jump).run P W3 = .ok (.bool jump.isNone) (W3.putObj (w.heap.size + 1) (.loop (rec (if jump.isNone then .ready else .done) jump))) ∧
          (W3.putObj (w.heap.size + 1) (.loop (rec (if jump.isNone then .ready else .done) jump))).heap[w.heap.size + 1]? = some (.loop (rec (if jump.isNone then .ready else .done) jump)) ∧
          (W3.putObj (w.heap.size + 1) (.loop (rec (if jump.isNone then .ready else .done) jump))).heap[w.heap.size]? = some (.deferred (some [])) ∧
          Apart w.heap.size (w.heap.size + 2 + k) W3 (W3.putObj (w.heap.size + 1) (.loop (rec (if jump.isNone then .ready else .done) jump))) := fun M hM jump W3 hk3 => by
        have hl3 : W3.heap[w.heap.size + 1]? = some (.loop { rec .ready none with state := .busy }) := (hk3.block _ (by omega) (fun h => by have := hM _ h; omega)).trans hl2
        have hk4 : W3.heap[w.heap.size]? = some (.deferred (some [])) := (hk3.block _ (by omega) (fun h => by have := hM _ h; omega)).trans hk2
        have := run_endRound (P := P) jump hl3
        rw [hrec] at this ⊢
        exact ⟨this, World.putObj_heap_same (Array.getElem?_eq_some_iff.1 hl3).1, (World.putObj_heap_other (by omega)).trans hk4, (Apart.refl _ _ W3).putObj _ _ (by omega) (by omega)⟩
      have done : ∀ (W3 : World), KeepM (w.heap.size + 2 + k) M (W.putObj (w.heap.size + 1) (.loop { rec .ready none with state := .busy })) W3 →
          KeepM (W1.heap.size + k) M W (W3.putObj (w.heap.size + 1) (.loop (rec .ready none))) := fun W3 hk3 =>
        ⟨hk3.os, hk3.tape, hk3.output, by simpa using hk3.size, fun b hb hm => by
          by_cases e : b = w.heap.size + 1
          · subst e
            exact (World.putObj_heap_same (by have := hk3.size; simp at this; omega)).trans hl.symm
          · exact (World.putObj_heap_other e).trans ((hk3.block b (by omega) hm).trans (World.putObj_heap_other e))⟩
      have left : ∀ (o : Obj) (W3 : World), KeepM (w.heap.size + 2 + k) (fun b => b < w.heap.size) (W.putObj (w.heap.size + 1) (.loop { rec .ready none with state := .busy })) W3 →
          KeepM (W1.heap.size + k) (fun b => b < W1.heap.size) W (W3.putObj (w.heap.size + 1) o) := fun o W3 hk3 =>
        ⟨hk3.os, hk3.tape, hk3.output, by simpa using hk3.size, fun b hb hm => (World.putObj_heap_other (by omega)).trans ((hk3.block b (by omega) (by omega)).trans (World.putObj_heap_other (by omega)))⟩
      rintro e a3 W3 hp
      cases e with
      | normal =>
        obtain ⟨hi3, hk3⟩ := hp
        obtain ⟨hr, hl4, hk4, ha4⟩ := fin M hM none W3 hk3
        exact ⟨_, _, hr, .inl ⟨rfl, ⟨hI _ _ _ hi3 ha4, hl4, hk4⟩, done W3 hk3⟩⟩
      | ret =>
        obtain ⟨hi3, hk3⟩ := hp
        obtain ⟨hr, hl4, hk4, ha4⟩ := fin _ (fun _ h => h) (some .ret) W3 hk3
        exact ⟨_, _, hr, .inr ⟨rfl, ⟨_, hIx _ _ _ _ hi3 ha4, hl4, hk4⟩, left _ W3 hk3⟩⟩
      | exit id =>
        obtain ⟨hi3, hk3⟩ := hp
        obtain ⟨hr, hl4, hk4, ha4⟩ := fin _ (fun _ h => h) (some (.exit id)) W3 hk3
        exact ⟨_, _, hr, .inr ⟨rfl, ⟨_, hIx _ _ _ _ hi3 ha4, hl4, hk4⟩, left _ W3 hk3⟩⟩
      | goto t =>
        obtain ⟨hi3, hk3⟩ := hp
        obtain ⟨hr, hl4, hk4, ha4⟩ := fin _ (fun _ h => h) (some (.goto t)) W3 hk3
        exact ⟨_, _, hr, .inr ⟨rfl, ⟨_, hIx _ _ _ _ hi3 ha4, hl4, hk4⟩, left _ W3 hk3⟩⟩
      | panic ch => exact hp.elim
      | outgrown => exact hp.elim
    · rintro e W2 ⟨⟨v, rfl⟩, (⟨hi, hl, hk⟩ | ⟨pre, hne, hpre, c, hi, hl, hk⟩)⟩
      · have hlt := (Array.getElem?_eq_some_iff.1 hl).1
        exact ⟨none, _, by have := run_endLoop (P := P) hl (by rw [hrec]; simp); rw [hrec] at this; exact this, hdone _ (hI _ _ _ hi ((Apart.refl _ _ _).putObj _ _ (by omega) (by omega))) ((World.putObj_heap_other (by omega)).trans hk)⟩
      · exact ⟨some c, _, by have := run_endLoop (P := P) hl (by rw [hrec]; simp); rw [hrec] at this; exact this, hstop c pre _ hne hpre (hIx _ _ _ _ hi ((Apart.refl _ _ _).putObj _ _ (by omega) (by omega))) ((World.putObj_heap_other (by omega)).trans hk)⟩
end Go.Pad
