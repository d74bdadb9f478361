/- Part 28 of a proof: the statement CodesChooses: for every input its law returns true (its texts without what nothing here names). -/
import Derived.Test.YtimkchehdaadeaaZChooses25
import Derived.Test.YtimkchehdaadeaaZChooses26
import Derived.Test.YtimkchehdaadeaaZChooses27

namespace Go.Proofs.Ytimkchehdaadeaa.P
open Go.RowKit Go.Proofs.YtimkchehdaadeaaW.PrintWords Go.Proofs.YtimkchehdaadeaaW.PrintLast Go.Proofs.YtimkchehdaadeaaW.PrintMore
set_option linter.unusedVariables false
set_option linter.unusedSimpArgs false
theorem take_drop_succ (l : List Int) (a i : Nat) (ha : a ≤ i) (hi : i < l.length) : (l.take (i + 1)).drop a = (l.take i).drop a ++ [l[i]] := by
  rw [List.take_succ_eq_append_getElem hi, List.drop_append_of_le_length (by simp; omega)]
theorem True_l0 (l : List Int) (hd : dig l) (hl : l.length ≤ 1000) (K A B N M : Int) (G : List Int) (nt : Bool) (hA : 0 ≤ A) (hAB : A ≤ B) (hB : B < l.length) (d : Nat) : ∀ i : Nat, A ≤ i → i ≤ (B + 1).toNat → (B + 1).toNat - i = d →
    Ev (fun k => padlockref01_True.l0 k l (((l.take i).drop A.toNat).sum) i K A B N M G nt) (((span_ l A B).sum == N) != nt) := by
  induction d with
  | zero =>
    intro i h0 h1 h2
    have hi : i = (B + 1).toNat := by omega
    refine Ev.step (f := fun _ => some (((span_ l A B).sum == N) != nt)) (fun k => ?_) (Ev.now _)
    simp only [padlockref01_True.l0]
    rw [if_neg (by omega)]
    unfold span_
    rw [hi]
  | succ d ih =>
    intro i h0 h1 h2
    have hi : i < l.length := by omega
    have := ih (i + 1) (by omega) (by omega) (by omega)
    rw [take_drop_succ l A.toNat i (by omega) hi, List.sum_append] at this
    have hb := sum_bound ((l.take i).drop A.toNat) (dig_drop _ (dig_take l hd i) _)
    have hlen : ((l.take i).drop A.toNat).length ≤ 1000 := by simp; omega
    have hx := hd l[i] (List.getElem_mem hi)
    refine Ev.step (fun k => ?_) this
    simp only [padlockref01_True.l0]
    rw [if_pos (by omega), if_pos (by omega), if_pos (by omega), wrap_next hi (by omega), rd_get l i hi, wrap_small (by omega) (by omega)]
    simp
theorem True_ev (c : S36) (l : List Int) (hok : okC c l) (hn : l.length ≤ 1000000) : Ev (fun k => padlockref01_True.f k c.f0 c.f1 c.f2 c.f3 c.f4 c.f5 c.f6 l) (holdsC c l) := by
  obtain ⟨K, A, B, N, M, G, nt⟩ := c
  unfold okC okPlain at hok
  unfold holdsC plainB padlockref01_True.f
  simp only at hok ⊢
  by_cases k1 : K = 1
  · simp only [if_pos k1] at hok ⊢
    rw [if_pos hok.1, if_pos hok.2]; exact Ev.now _
  simp only [if_neg k1] at hok ⊢
  by_cases k2 : K = 2
  · simp only [if_pos k2] at hok ⊢
    obtain ⟨p1, p2, p3, p4, p5⟩ := hok
    have := True_l0 l p4 p5 K A B N M G nt p1 p2 p3 _ A.toNat (by omega) (by omega) rfl
    rw [show ((l.take A.toNat).drop A.toNat).sum = 0 by rw [List.drop_of_length_le (by simp; omega)]; rfl, Int.toNat_of_nonneg p1] at this
    exact this
  simp only [if_neg k2] at hok ⊢
  by_cases k3 : K = 3
  · simp only [if_pos k3] at hok ⊢
    rw [if_pos hok.1.1, if_pos hok.1.2, if_pos hok.2.1, if_pos hok.2.2]; exact Ev.now _
  simp only [if_neg k3] at hok ⊢
  by_cases k4 : K = 4
  · simp only [if_pos k4] at hok ⊢
    rw [if_pos hok.1.1, if_pos hok.1.2, if_pos hok.2.1, if_pos hok.2.2]; exact Ev.now _
  simp only [if_neg k4] at hok ⊢
  by_cases k5 : K = 5
  · simp only [if_pos k5]
    exact Ev.bind (shown_ev l N (by omega)) (Ev.now _)
  simp only [if_neg k5] at hok ⊢
  by_cases k6 : K = 6
  · simp only [if_pos k6] at hok ⊢
    refine Ev.bind (answer_ev l G hok.1 hn) ?_
    by_cases e : ((rightTo l G l.length : Nat) : Int) = N
    · simp only [e, if_true, beq_self_eq_true, Bool.true_and]; exact Ev.now _
    · simp only [e, if_false, beq_eq_false_iff_ne.mpr e, Bool.false_and]; exact Ev.now _
  simp only [if_neg k6] at hok ⊢
  by_cases k7 : K = 7
  · simp only [if_pos k7] at hok ⊢
    rw [if_pos hok.1.1, if_pos hok.1.2, if_neg hok.2]; exact Ev.now _
  · simp only [if_neg k7] at hok
theorem isClue_eq (W S : Int) (hl : okLock W S) (q : S36) : padlockref01_isClue.f W S q.f0 q.f1 q.f2 q.f3 q.f4 q.f5 q.f6 = some (validC W S q) := by
  unfold padlockref01_isClue.f; rw [if_pos hl]; rfl
theorem CheckCode_eq (W S : Int) (l : List Int) : codes_CheckCode.f W S l = some (if okLock W S then (if isCodeB W S l then 0 else 12) else 10) := by
  unfold codes_CheckCode.f codes_checkCodes.f
  simp only [Option.bind_some, List.all_cons, List.all_nil, Bool.and_true]
end Go.Proofs.Ytimkchehdaadeaa.P
