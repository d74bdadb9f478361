/- Part 18 of a proof: the statement TopPortraits: for every input its law returns true (its texts without what nothing here names). -/
import Derived.Test.YtimkchehdaadeaaZTop16
import Derived.Test.YtimkchehdaadeaaZTop17
import Derived.OwnWalkIn
import Derived.TacticsInMore
import Derived.LoopNIn
import Derived.LoopIn
import Derived.Shelf.RegionOpen
import Derived.Sort.QuietIn
section
namespace Go.Proofs.Ytimkchehdaadeaa.P
open Go.RowKit Go.Shelf Go.Pad Go.Proofs.YtimkchehdaadeaaW.PrintWords Go.Proofs.YtimkchehdaadeaaW.PrintLast Go.Proofs.YtimkchehdaadeaaW.PrintMore
attribute [local go_sem] Oper.semAt_some
set_option linter.unusedVariables false
set_option linter.unusedSimpArgs false
def codeAt (S : Nat) : Nat → Nat → List Int
  | 0, _ => []
  | w + 1, n => codeAt S w (n / S) ++ [((n % S : Nat) : Int)]
theorem codeAt_length (S : Nat) : ∀ w n, (codeAt S w n).length = w
  | 0, _ => rfl
  | w + 1, n => by simp [codeAt, codeAt_length S w]
theorem codeAt_zero (S : Nat) : ∀ w, codeAt S w 0 = List.replicate w 0
  | 0 => rfl
  | w + 1 => by simp [codeAt, codeAt_zero S w, List.replicate_succ']
theorem codeAt_range (S : Nat) (hS : 0 < S) : ∀ w n, ∀ x ∈ codeAt S w n, 0 ≤ x ∧ x < S
  | 0, _, x, h => by simp [codeAt] at h
  | w + 1, n, x, h => by
    simp only [codeAt, List.mem_append, List.mem_singleton] at h
    rcases h with h | rfl
    · exact codeAt_range S hS w _ x h
    · have := Nat.mod_lt n hS
      omega
theorem codeAt_lt (S w n : Nat) (hS : 0 < S) (h : n % S + 1 < S) : codeAt S (w + 1) (n + 1) = codeAt S w (n / S) ++ [((n % S : Nat) : Int) + 1] := by
  have h1 : (n + 1) % S = n % S + 1 := by rw [Nat.add_mod, Nat.mod_eq_of_lt (a := 1) (by omega), Nat.mod_eq_of_lt h]
  have h2 : (n + 1) / S = n / S := by
    have e1 := Nat.div_add_mod n S
    have e2 := Nat.div_add_mod (n + 1) S
    rw [h1] at e2
    have : S * ((n + 1) / S) = S * (n / S) := by omega
    exact Nat.eq_of_mul_eq_mul_left hS this
  rw [codeAt, h1, h2]; simp
theorem codeAt_eq (S w n : Nat) (hS : 0 < S) (h : n % S + 1 = S) : codeAt S (w + 1) (n + 1) = codeAt S w (n / S + 1) ++ [0] := by
  have h2 : (n + 1) = S * (n / S + 1) := by
    have e1 := Nat.div_add_mod n S
    rw [Nat.mul_add]; omega
  rw [codeAt, h2, Nat.mul_mod_right, Nat.mul_div_cancel_left _ hS]; rfl
def valOf (S : Nat) (l : List Int) : Nat := l.foldl (fun a d => a * S + d.toNat) 0
theorem valOf_snoc (S : Nat) (l : List Int) (d : Int) : valOf S (l ++ [d]) = valOf S l * S + d.toNat := by simp [valOf]
theorem valOf_codeAt (S : Nat) (hS : 0 < S) : ∀ w n, n < S ^ w → valOf S (codeAt S w n) = n
  | 0, n, h => by simp at h; subst h; rfl
  | w + 1, n, h => by
    rw [codeAt, valOf_snoc, valOf_codeAt S hS w (n / S) (by rw [Nat.div_lt_iff_lt_mul hS, ← Nat.pow_succ]; exact h)]
    have := Nat.div_add_mod n S
    rw [Nat.mul_comm] at this
    rw [show (((n % S : Nat)) : Int).toNat = n % S from Int.toNat_natCast _]; exact this
theorem codeAt_inc (S : Nat) (hS : 0 < S) : ∀ w n i, i < w → (∀ j, i < j → j < w → rd (codeAt S w n) j = (S : Int) - 1) → rd (codeAt S w n) i ≠ (S : Int) - 1 →
    codeAt S w (n + 1) = (codeAt S w n).take i ++ [rd (codeAt S w n) i + 1] ++ List.replicate (w - 1 - i) 0
  | 0, n, i, h, _, _ => absurd h (Nat.not_lt_zero _)
  | w + 1, n, i, h, h1, h2 => by
    have hlast : rd (codeAt S (w + 1) n) w = ((n % S : Nat) : Int) := by
      rw [codeAt]; simp [rd, List.getD_eq_getElem?_getD, codeAt_length]
    have hbelow : ∀ j : Nat, j < w → rd (codeAt S (w + 1) n) j = rd (codeAt S w (n / S)) j := fun j hj => by
      rw [codeAt]; simp [rd, List.getD_eq_getElem?_getD, List.getElem?_append_left, codeAt_length, hj]
    have hm := Nat.mod_lt n hS
    by_cases e : i = w
    · subst e
      rw [hlast] at h2 ⊢
      rw [codeAt_lt S i n hS (by omega), codeAt]
      have hl := codeAt_length S i (n / S)
      simp [List.take_append, hl, List.take_of_length_le (Nat.le_of_eq hl)]
    · have hi : i < w := by omega
      have h3 := h1 w hi (by omega)
      rw [hlast] at h3
      rw [codeAt_eq S w n hS (by omega), codeAt_inc S hS w (n / S) i hi (fun j a b => by rw [← hbelow j b]; exact h1 j a (by omega)) (by rw [← hbelow i hi]; exact h2), hbelow i hi]
      have hl := codeAt_length S w (n / S)
      have e2 : w + 1 - 1 - i = (w - 1 - i) + 1 := by omega
      rw [e2, List.replicate_succ', codeAt, List.take_append_of_le_length (by omega)]
      simp
theorem codeAt_last (S : Nat) (hS : 0 < S) : ∀ w n, n < S ^ w → (∀ j : Nat, j < w → rd (codeAt S w n) j = (S : Int) - 1) → n + 1 = S ^ w
  | 0, n, h, _ => by simp at h; simp [h]
  | w + 1, n, h, h1 => by
    have hlast : rd (codeAt S (w + 1) n) w = ((n % S : Nat) : Int) := by
      rw [codeAt]; simp [rd, List.getD_eq_getElem?_getD, codeAt_length]
    have hbelow : ∀ j : Nat, j < w → rd (codeAt S (w + 1) n) j = rd (codeAt S w (n / S)) j := fun j hj => by
      rw [codeAt]; simp [rd, List.getD_eq_getElem?_getD, List.getElem?_append_left, codeAt_length, hj]
    have h3 := h1 w (by omega)
    rw [hlast] at h3
    have ih := codeAt_last S hS w (n / S) (by rw [Nat.div_lt_iff_lt_mul hS, ← Nat.pow_succ]; exact h) (fun j hj => by rw [← hbelow j hj]; exact h1 j (by omega))
    have hdm := Nat.div_add_mod n S
    have e : n % S + 1 = S := by omega
    calc n + 1 = S * (n / S) + (n % S + 1) := by omega
      _ = S * (n / S) + S := by rw [e]
      _ = S * (n / S + 1) := by rw [Nat.mul_add, Nat.mul_one]
      _ = S ^ (w + 1) := by rw [ih, Nat.pow_succ, Nat.mul_comm]
theorem codeAt_top (S : Nat) (hS : 0 < S) : ∀ w n, n + 1 = S ^ w → ∀ j : Nat, j < w → rd (codeAt S w n) j = (S : Int) - 1
  | 0, n, _, j, h => absurd h (Nat.not_lt_zero _)
  | w + 1, n, h, j, hj => by
    have hlast : rd (codeAt S (w + 1) n) w = ((n % S : Nat) : Int) := by
      rw [codeAt]; simp [rd, List.getD_eq_getElem?_getD, codeAt_length]
    have hbelow : ∀ j : Nat, j < w → rd (codeAt S (w + 1) n) j = rd (codeAt S w (n / S)) j := fun j hj => by
      rw [codeAt]; simp [rd, List.getD_eq_getElem?_getD, List.getElem?_append_left, codeAt_length, hj]
    have hdm := Nat.div_add_mod n S
    have hm := Nat.mod_lt n hS
    have hp : S ^ (w + 1) = S * S ^ w := by rw [Nat.pow_succ, Nat.mul_comm]
    have e1 : n % S + 1 = S := by
      have : (n + 1) % S = 0 := by rw [h, hp]; exact Nat.mul_mod_right _ _
      rw [Nat.add_mod] at this
      by_cases e : n % S + 1 < S
      · have hS1 : 1 % S = 1 := Nat.mod_eq_of_lt (by omega)
        rw [hS1, Nat.mod_eq_of_lt e] at this
        omega
      · omega
    have e2 : n / S + 1 = S ^ w := by
      refine Nat.eq_of_mul_eq_mul_left hS ?_
      rw [← hp, Nat.mul_add]; omega
    by_cases e : j = w
    · subst e; rw [hlast]; omega
    · rw [hbelow j (by omega)]; exact codeAt_top S hS w (n / S) e2 j (by omega)
def codesN (S w : Nat) (m : Nat) : List (List Int) := (List.range m).map (codeAt S w)
def allCodes (S w : Nat) : List (List Int) := codesN S w (S ^ w)
theorem codesN_succ (S w m : Nat) : codesN S w (m + 1) = codesN S w m ++ [codeAt S w m] := by simp [codesN, List.range_succ]
theorem codesN_prefix (S w : Nat) {m k : Nat} (h : m ≤ k) : codesN S w m <+: codesN S w k := by
  have : codesN S w m = (codesN S w k).take m := by
    unfold codesN; rw [← List.map_take, List.take_range, Nat.min_eq_left h]
  rw [this]; exact List.take_prefix _ _
def ints (l : List Int) : Array Value := (l.map (Value.int .i64)).toArray
theorem ints_get (l : List Int) (i : Nat) (h : i < l.length) : (ints l)[i]? = some (.int .i64 (rd l i)) := by
  simp [ints, h, rd, List.getD_eq_getElem?_getD]
theorem ints_set (l : List Int) (i : Nat) (x : Int) : (ints l).setIfInBounds i (.int .i64 x) = ints (l.set i x) := by
  apply Array.ext'; simp [ints, List.map_set]
def heapVal (S D : Nat) (w : World) : Nat := match w.heap[D]? with
  | some (.cells a _ _) => valOf S (a.toList.map intOf)
  | _ => 0
theorem heapVal_eq {S D : Nat} {w : World} {l : List Int} {t : TypeId} (h : w.heap[D]? = some (.cells (ints l) t (0, 0))) : heapVal S D w = valOf S l := by
  unfold heapVal; rw [h]
  have : (List.map intOf (ints l).toList) = l := by
    simp only [ints, List.map_map]
    conv => rhs; rw [← List.map_id l]
    apply List.map_congr_left; intro a _; rfl
  simp only [this]
theorem odo_gen (c : List Int) (n j : Nat) (x : Int) (hc : c.length = n) (hj : j < n) : (c.take (j + 1) ++ List.replicate (n - (j + 1)) 0).set j x = c.take j ++ [x] ++ List.replicate (n - (j + 1)) 0 := by
  have h1 : (c.take j).length = j := by rw [List.length_take]; omega
  rw [List.set_append_left _ _ (by rw [List.length_take]; omega), List.take_succ_eq_append_getElem (by omega), List.set_append_right _ _ (by rw [h1]; exact Nat.le_refl _), h1, Nat.sub_self]
  rfl
theorem odo_set (c : List Int) (n j : Nat) (hc : c.length = n) (hj : j < n) : (c.take (j + 1) ++ List.replicate (n - (j + 1)) 0).set j 0 = c.take j ++ List.replicate (n - j) 0 := by
  rw [odo_gen c n j 0 hc hj, show n - j = (n - (j + 1)) + 1 from by omega, List.replicate_succ]; simp
theorem odo_rd (c : List Int) (n j : Nat) (hc : c.length = n) (hj : j < n) : rd (c.take (j + 1) ++ List.replicate (n - (j + 1)) 0) j = rd c j := by
  have h1 : j < (c.take (j + 1)).length := by rw [List.length_take]; omega
  simp only [rd, List.getD_eq_getElem?_getD, Int.toNat_natCast]
  rw [List.getElem?_append_left h1, List.getElem?_take, if_pos (by omega)]
theorem odo_inc (c : List Int) (n j : Nat) (x : Int) (hc : c.length = n) (hj : j < n) : (c.take (j + 1) ++ List.replicate (n - (j + 1)) 0).set j x = c.take j ++ [x] ++ List.replicate (n - 1 - j) 0 := by
  rw [odo_gen c n j x hc hj, show n - 1 - j = n - (j + 1) from by omega]
theorem odo_len (c : List Int) (n k : Nat) (hc : c.length = n) (hk : k ≤ n) : (c.take k ++ List.replicate (n - k) 0).length = n := by
  rw [List.length_append, List.length_take, List.length_replicate]; omega
end Go.Proofs.Ytimkchehdaadeaa.P
end
section
namespace Go.Proofs.Ytimkchehdaadeaa.P
open Go.RowKit Go.Proofs.YtimkchehdaadeaaW.PrintWords Go.Proofs.YtimkchehdaadeaaW.PrintLast Go.Proofs.YtimkchehdaadeaaW.PrintMore
set_option linter.unusedVariables false
set_option linter.unusedSimpArgs false
theorem isCode_dig {W S : Int} {l : List Int} (hS : S ≤ 10) (h : isCodeB W S l = true) : (l.length : Int) = W ∧ dig l := by
  rw [isCodeB_iff] at h
  exact ⟨h.1, fun x hx => by have := h.2 x hx; omega⟩
theorem okC_of_valid {W S : Int} {q : S36} {c : List Int} (hl : okLock W S) (hq : validC W S q = true) (hc : isCodeB W S c = true) : okC q c := by
  obtain ⟨h1, h2, h3, h4⟩ := hl
  obtain ⟨hcl, hcd⟩ := isCode_dig h4 hc
  unfold validC validB at hq
  unfold okC okPlain inLen
  by_cases k1 : q.f0 = 1
  · rw [if_pos k1] at hq ⊢
    simp only [Bool.and_eq_true, inRange_iff, decide_eq_true_eq, beq_iff_eq, bne_iff_ne] at hq
    omega
  rw [if_neg k1] at hq ⊢
  by_cases k2 : q.f0 = 2
  · rw [if_pos k2] at hq ⊢
    simp only [Bool.and_eq_true, inRange_iff, decide_eq_true_eq, beq_iff_eq, bne_iff_ne] at hq
    exact ⟨by omega, by omega, by omega, hcd, by omega⟩
  rw [if_neg k2] at hq ⊢
  by_cases k3 : q.f0 = 3
  · rw [if_pos k3] at hq ⊢
    simp only [Bool.and_eq_true, inRange_iff, decide_eq_true_eq, beq_iff_eq, bne_iff_ne] at hq
    omega
  rw [if_neg k3] at hq ⊢
  by_cases k4 : q.f0 = 4
  · rw [if_pos k4] at hq ⊢
    simp only [Bool.and_eq_true, inRange_iff, decide_eq_true_eq, beq_iff_eq, bne_iff_ne] at hq
    omega
  rw [if_neg k4] at hq ⊢
  by_cases k5 : q.f0 = 5
  · rw [if_pos k5]; trivial
  rw [if_neg k5] at hq ⊢
  by_cases k6 : q.f0 = 6
  · rw [if_pos k6] at hq ⊢
    simp only [Bool.and_eq_true, inRange_iff, decide_eq_true_eq, beq_iff_eq, bne_iff_ne] at hq
    obtain ⟨hgl, hgd⟩ := isCode_dig h4 hq.2.2.1
    exact ⟨by omega, hcd, hgd⟩
  rw [if_neg k6] at hq ⊢
  by_cases k7 : q.f0 = 7
  · rw [if_pos k7] at hq ⊢
    simp only [Bool.and_eq_true, inRange_iff, decide_eq_true_eq, beq_iff_eq, bne_iff_ne] at hq
    omega
  rw [if_neg k7] at hq
  exact absurd hq (by simp)
theorem allCodes_isCode {s n : Nat} (hs : 0 < s) {c : List Int} (h : c ∈ allCodes s n) : isCodeB (n : Int) (s : Int) c = true := by
  unfold allCodes codesN at h
  obtain ⟨i, _, rfl⟩ := List.mem_map.1 h
  rw [isCodeB_iff]
  exact ⟨by rw [codeAt_length], fun x hx => by have := codeAt_range s hs n i x hx; omega⟩
theorem lock_nat {W S : Int} (h : okLock W S) : ∃ n s : Nat, W = n ∧ S = s ∧ 1 ≤ n ∧ n ≤ 4 ∧ 2 ≤ s ∧ s ≤ 10 := by
  obtain ⟨a, b, c, d⟩ := h
  exact ⟨W.toNat, S.toNat, by omega, by omega, by omega, by omega, by omega, by omega⟩
theorem codes_many {s n : Nat} (hn : n ≤ 4) (hs : s ≤ 10) : (allCodes s n).length ≤ 10000 := by
  unfold allCodes codesN
  rw [List.length_map, List.length_range]
  calc s ^ n ≤ 10 ^ n := Nat.pow_le_pow_left hs n
    _ ≤ 10 ^ 4 := Nat.pow_le_pow_right (by omega) hn
    _ = 10000 := rfl
theorem ok_all {s n : Nat} (hl : okLock (n : Int) (s : Int)) {l : List S36} (h : l.all (validC n s) = true) : ∀ c ∈ allCodes s n, ∀ q ∈ l, okC q c := fun c hc q hq =>
  okC_of_valid hl (List.all_eq_true.1 h q hq) (allCodes_isCode (by have := hl.2.2.1; omega) hc)
end Go.Proofs.Ytimkchehdaadeaa.P
end
