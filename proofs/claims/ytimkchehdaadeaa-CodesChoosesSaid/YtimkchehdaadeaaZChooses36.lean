/- Part 36 of a proof: the statement CodesChooses: for every input its law returns true (its texts without what nothing here names). -/
import Derived.Test.YtimkchehdaadeaaZChooses30
import Derived.Test.YtimkchehdaadeaaZChooses35

namespace Go.Proofs.Ytimkchehdaadeaa.P
open Go.RowKit Go.Proofs.YtimkchehdaadeaaW.PrintWords Go.Proofs.YtimkchehdaadeaaW.PrintLast Go.Proofs.YtimkchehdaadeaaW.PrintMore
set_option linter.unusedVariables false
set_option linter.unusedSimpArgs false
theorem codeAt_digit (s : Nat) : ∀ w m j, j < w → rd (codeAt s w m) (j : Nat) = ((m / s ^ (w - 1 - j) % s : Nat) : Int)
  | 0, m, j, h => absurd h (Nat.not_lt_zero _)
  | w + 1, m, j, h => by
    by_cases e : j = w
    · subst e
      have : rd (codeAt s (j + 1) m) j = ((m % s : Nat) : Int) := by
        rw [codeAt]; simp [rd, List.getD_eq_getElem?_getD, codeAt_length]
      rw [this]; simp
    · have hj : j < w := by omega
      have : rd (codeAt s (w + 1) m) j = rd (codeAt s w (m / s)) j := by
        rw [codeAt]; simp [rd, List.getD_eq_getElem?_getD, List.getElem?_append_left, codeAt_length, hj]
      rw [this, codeAt_digit s w (m / s) j hj, Nat.div_div_eq_div_mul, show w + 1 - 1 - j = (w - 1 - j) + 1 from by omega, Nat.pow_succ, Nat.mul_comm]
theorem set_back (c : List Int) (n j : Nat) (hc : c.length = n) (hj : j < n) : (List.replicate (j + 1) 0 ++ c.drop (j + 1)).set j (rd c j) = List.replicate j 0 ++ c.drop j := by
  have h1 : (List.replicate j (0 : Int)).length = j := by simp
  rw [List.replicate_succ', List.append_assoc, List.set_append_right _ _ (by rw [h1]; exact Nat.le_refl _), h1, Nat.sub_self, List.drop_eq_getElem_cons (show j < c.length by omega), rd_get c j (by omega)]
  rfl
theorem tmod_nat (a b : Nat) : Int.tmod (a : Int) (b : Int) = ((a % b : Nat) : Int) := rfl
theorem tdiv_nat (a b : Nat) : Int.tdiv (a : Int) (b : Int) = ((a / b : Nat) : Int) := rfl
section
variable {n s : Nat} (hl : okLock (n : Int) (s : Int)) {l : List S36} (hv : l.all (validC (n : Int) (s : Int)) = true) (hn : l.length ≤ 9223372036854775807)
include hl hv hn
theorem All_l2 (m : Nat) (hm : m < s ^ n) (out : List (List Int)) (ho : out.length ≤ 10000) (R : List (List Int))
    (next : Ev (fun k => padlockref01_All.l1 k l ((s ^ n : Nat) : Int) (if fitsAll l (codeAt s n m) then out ++ [codeAt s n m] else out) ((m + 1 : Nat) : Int) n s) R) (hbig : s ^ n ≤ 10000) :
    ∀ j : Nat, j ≤ n → Ev (fun k => padlockref01_All.l2 k l ((s ^ n : Nat) : Int) out m (List.replicate j 0 ++ (codeAt s n m).drop j) ((m / s ^ (n - j) : Nat) : Int) ((j : Int) - 1) n s) R := by
  have hs : 2 ≤ s ∧ s ≤ 10 := by have := hl.2.2; omega
  have hn4 : n ≤ 4 := by have := hl.2.1; omega
  intro j
  induction j with
  | zero =>
    intro hj
    have hmem : codeAt s n m ∈ allCodes s n := by unfold allCodes codesN; exact List.mem_map.2 ⟨m, List.mem_range.2 hm, rfl⟩
    have hcl := codeAt_length s n m
    have hf := first_ev l (codeAt s n m) hn (by omega) (fun q hq => ok_all hl hv _ hmem q hq)
    refine Ev.step (f := fun k => (padlockref01_first.f k l (codeAt s n m)).bind fun t => if t < 0 then padlockref01_All.l1 k l ((s ^ n : Nat) : Int) (out ++ [codeAt s n m]) ((m + 1 : Nat) : Int) n s else padlockref01_All.l1 k l ((s ^ n : Nat) : Int) out ((m + 1 : Nat) : Int) n s) (fun k => ?_) ?_
    · simp only [padlockref01_All.l2]
      rw [if_neg (by omega), List.replicate_zero, List.nil_append, List.drop_zero, wrap_next (n := 10000) (by omega) (by omega)]
      simp only [show out.length < 5864062014805 from by omega, if_true]
    · refine Ev.bind hf ?_
      have hd := fails_fits l (codeAt s n m)
      by_cases hb : fitsAll l (codeAt s n m) = true
      · rw [hb] at hd
        simp only [hb, if_true] at next
        simp only [of_decide_eq_true hd, if_true]
        exact next
      · have hb' : fitsAll l (codeAt s n m) = false := by simpa using hb
        rw [hb'] at hd
        simp only [hb', Bool.false_eq_true, if_false] at next
        simp only [of_decide_eq_false hd, if_false]
        exact next
  | succ j ih =>
    intro hj
    have hcl := codeAt_length s n m
    have hlen : (List.replicate (j + 1) (0 : Int) ++ (codeAt s n m).drop (j + 1)).length = n := by
      rw [List.length_append, List.length_replicate, List.length_drop, hcl]; omega
    have hdig := codeAt_digit s n m j (by omega)
    have := ih (by omega)
    rw [← set_back (codeAt s n m) n j hcl (by omega), hdig] at this
    refine Ev.step (fun k => ?_) this
    simp only [padlockref01_All.l2]
    rw [show ((j + 1 : Nat) : Int) - 1 = (j : Int) from by omega, if_pos (by omega), if_neg (by omega), if_pos (by omega), if_pos (by rw [hlen]; omega), tmod_nat, tdiv_nat, Int.toNat_natCast, show n - (j + 1) = n - 1 - j from by omega]
    have hdiv : m / s ^ (n - 1 - j) / s ≤ m := Nat.le_trans (Nat.div_le_self _ _) (Nat.div_le_self _ _)
    have hw : ∀ x : Nat, x ≤ m → wrap64 (x : Int) = x := fun x hx => wrap_small (by omega) (by omega)
    rw [hw _ hdiv, wrap_small (x := (j : Int) - 1) (by omega) (by omega), Nat.div_div_eq_div_mul, ← Nat.pow_succ, show (n - 1 - j).succ = n - j from by omega]
theorem All_l1 (hbig : s ^ n ≤ 10000) (d : Nat) : ∀ m : Nat, m ≤ s ^ n → s ^ n - m = d → Ev (fun k => padlockref01_All.l1 k l ((s ^ n : Nat) : Int) ((codesN s n m).filter (fitsAll l)) m n s) (readingsL s n l) := by
  have hs : 2 ≤ s ∧ s ≤ 10 := by have := hl.2.2; omega
  have hn4 : n ≤ 4 := by have := hl.2.1; omega
  induction d with
  | zero =>
    intro m h0 h1
    obtain rfl : m = s ^ n := by omega
    refine Ev.step (f := fun _ => some (readingsL s n l)) (fun k => ?_) (Ev.now _)
    simp only [padlockref01_All.l1]
    rw [if_neg (by omega)]; rfl
  | succ d ih =>
    intro m h0 h1
    have hlen : ((codesN s n m).filter (fitsAll l)).length ≤ 10000 := by
      refine Nat.le_trans (List.length_filter_le _ _) ?_
      unfold codesN; simp; omega
    have nx := ih (m + 1) (by omega) (by omega)
    rw [codesN_succ, List.filter_append] at nx
    have nx2 : Ev (fun k => padlockref01_All.l1 k l ((s ^ n : Nat) : Int) (if fitsAll l (codeAt s n m) then (codesN s n m).filter (fitsAll l) ++ [codeAt s n m] else (codesN s n m).filter (fitsAll l)) ((m + 1 : Nat) : Int) n s) (readingsL s n l) := by
      by_cases hb : fitsAll l (codeAt s n m) = true
      · simp only [hb, if_true]
        simpa [List.filter_cons, hb] using nx
      · simp only [hb]
        simpa [List.filter_cons, hb] using nx
    have := All_l2 hl hv hn m (by omega) _ hlen _ nx2 hbig n (Nat.le_refl _)
    rw [Nat.sub_self, Nat.pow_zero, Nat.div_one, List.drop_of_length_le (Nat.le_of_eq (codeAt_length s n m)), List.append_nil] at this
    refine Ev.step (fun k => ?_) this
    simp only [padlockref01_All.l1]
    rw [if_pos (by omega), if_pos (by omega), if_pos (by omega), Int.toNat_natCast, wrap_small (x := (n : Int) - 1) (by omega) (by omega)]
theorem All_l0 (hbig : s ^ n ≤ 10000) (d : Nat) : ∀ i : Nat, i ≤ n → n - i = d → Ev (fun k => padlockref01_All.l0 k l ((s ^ i : Nat) : Int) i n s) (readingsL s n l) := by
  have hs : 2 ≤ s ∧ s ≤ 10 := by have := hl.2.2; omega
  have hn4 : n ≤ 4 := by have := hl.2.1; omega
  induction d with
  | zero =>
    intro i h0 h1
    obtain rfl : i = n := by omega
    have := All_l1 hl hv hn hbig _ 0 (Nat.zero_le _) rfl
    refine Ev.step (fun k => ?_) this
    simp only [padlockref01_All.l0]
    rw [if_neg (by omega)]; rfl
  | succ d ih =>
    intro i h0 h1
    have := ih (i + 1) (by omega) (by omega)
    refine Ev.step (fun k => ?_) this
    have hp : s ^ (i + 1) ≤ 10000 := Nat.le_trans (Nat.pow_le_pow_right (by omega) (by omega)) hbig
    simp only [padlockref01_All.l0]
    have e : ((s ^ i : Nat) : Int) * (s : Int) = ((s ^ (i + 1) : Nat) : Int) := by rw [Nat.pow_succ, Int.natCast_mul]
    rw [if_pos (by omega), wrap_next (n := 4) (by omega) (by omega), e, wrap_small (by omega) (by omega)]
end
theorem All_ev {W S : Int} (hl : okLock W S) {l : List S36} (hv : l.all (validC W S) = true) (hn : l.length ≤ 9223372036854775807) : Ev (fun k => padlockref01_All.f k W S l) (readingsL S.toNat W.toNat l) := by
  obtain ⟨n, s, rfl, rfl, hn1, hn4, hs2, hs10⟩ := lock_nat hl
  simp only [Int.toNat_natCast]
  have hbig : s ^ n ≤ 10000 := by
    calc s ^ n ≤ 10 ^ n := Nat.pow_le_pow_left hs10 n
      _ ≤ 10 ^ 4 := Nat.pow_le_pow_right (by omega) hn4
      _ = 10000 := rfl
  have := All_l0 hl hv hn hbig _ 0 (Nat.zero_le _) rfl
  simpa [padlockref01_All.f] using this
end Go.Proofs.Ytimkchehdaadeaa.P
