/- Part 46 of a proof: the statement CodesCores: for every input its law returns true (its texts without what nothing here names). -/
import Derived.Test.YtimkchehdaadeaaZCores31
import Derived.Test.YtimkchehdaadeaaZCores32
import Derived.Test.YtimkchehdaadeaaZCores42
import Derived.Test.YtimkchehdaadeaaZCores44
import Derived.Test.YtimkchehdaadeaaZCores45

section
namespace Go.Proofs.Ytimkchehdaadeaa.P
open Go.RowKit Go.Proofs.YtimkchehdaadeaaW.PrintWords Go.Proofs.YtimkchehdaadeaaW.PrintLast Go.Proofs.YtimkchehdaadeaaW.PrintMore
set_option linter.unusedVariables false
set_option linter.unusedSimpArgs false
def castL (l : List Nat) : List Int := l.map fun i : Nat => (i : Int)
def pick (l : List S36) (L : List Nat) : List S36 := L.map fun i : Nat => rd_T36 l (i : Int)
def numsB (b : Int) (m : Nat) : List Nat := (List.range m).filter fun i : Nat => decide ((i : Int) ≠ b)
theorem castL_len (l : List Nat) : (castL l).length = l.length := by simp [castL]
theorem castL_snoc (l : List Nat) (x : Nat) : castL (l ++ [x]) = castL l ++ [(x : Int)] := by simp [castL]
theorem castL_rd (l : List Nat) (i : Nat) (h : i < l.length) : rd (castL l) (i : Int) = (l[i] : Int) := by
  rw [rd_get _ i (by rw [castL_len]; exact h)]; simp [castL]
theorem numsB_len (b : Int) (m : Nat) : (numsB b m).length ≤ m := Nat.le_trans (List.length_filter_le _ _) (by simp)
theorem numbers_l0 (b : Int) (m : Nat) (hm : m ≤ 1000) (d : Nat) : ∀ i : Nat, i ≤ m → m - i = d → Ev (fun k => padlockref01_numbers.l0 k (m : Int) b (castL (numsB b i)) i) (castL (numsB b m)) := by
  induction d with
  | zero =>
    intro i h0 h1
    obtain rfl : i = m := by omega
    refine Ev.step (f := fun _ => some (castL (numsB b i))) (fun k => ?_) (Ev.now _)
    simp only [padlockref01_numbers.l0]
    rw [if_neg (by omega)]
  | succ d ih =>
    intro i h0 h1
    have nx := ih (i + 1) (by omega) (by omega)
    have hs : numsB b (i + 1) = if (i : Int) = b then numsB b i else numsB b i ++ [i] := by
      unfold numsB
      rw [List.range_succ, List.filter_append]
      by_cases h : (i : Int) = b <;> simp [List.filter_cons, h]
    have hl := numsB_len b i
    refine Ev.step (fun k => ?_) nx
    simp only [padlockref01_numbers.l0]
    rw [if_pos (by omega), hs]
    by_cases h : (i : Int) = b
    · rw [if_pos h, if_pos h, wrap_next (n := 1000) (by omega) (by omega)]
    · rw [if_neg h, if_neg h, castL_len, if_pos (by omega), castL_snoc, wrap_next (n := 1000) (by omega) (by omega)]
theorem numbers_ev (b : Int) (m : Nat) (hm : m ≤ 1000) : Ev (fun k => padlockref01_numbers.f k (m : Int) b) (castL (numsB b m)) := numbers_l0 b m hm _ 0 (Nat.zero_le _) rfl
theorem Some_l0 (l : List S36) (L : List Nat) (hL : ∀ i ∈ L, i < l.length) (hm : L.length ≤ 1000) (d : Nat) : ∀ i : Nat, i ≤ L.length → L.length - i = d → Ev (fun k => padlockref01_Some.l0 k l (castL L) (pick l (L.take i)) i) (pick l L) := by
  induction d with
  | zero =>
    intro i h0 h1
    obtain rfl : i = L.length := by omega
    refine Ev.step (f := fun _ => some (pick l L)) (fun k => ?_) (Ev.now _)
    simp only [padlockref01_Some.l0]
    rw [if_neg (by rw [castL_len]; omega), List.take_length]
  | succ d ih =>
    intro i h0 h1
    have hi : i < L.length := by omega
    have nx := ih (i + 1) (by omega) (by omega)
    have hx := hL L[i] (List.getElem_mem hi)
    have hpl : (pick l (L.take i)).length ≤ 1000 := by simp [pick]; omega
    have hp : pick l (L.take (i + 1)) = pick l (L.take i) ++ [rd_T36 l (L[i] : Int)] := by
      unfold pick
      rw [List.take_succ_eq_append_getElem hi, List.map_append]; rfl
    refine Ev.step (fun k => ?_) nx
    simp only [padlockref01_Some.l0]
    rw [if_pos (by rw [castL_len]; omega), if_pos (by omega), castL_rd L i hi, if_pos (by omega), if_pos (by omega), if_pos (by omega), hp, wrap_next (n := 1000) (by omega) (by omega)]
theorem Some_ev (l : List S36) (L : List Nat) (hL : ∀ i ∈ L, i < l.length) (hm : L.length ≤ 1000) : Ev (fun k => padlockref01_Some.f k l (castL L)) (pick l L) := Some_l0 l L hL hm _ 0 (Nat.zero_le _) rfl
theorem erase_range (l : List S36) : ∀ (i : Nat), ((List.range l.length).filter fun j => decide (j ≠ i)).map (fun j => l.getD j z36) = l.eraseIdx i := by
  induction l with
  | nil => intro i; simp
  | cons x t ih =>
    intro i
    rw [List.length_cons, List.range_succ_eq_map]
    rcases i with _ | i
    · have : (List.map Nat.succ (List.range t.length)).filter (fun j => decide (j ≠ 0)) = List.map Nat.succ (List.range t.length) := by
        rw [List.filter_eq_self]
        intro a ha
        obtain ⟨b, _, rfl⟩ := List.mem_map.1 ha
        simp
      rw [List.filter_cons_of_neg (by simp), this, List.map_map]
      simp only [List.eraseIdx_cons_zero]
      apply List.ext_getElem?
      intro k
      rw [List.getElem?_map]
      by_cases hk : k < t.length
      · rw [List.getElem?_range hk]
        simp [List.getD_eq_getElem?_getD, hk]
      · simp [hk]
    · rw [List.filter_cons_of_pos (by simp), List.filter_map, List.map_cons, List.map_map]
      have h2 := ih i
      simp only [List.eraseIdx_cons_succ]
      rw [← h2]
      congr 1
      · have : (fun j => decide (j ≠ i + 1)) ∘ Nat.succ = fun j => decide (j ≠ i) := by
          funext j; simp
        rw [this]
        apply List.map_congr_left
        intro a _
        simp
theorem pick_erase (l : List S36) (i : Nat) : pick l (numsB (i : Int) l.length) = l.eraseIdx i := by
  rw [← erase_range l i]
  unfold pick numsB
  have : (fun j : Nat => decide ((j : Int) ≠ (i : Int))) = fun j => decide (j ≠ i) := by
    funext j; exact decide_eq_decide.2 (by omega)
  rw [this]
  apply List.map_congr_left
  intro a _
  simp [rd_T36]
theorem RAll_sub {W S : Int} (hl : okLock W S) {l : List S36} (hv : l.all (validC W S) = true) (hn : l.length ≤ 1000) : Ev (fun k => padlockref01_All.f k W S l) (readingsL S.toNat W.toNat l) := All_ev hl hv (by omega)
section
variable {n s : Nat} (hl : okLock (n : Int) (s : Int)) {l : List S36} (hv : l.all (validC (n : Int) (s : Int)) = true) (hm : l.length ≤ 20)
include hl hv hm
theorem Idle_l0 (d : Nat) : ∀ i : Nat, i ≤ l.length → l.length - i = d → Ev (fun k => padlockref01_Idle.l0 k l (((readingsL s n l).length : Nat) : Int) (idleTo s n l i) i n s) (idleTo s n l l.length, 0) := by
  induction d with
  | zero =>
    intro i h0 h1
    obtain rfl : i = l.length := by omega
    refine Ev.step (f := fun _ => some (idleTo s n l l.length, 0)) (fun k => ?_) (Ev.now _)
    simp only [padlockref01_Idle.l0]
    rw [if_neg (by omega)]
  | succ d ih =>
    intro i h0 h1
    have hi : i < l.length := by omega
    have nx := ih (i + 1) (by omega) (by omega)
    have hn := numbers_ev (i : Int) l.length (by omega)
    have hs := Some_ev l (numsB (i : Int) l.length) (fun j hj => List.mem_range.1 (List.mem_filter.1 hj).1) (by have := numsB_len (i : Int) l.length; omega)
    rw [pick_erase] at hs
    have ha := RAll_sub hl (all_erase hv i) (by have := List.length_eraseIdx_le l i; omega)
    simp only [Int.toNat_natCast] at ha
    have hlen := idleTo_len s n l i
    refine Ev.step (f := fun k => (padlockref01_numbers.f k (l.length : Int) (i : Int)).bind fun t => (padlockref01_Some.f k l t).bind fun t2 => (padlockref01_All.f k n s t2).bind fun t3 => if (t3.length : Int) = (((readingsL s n l).length : Nat) : Int) then (if (idleTo s n l i).length < 17592186044416 then padlockref01_Idle.l0 k l (((readingsL s n l).length : Nat) : Int) (idleTo s n l i ++ [(i : Int)]) ((i + 1 : Nat) : Int) n s else none) else padlockref01_Idle.l0 k l (((readingsL s n l).length : Nat) : Int) (idleTo s n l i) ((i + 1 : Nat) : Int) n s) (fun k => ?_) ?_
    · simp only [padlockref01_Idle.l0]
      rw [if_pos (by omega), wrap_next (n := 1000) (by omega) (by omega)]
    · refine Ev.bind hn (Ev.bind hs (Ev.bind ha ?_))
      have hsuc := idleTo_succ s n l i
      unfold idleP at hsuc
      by_cases hq : (readingsL s n (l.eraseIdx i)).length = (readingsL s n l).length
      · rw [if_pos (beq_iff_eq.2 hq)] at hsuc
        rw [hsuc] at nx
        simp only [if_pos (show (((readingsL s n (l.eraseIdx i)).length : Nat) : Int) = (((readingsL s n l).length : Nat) : Int) by omega), if_pos (show (idleTo s n l i).length < 17592186044416 by omega)]
        exact nx
      · rw [if_neg (fun e => hq (beq_iff_eq.1 e))] at hsuc
        rw [hsuc] at nx
        simp only [if_neg (show ¬ (((readingsL s n (l.eraseIdx i)).length : Nat) : Int) = (((readingsL s n l).length : Nat) : Int) by omega)]
        exact nx
end
theorem RIdle_ev (W S : Int) (l : List S36) (h1 : l.length ≤ 9223372036854775807) : Ev (fun k => padlockref01_Idle.f k W S l) (idleS W S l) := by
  unfold padlockref01_Idle.f idleS
  refine Ev.bind (RCount_ev W S l h1) ?_
  unfold countS
  by_cases h : checkCluesS W S l = 0
  · obtain ⟨hl, hm, hv⟩ := checkClues_ok h
    obtain ⟨n, s, rfl, rfl, hn1, hn4, hs2, hs10⟩ := lock_nat hl
    simp only [if_pos h, Int.toNat_natCast, if_true]
    exact Idle_l0 hl hv hm _ 0 (Nat.zero_le _) rfl
  · simp only [if_neg h]
    exact Ev.now _
end Go.Proofs.Ytimkchehdaadeaa.P
end
section
namespace Go.Proofs.Ytimkchehdaadeaa.P
open Go.RowKit Go.Proofs.YtimkchehdaadeaaW.PrintWords Go.Proofs.YtimkchehdaadeaaW.PrintLast Go.Proofs.YtimkchehdaadeaaW.PrintMore
set_option linter.unusedVariables false
set_option linter.unusedSimpArgs false
set_option linter.unusedSectionVars false
theorem pick_all (l : List S36) : pick l (List.range l.length) = l := by
  unfold pick
  apply List.ext_getElem?
  intro k
  rw [List.getElem?_map]
  by_cases hk : k < l.length
  · rw [List.getElem?_range hk]
    simp [rd_T36, List.getD_eq_getElem?_getD, hk]
  · simp [hk]
theorem numsB_none (m : Nat) : numsB (-1) m = List.range m := by
  unfold numsB
  rw [List.filter_eq_self]
  intro a _
  exact decide_eq_true (by omega)
theorem few_of (Yn : List Nat) (i r : Nat) (hY : ∀ y ∈ Yn, y < i) : (Yn ++ List.range' i (r + 1)).filter (fun j => decide (j ≠ i)) = Yn ++ List.range' (i + 1) r := by
  rw [List.filter_append]
  congr 1
  · rw [List.filter_eq_self]
    intro a ha
    have := hY a ha
    exact decide_eq_true (by omega)
  · rw [List.range'_succ, List.filter_cons_of_neg (by simp), List.filter_eq_self]
    intro a ha
    have := (List.mem_range'_1.1 ha).1
    exact decide_eq_true (by omega)
theorem pick_few (l : List S36) (Yn : List Nat) (i r : Nat) : (pick l (Yn ++ List.range' i (r + 1))).eraseIdx (castL Yn).length = pick l (Yn ++ List.range' (i + 1) r) := by
  unfold pick
  rw [List.map_append, List.map_append, castL_len, List.eraseIdx_append_of_length_le (by simp), List.range'_succ]
  simp
section
variable {n s : Nat} (hl : okLock (n : Int) (s : Int)) {l : List S36} (hm : l.length ≤ 20)
include hl hm
theorem Core_l1 (N : Int) (L : List Nat) (hL : ∀ j ∈ L, j < l.length) (hLl : L.length ≤ 100) (i : Nat) (hi : i < l.length) (hv : (pick l (L.filter fun j => decide (j ≠ i))).all (validC (n : Int) (s : Int)) = true) (R : List Int × Int)
    (next : Ev (fun k => if (((readingsL s n (pick l (L.filter fun j => decide (j ≠ i)))).length : Nat) : Int) = N then padlockref01_Core.l0 k l N (castL (L.filter fun j => decide (j ≠ i))) ((i + 1 : Nat) : Int) n s else padlockref01_Core.l0 k l N (castL L) ((i + 1 : Nat) : Int) n s) R) (d : Nat) :
    ∀ j : Nat, j ≤ L.length → L.length - j = d → Ev (fun k => padlockref01_Core.l1 k l N (castL L) i (castL ((L.take j).filter fun j => decide (j ≠ i))) j n s) R := by
  induction d with
  | zero =>
    intro j h0 h1
    obtain rfl : j = L.length := by omega
    have hs := Some_ev l (L.filter fun j => decide (j ≠ i)) (fun j hj => hL j (List.mem_filter.1 hj).1) (by have := List.length_filter_le (fun j => decide (j ≠ i)) L; omega)
    have ha := RAll_sub hl hv (by unfold pick; rw [List.length_map]; have := List.length_filter_le (fun j => decide (j ≠ i)) L; omega)
    simp only [Int.toNat_natCast] at ha
    refine Ev.step (f := fun k => (padlockref01_Some.f k l (castL (L.filter fun j => decide (j ≠ i)))).bind fun t => (padlockref01_All.f k n s t).bind fun t2 => if (t2.length : Int) = N then padlockref01_Core.l0 k l N (castL (L.filter fun j => decide (j ≠ i))) ((i + 1 : Nat) : Int) n s else padlockref01_Core.l0 k l N (castL L) ((i + 1 : Nat) : Int) n s) (fun k => ?_) ?_
    · simp only [padlockref01_Core.l1]
      rw [if_neg (by rw [castL_len]; omega), List.take_length, wrap_next (n := 1000) (by omega) (by omega)]
    · exact Ev.bind hs (Ev.bind ha next)
  | succ d ih =>
    intro j h0 h1
    have hj : j < L.length := by omega
    have nx := ih (j + 1) (by omega) (by omega)
    have hfl : ((L.take j).filter fun j => decide (j ≠ i)).length ≤ j := by
      have := List.length_filter_le (fun j => decide (j ≠ i)) (L.take j)
      rw [List.length_take] at this; omega
    rw [List.take_succ_eq_append_getElem hj, List.filter_append] at nx
    refine Ev.step (fun k => ?_) nx
    simp only [padlockref01_Core.l1]
    rw [if_pos (by rw [castL_len]; omega), if_pos (by omega), castL_rd L j hj, wrap_next (n := 1000) (by omega) (by omega)]
    by_cases h : L[j] = i
    · rw [if_pos (by omega), List.filter_cons_of_neg (by simp [h]), List.filter_nil, List.append_nil]
    · rw [if_neg (by omega), castL_len, if_pos (by omega), List.filter_cons_of_pos (by simp [h]), List.filter_nil, castL_snoc]
theorem Core_l0 (hva : l.all (validC (n : Int) (s : Int)) = true) (d : Nat) : ∀ (i : Nat) (Yn : List Nat), i ≤ l.length → l.length - i = d → (∀ y ∈ Yn, y < i) → pick l (Yn ++ List.range' i d) = (coreTo s n l i).1 → castL Yn = (coreTo s n l i).2 →
    Ev (fun k => padlockref01_Core.l0 k l (((readingsL s n l).length : Nat) : Int) (castL (Yn ++ List.range' i d)) i n s) ((coreTo s n l l.length).2, 0) := by
  induction d with
  | zero =>
    intro i Yn h0 h1 hY hp hc
    obtain rfl : i = l.length := by omega
    refine Ev.step (f := fun _ => some ((coreTo s n l l.length).2, 0)) (fun k => ?_) (Ev.now _)
    simp only [padlockref01_Core.l0]
    rw [if_neg (by omega), show List.range' l.length 0 = [] from rfl, List.append_nil, hc]
  | succ d ih =>
    intro i Yn h0 h1 hY hp hc
    have hi : i < l.length := by omega
    have hL : ∀ j ∈ Yn ++ List.range' i (d + 1), j < l.length := fun j hj => by
      rcases List.mem_append.1 hj with h | h
      · have := hY j h; omega
      · have := (List.mem_range'_1.1 h).2; omega
    obtain ⟨hk1, hk2⟩ := coreTo_len s n l i (by omega)
    have hLl : (Yn ++ List.range' i (d + 1)).length ≤ 100 := by
      have : (Yn ++ List.range' i (d + 1)).length = (coreTo s n l i).1.length := by rw [← hp]; simp [pick]
      omega
    have hfew := few_of Yn i d hY
    have hpf := pick_few l Yn i d
    rw [hp, hc] at hpf
    have hvf : (pick l ((Yn ++ List.range' i (d + 1)).filter fun j => decide (j ≠ i))).all (validC (n : Int) (s : Int)) = true := by
      rw [hfew, ← hpf]; exact all_erase (coreTo_all s n hva i) _
    have hsuc := coreTo_succ s n l i
    unfold coreStep at hsuc
    rw [hpf] at hsuc
    refine Ev.step (fun k => ?_) (Core_l1 hl hm (((readingsL s n l).length : Nat) : Int) (Yn ++ List.range' i (d + 1)) hL hLl i hi hvf _ ?_ _ 0 (Nat.zero_le _) rfl)
    · simp only [padlockref01_Core.l0]
      rw [if_pos (by omega)]; rfl
    · rw [hfew]
      by_cases hq : (readingsL s n (pick l (Yn ++ List.range' (i + 1) d))).length = (readingsL s n l).length
      · rw [if_pos hq] at hsuc
        simp only [if_pos (show (((readingsL s n (pick l (Yn ++ List.range' (i + 1) d))).length : Nat) : Int) = (((readingsL s n l).length : Nat) : Int) by omega)]
        exact ih (i + 1) Yn (by omega) (by omega) (fun y hy => by have := hY y hy; omega) (by rw [hsuc]) (by rw [hsuc]; exact hc)
      · rw [if_neg hq] at hsuc
        simp only [if_neg (show ¬ (((readingsL s n (pick l (Yn ++ List.range' (i + 1) d))).length : Nat) : Int) = (((readingsL s n l).length : Nat) : Int) by omega)]
        have e : Yn ++ List.range' i (d + 1) = (Yn ++ [i]) ++ List.range' (i + 1) d := by rw [List.range'_succ, List.append_assoc]; rfl
        have nx := ih (i + 1) (Yn ++ [i]) (by omega) (by omega) (fun y hy => by
          rcases List.mem_append.1 hy with h | h
          · have := hY y h; omega
          · have := List.mem_singleton.1 h; omega) (by rw [← e, hp, hsuc]) (by rw [castL_snoc, hsuc, hc])
        rw [← e] at nx
        exact nx
end
theorem RCore_ev (W S : Int) (l : List S36) (h1 : l.length ≤ 9223372036854775807) : Ev (fun k => padlockref01_Core.f k W S l) (coreS W S l) := by
  unfold padlockref01_Core.f coreS
  refine Ev.bind (RCount_ev W S l h1) ?_
  unfold countS
  by_cases h : checkCluesS W S l = 0
  · obtain ⟨hl, hm, hv⟩ := checkClues_ok h
    obtain ⟨n, s, rfl, rfl, hn1, hn4, hs2, hs10⟩ := lock_nat hl
    simp only [if_pos h, Int.toNat_natCast, if_true]
    refine Ev.bind (numbers_ev (-1) l.length (by omega)) ?_
    rw [numsB_none]
    have := Core_l0 hl hm hv l.length 0 [] (Nat.zero_le _) rfl (fun y hy => by cases hy) (by rw [List.nil_append, ← List.range_eq_range', pick_all]; rfl) rfl
    rw [List.nil_append, ← List.range_eq_range'] at this
    exact this
  · simp only [if_neg h]
    exact Ev.now _
end Go.Proofs.Ytimkchehdaadeaa.P
end
