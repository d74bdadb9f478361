/- Part 48 of a proof: the statement CodesFewest: for every input its law returns true (its texts without what nothing here names). -/
import Derived.Test.YtimkchehdaadeaaZFewest27
import Derived.Test.YtimkchehdaadeaaZFewest31
import Derived.Test.YtimkchehdaadeaaZFewest46
import Derived.Test.YtimkchehdaadeaaZFewest47

namespace Go.Proofs.Ytimkchehdaadeaa.P
open Go.RowKit Go.Proofs.YtimkchehdaadeaaW.PrintWords Go.Proofs.YtimkchehdaadeaaW.PrintLast Go.Proofs.YtimkchehdaadeaaW.PrintMore
set_option linter.unusedVariables false
set_option linter.unusedSimpArgs false
theorem lexLt_pre (p a b : List Int) : lexLt (p ++ a) (p ++ b) = lexLt a b := by
  induction p with
  | nil => rfl
  | cons x p ih => simp only [List.cons_append, lexLt, if_true]; exact ih
theorem lexLt_self (a : List Int) : lexLt a a = false := by
  induction a with
  | nil => rfl
  | cons x a ih => simp only [lexLt, if_true]; exact ih
theorem castL_app (a b : List Nat) : castL (a ++ b) = castL a ++ castL b := by simp [castL]
theorem srch_first (T : List Nat → Bool) : ∀ (u : List Nat) (m : Nat) (b x : List Nat), u.Pairwise (· < ·) → x.Sublist u → x.length = m → T (b ++ x) = true → ∃ r, srch T m b u = some r ∧ lexLt (castL (b ++ x)) (castL r) = false
  | u, 0, b, x, hu, hx, hl, hT => by
    obtain rfl := List.eq_nil_of_length_eq_zero hl
    rw [List.append_nil] at hT ⊢
    exact ⟨b, by rw [srch_zero, if_pos hT], lexLt_self _⟩
  | [], m + 1, b, x, hu, hx, hl, hT => by
    obtain rfl := List.sublist_nil.1 hx
    cases hl
  | i :: u, m + 1, b, x, hu, hx, hl, hT => by
    obtain ⟨hi, hu'⟩ := List.pairwise_cons.1 hu
    rcases List.sublist_cons_iff.1 hx with hx' | ⟨x', rfl, hx'⟩
    · rcases h1 : srch T m (b ++ [i]) u with _ | r
      · rw [srch_miss h1]
        exact srch_first T u (m + 1) b x hu' hx' hl hT
      · refine ⟨r, srch_hit h1, ?_⟩
        obtain ⟨y, rfl, hy, hys, _⟩ := srch_some T u m (b ++ [i]) r h1
        rw [List.append_assoc, castL_app, castL_app, lexLt_pre]
        rcases x with _ | ⟨j, x⟩
        · cases hl
        · have hj : i < j := hi j (hx'.subset List.mem_cons_self)
          show lexLt ((j : Int) :: castL x) ((i : Int) :: castL y) = false
          simp only [lexLt]
          rw [if_neg (by omega)]
          exact decide_eq_false (by omega)
    · obtain ⟨r, h1, h2⟩ := srch_first T u m (b ++ [i]) x' hu' hx' (by simpa using hl) (by rw [List.append_assoc]; exact hT)
      exact ⟨r, srch_hit h1, by rw [List.append_assoc] at h2; exact h2⟩
theorem sub_usable {l : List S36} {code : List Int} {ch : List Nat} (h1 : ch.Pairwise (· < ·)) (h2 : ∀ i ∈ ch, i < l.length) (h3 : fitsAll (pick l ch) code = true) : ch.Sublist (usable l code l.length) := by
  have hmem : ∀ i ∈ ch, i ∈ usable l code l.length := fun i hi => by
    unfold usable
    refine List.mem_filter.2 ⟨List.mem_range.2 (h2 i hi), ?_⟩
    unfold fitsAll at h3
    rw [Bool.not_eq_true', List.any_eq_false] at h3
    have := h3 (rd_T36 l (i : Int)) (List.mem_map.2 ⟨i, hi, rfl⟩)
    simpa using this
  have hs : (usable l code l.length).Pairwise (· < ·) := List.Pairwise.filter _ List.pairwise_lt_range
  have key : ∀ (a u : List Nat), a.Pairwise (· < ·) → u.Pairwise (· < ·) → (∀ i ∈ a, i ∈ u) → a.Sublist u := by
    intro a u
    induction u generalizing a with
    | nil =>
      intro _ _ h
      rcases a with _ | ⟨x, a⟩
      · exact List.nil_sublist _
      · exact absurd (h x List.mem_cons_self) (by simp)
    | cons y u ih =>
      intro ha hu h
      obtain ⟨hy, hu'⟩ := List.pairwise_cons.1 hu
      rcases a with _ | ⟨x, a⟩
      · exact List.nil_sublist _
      · obtain ⟨hx, ha'⟩ := List.pairwise_cons.1 ha
        by_cases e : x = y
        · subst e
          refine (ih a ha' hu' (fun i hi => ?_)).cons_cons _
          rcases List.mem_cons.1 (h i (List.mem_cons_of_mem _ hi)) with e | h1
          · have := hx i hi; omega
          · exact h1
        · refine (ih (x :: a) ha hu' (fun i hi => ?_)).cons _
          have hxu : x ∈ u := by
            rcases List.mem_cons.1 (h x List.mem_cons_self) with e2 | h1
            · exact absurd e2 e
            · exact h1
          rcases List.mem_cons.1 hi with rfl | hi'
          · exact hxu
          · rcases List.mem_cons.1 (h i hi) with e2 | h1
            · have h3 := hx i hi'; have h4 := hy x hxu; omega
            · exact h1
  exact key ch _ h1 hs hmem
def aloneB (s n : Nat) (l : List S36) (ch : List Nat) (code : List Int) : Bool := oneT s n l ch && fitsAll (pick l ch) code
theorem found_alone {s n : Nat} {l : List S36} {code : List Int} {b : List Nat} (h : findN (fun m => srch (oneT s n l) m [] (usable l code l.length)) 1 (usable l code l.length).length = some b) : aloneB s n l b code = true ∧ (∀ i ∈ b, i < l.length) ∧ b.length ≤ l.length := by
  obtain ⟨j, h1, h2, h3, _⟩ := findN_some _ _ _ h
  obtain ⟨x, rfl, hx, hs, hT⟩ := srch_some _ _ _ _ _ h3
  have hul := usable_len l code l.length
  have hsl := hs.length_le
  refine ⟨?_, fun i hi => usable_lt l code l.length i (hs.subset hi), by omega⟩
  unfold aloneB
  rw [hT, Bool.true_and]
  unfold fitsAll
  rw [Bool.not_eq_true', List.any_eq_false]
  intro q hq
  obtain ⟨i, hi, rfl⟩ := List.mem_map.1 hq
  have := (List.mem_filter.1 (hs.subset hi)).2
  simp [this]
theorem found_fewest {s n : Nat} (hn : 1 ≤ n) (hs : 2 ≤ s) {l : List S36} {code : List Int} {ch : List Nat} (h1 : ch.Pairwise (· < ·)) (h2 : ∀ i ∈ ch, i < l.length) (h3 : aloneB s n l ch code = true) :
    ∃ b, findN (fun m => srch (oneT s n l) m [] (usable l code l.length)) 1 (usable l code l.length).length = some b ∧ b.length ≤ ch.length ∧ (b.length = ch.length → lexLt (castL ch) (castL b) = false) := by
  unfold aloneB at h3
  rw [Bool.and_eq_true] at h3
  obtain ⟨hT, hf⟩ := h3
  have hsub := sub_usable h1 h2 hf
  have hus : (usable l code l.length).Pairwise (· < ·) := List.Pairwise.filter _ List.pairwise_lt_range
  obtain ⟨r, hr, hlex⟩ := srch_first (oneT s n l) _ ch.length [] ch hus hsub rfl hT
  rw [List.nil_append] at hlex
  have hpos : 1 ≤ ch.length := by
    rcases ch with _ | ⟨x, t⟩
    · rw [oneT_nil hn hs] at hT; cases hT
    · simp
  have hle := hsub.length_le
  rcases hfn : findN (fun m => srch (oneT s n l) m [] (usable l code l.length)) 1 (usable l code l.length).length with _ | b
  · exfalso
    have hnone : ∀ (k m : Nat), findN (fun m => srch (oneT s n l) m [] (usable l code l.length)) m k = none → ∀ j, m ≤ j → j < m + k → srch (oneT s n l) j [] (usable l code l.length) = none := by
      intro k
      induction k with
      | zero => intro m _ j h1 h2; omega
      | succ k ih =>
        intro m hm j h1 h2
        rcases hx : srch (oneT s n l) m [] (usable l code l.length) with _ | y
        · rw [findN_miss hx] at hm
          by_cases e : j = m
          · rw [e]; exact hx
          · exact ih (m + 1) hm j (by omega) (by omega)
        · rw [findN_hit hx] at hm; cases hm
    have := hnone _ _ hfn ch.length hpos (by omega)
    rw [hr] at this
    cases this
  · obtain ⟨j, hj1, hj2, hj3, hj4⟩ := findN_some _ _ _ hfn
    obtain ⟨x, hx0, hx, _, _⟩ := srch_some _ _ _ _ _ hj3
    rw [List.nil_append] at hx0
    subst hx0
    have hjc : j ≤ ch.length := by
      rcases Nat.lt_or_ge ch.length j with h | h
      · have := hj4 ch.length hpos h
        rw [hr] at this; cases this
      · exact h
    refine ⟨b, rfl, by omega, fun e => ?_⟩
    have : j = ch.length := by omega
    rw [this, hr] at hj3
    obtain rfl := Option.some.inj hj3
    exact hlex
theorem alone_l0 {n s : Nat} {l : List S36} (hch : checkCluesS (n : Int) (s : Int) l = 0) {code : List Int} (hcd : isCodeB (n : Int) (s : Int) code = true) (ch : List Nat) (h2 : ∀ i ∈ ch, i < l.length) (hm : ch.length ≤ 20) (d : Nat) :
    ∀ i : Nat, i ≤ ch.length → ch.length - i = d → Ev (fun k => padlocklaw01_alone.l0 k l (castL ch) code (pick l (ch.take i)) i n s) (aloneB s n l ch code) := by
  have hlen : l.length ≤ 20 := (checkClues_ok hch).2.1
  induction d with
  | zero =>
    intro i h0 h1
    obtain rfl : i = ch.length := by omega
    obtain ⟨hl, _, hv⟩ := checkClues_ok hch
    have hpv : checkCluesS (n : Int) (s : Int) (pick l ch) = 0 := by
      unfold checkCluesS
      rw [if_pos hl, if_neg (by simp [pick]; omega), if_pos]
      rw [List.all_eq_true] at hv ⊢
      intro q hq
      obtain ⟨j, hj, rfl⟩ := List.mem_map.1 hq
      have := h2 j hj
      refine hv _ ?_
      have e : rd_T36 l (j : Int) = l[j] := by simp [rd_T36, List.getD_eq_getElem?_getD, List.getElem?_eq_getElem this]
      rw [e]; exact List.getElem_mem _
    refine Ev.step (f := fun _ => some (aloneB s n l ch code)) (fun k => ?_) (Ev.now _)
    simp only [padlocklaw01_alone.l0]
    rw [if_neg (by rw [castL_len]; omega), List.take_length, Count_eq, Fits_eq]
    unfold countS fitsS
    simp only [Option.bind_some, if_pos hpv, if_pos hcd, if_true, Int.toNat_natCast]
    unfold aloneB oneT
    by_cases h : (readingsL s n (pick l ch)).length = 1
    · rw [if_pos (by omega), h]; rfl
    · rw [if_neg (by omega), beq_eq_false_iff_ne.mpr h]; rfl
  | succ d ih =>
    intro i h0 h1
    have hi : i < ch.length := by omega
    have hil := h2 _ (List.getElem_mem hi)
    refine Ev.step (fun k => ?_) (ih (i + 1) (by omega) (by omega))
    simp only [padlocklaw01_alone.l0]
    rw [if_pos (by rw [castL_len]; omega), if_pos (by omega), castL_rd ch i hi, if_neg (by omega), if_neg (by omega), if_pos (by omega), if_pos (by omega), if_pos (by simp [pick]; omega), wrap_next (n := 1000) (by omega) (by omega), List.take_succ_eq_append_getElem hi]
    congr 1
    unfold pick
    rw [List.map_append]
    rfl
theorem alone_ev {n s : Nat} {l : List S36} (hch : checkCluesS (n : Int) (s : Int) l = 0) {code : List Int} (hcd : isCodeB (n : Int) (s : Int) code = true) (ch : List Nat) (h2 : ∀ i ∈ ch, i < l.length) (hm : ch.length ≤ 20) :
    Ev (fun k => padlocklaw01_alone.f k n s l (castL ch) code) (aloneB s n l ch code) := alone_l0 hch hcd ch h2 hm _ 0 (Nat.zero_le _) rfl
end Go.Proofs.Ytimkchehdaadeaa.P
