/- Part 46 of a proof: the statement CodesChooses: for every input its law returns true (its texts without what nothing here names). -/
import Derived.Test.YtimkchehdaadeaaZChooses24
import Derived.Test.YtimkchehdaadeaaZChooses30
import Derived.Test.YtimkchehdaadeaaZChooses32
import Derived.Test.YtimkchehdaadeaaZChooses33
import Derived.Test.YtimkchehdaadeaaZChooses43
import Derived.Test.YtimkchehdaadeaaZChooses45

section
namespace Go.Proofs.Ytimkchehdaadeaa.P
open Go.RowKit Go.Proofs.YtimkchehdaadeaaW.PrintWords Go.Proofs.YtimkchehdaadeaaW.PrintLast Go.Proofs.YtimkchehdaadeaaW.PrintMore
set_option linter.unusedVariables false
set_option linter.unusedSimpArgs false
def castL (l : List Nat) : List Int := l.map fun i : Nat => (i : Int)
def pick (l : List S36) (L : List Nat) : List S36 := L.map fun i : Nat => rd_T36 l (i : Int)
theorem castL_len (l : List Nat) : (castL l).length = l.length := by simp [castL]
theorem castL_snoc (l : List Nat) (x : Nat) : castL (l ++ [x]) = castL l ++ [(x : Int)] := by simp [castL]
theorem castL_rd (l : List Nat) (i : Nat) (h : i < l.length) : rd (castL l) (i : Int) = (l[i] : Int) := by
  rw [rd_get _ i (by rw [castL_len]; exact h)]; simp [castL]
theorem Some_l0 (l : List S36) (L : List Nat) (hL : ∀ i ∈ L, i < l.length) (hm : L.length ≤ 1000) (d : Nat) : ∀ i : Nat, i ≤ L.length → L.length - i = d → Ev (fun k => padlockref01_Some.l0 k l (castL L) (pick l (L.take i)) i) (pick l L) := by
  induction d with
  | zero =>
    intro i h0 h1
    obtain rfl : i = L.length := by omega
    refine Ev.step (f := fun _ => some (pick l L)) (fun k => ?_) (Ev.now _)
    simp only [padlockref01_Some.l0]
    rw [if_neg (by rw [castL_len]; omega), List.take_length]
  | succ d ih =>
    intro i h0 h1
    have hi : i < L.length := by omega
    have nx := ih (i + 1) (by omega) (by omega)
    have hx := hL L[i] (List.getElem_mem hi)
    have hpl : (pick l (L.take i)).length ≤ 1000 := by simp [pick]; omega
    have hp : pick l (L.take (i + 1)) = pick l (L.take i) ++ [rd_T36 l (L[i] : Int)] := by
      unfold pick
      rw [List.take_succ_eq_append_getElem hi, List.map_append]; rfl
    refine Ev.step (fun k => ?_) nx
    simp only [padlockref01_Some.l0]
    rw [if_pos (by rw [castL_len]; omega), if_pos (by omega), castL_rd L i hi, if_pos (by omega), if_pos (by omega), if_pos (by omega), hp, wrap_next (n := 1000) (by omega) (by omega)]
theorem Some_ev (l : List S36) (L : List Nat) (hL : ∀ i ∈ L, i < l.length) (hm : L.length ≤ 1000) : Ev (fun k => padlockref01_Some.f k l (castL L)) (pick l L) := Some_l0 l L hL hm _ 0 (Nat.zero_le _) rfl
theorem RAll_sub {W S : Int} (hl : okLock W S) {l : List S36} (hv : l.all (validC W S) = true) (hn : l.length ≤ 1000) : Ev (fun k => padlockref01_All.f k W S l) (readingsL S.toNat W.toNat l) := All_ev hl hv (by omega)
section
variable {n s : Nat} (hl : okLock (n : Int) (s : Int)) {l : List S36} (hv : l.all (validC (n : Int) (s : Int)) = true) (hm : l.length ≤ 20)
include hl hv hm
end
end Go.Proofs.Ytimkchehdaadeaa.P
end
section
namespace Go.Proofs.Ytimkchehdaadeaa.P
open Go.RowKit Go.Proofs.YtimkchehdaadeaaW.PrintWords Go.Proofs.YtimkchehdaadeaaW.PrintLast Go.Proofs.YtimkchehdaadeaaW.PrintMore
set_option linter.unusedVariables false
set_option linter.unusedSimpArgs false
set_option linter.unusedSectionVars false
section
variable {n s : Nat} (hl : okLock (n : Int) (s : Int)) {l : List S36} (hm : l.length ≤ 20)
include hl hm
end
end Go.Proofs.Ytimkchehdaadeaa.P
end
section
namespace Go.Proofs.Ytimkchehdaadeaa.P
open Go.RowKit Go.Proofs.YtimkchehdaadeaaW.PrintWords Go.Proofs.YtimkchehdaadeaaW.PrintLast Go.Proofs.YtimkchehdaadeaaW.PrintMore
set_option linter.unusedVariables false
set_option linter.unusedSimpArgs false
def srch (T : List Nat → Bool) : Nat → List Nat → List Nat → Option (List Nat)
  | 0, b, _ => if T b = true then some b else none
  | _ + 1, _, [] => none
  | m + 1, b, i :: u => match srch T m (b ++ [i]) u with
    | some r => some r
    | none => srch T (m + 1) b u
theorem srch_zero (T : List Nat → Bool) (b u : List Nat) : srch T 0 b u = if T b = true then some b else none := by rw [srch]
theorem srch_nil (T : List Nat → Bool) (m : Nat) (b : List Nat) : srch T (m + 1) b [] = none := by rw [srch]
theorem srch_hit {T : List Nat → Bool} {m : Nat} {b : List Nat} {i : Nat} {u r : List Nat} (h : srch T m (b ++ [i]) u = some r) : srch T (m + 1) b (i :: u) = some r := by rw [srch, h]
theorem srch_miss {T : List Nat → Bool} {m : Nat} {b : List Nat} {i : Nat} {u : List Nat} (h : srch T m (b ++ [i]) u = none) : srch T (m + 1) b (i :: u) = srch T (m + 1) b u := by rw [srch, h]
theorem srch_big (T : List Nat → Bool) : ∀ (u : List Nat) (m : Nat) (b : List Nat), u.length < m → srch T m b u = none
  | _, 0, _, h => absurd h (Nat.not_lt_zero _)
  | [], m + 1, b, _ => srch_nil T m b
  | i :: u, m + 1, b, h => by
    rw [srch_miss (srch_big T u m (b ++ [i]) (by simp at h; omega))]
    exact srch_big T u (m + 1) b (by simp at h; omega)
theorem srch_some (T : List Nat → Bool) : ∀ (u : List Nat) (m : Nat) (b r : List Nat), srch T m b u = some r → ∃ x, r = b ++ x ∧ x.length = m ∧ x.Sublist u ∧ T r = true
  | u, 0, b, r, h => by
    rw [srch_zero] at h
    split at h
    · rename_i ht
      obtain rfl := Option.some.inj h
      exact ⟨[], by simp, rfl, List.nil_sublist _, ht⟩
    · cases h
  | [], m + 1, b, r, h => by rw [srch_nil] at h; cases h
  | i :: u, m + 1, b, r, h => by
    rcases h1 : srch T m (b ++ [i]) u with _ | r'
    · rw [srch_miss h1] at h
      obtain ⟨x, h2, h3, h4, h5⟩ := srch_some T u (m + 1) b r h
      exact ⟨x, h2, h3, h4.cons _, h5⟩
    · rw [srch_hit h1] at h
      obtain rfl := Option.some.inj h
      obtain ⟨x, h2, h3, h4, h5⟩ := srch_some T u m (b ++ [i]) r' h1
      exact ⟨i :: x, by rw [h2, List.append_assoc]; rfl, by simp [h3], h4.cons_cons _, h5⟩
theorem srch_congr {T T' : List Nat → Bool} {L : Nat} (h : ∀ r, (∀ i ∈ r, i < L) → T r = T' r) : ∀ (u : List Nat) (m : Nat) (b : List Nat), (∀ i ∈ u, i < L) → (∀ i ∈ b, i < L) → srch T m b u = srch T' m b u
  | u, 0, b, _, hb => by rw [srch_zero, srch_zero, h b hb]
  | [], m + 1, b, _, _ => by rw [srch_nil, srch_nil]
  | i :: u, m + 1, b, hu, hb => by
    have h1 := srch_congr h u m (b ++ [i]) (fun j hj => hu j (List.mem_cons_of_mem _ hj)) (fun j hj => by
      rcases List.mem_append.1 hj with hj | hj
      · exact hb j hj
      · rw [List.mem_singleton.1 hj]; exact hu i List.mem_cons_self)
    rcases h2 : srch T m (b ++ [i]) u with _ | r
    · rw [srch_miss h2, srch_miss (h1.symm.trans h2)]
      exact srch_congr h u (m + 1) b (fun j hj => hu j (List.mem_cons_of_mem _ hj)) hb
    · rw [srch_hit h2, srch_hit (h1.symm.trans h2)]
def findN (f : Nat → Option (List Nat)) : Nat → Nat → Option (List Nat)
  | _, 0 => none
  | m, n + 1 => match f m with
    | some r => some r
    | none => findN f (m + 1) n
theorem findN_zero (f : Nat → Option (List Nat)) (m : Nat) : findN f m 0 = none := rfl
theorem findN_hit {f : Nat → Option (List Nat)} {m n : Nat} {r : List Nat} (h : f m = some r) : findN f m (n + 1) = some r := by rw [findN, h]
theorem findN_miss {f : Nat → Option (List Nat)} {m n : Nat} (h : f m = none) : findN f m (n + 1) = findN f (m + 1) n := by rw [findN, h]
theorem findN_none {f : Nat → Option (List Nat)} : ∀ (n m : Nat), (∀ j, m ≤ j → j < m + n → f j = none) → findN f m n = none
  | 0, _, _ => rfl
  | n + 1, m, h => by rw [findN_miss (h m (Nat.le_refl _) (by omega))]; exact findN_none n (m + 1) (fun j h1 h2 => h j (by omega) (by omega))
theorem findN_add {f : Nat → Option (List Nat)} : ∀ (n m k : Nat), (∀ j, m + n ≤ j → j < m + n + k → f j = none) → findN f m (n + k) = findN f m n
  | 0, m, k, h => by rw [Nat.zero_add, findN_none k m (fun j h1 h2 => h j (by omega) (by omega))]; rfl
  | n + 1, m, k, h => by
    rcases hf : f m with _ | r
    · rw [show n + 1 + k = (n + k) + 1 by omega, findN_miss hf, findN_miss hf]
      exact findN_add n (m + 1) k (fun j h1 h2 => h j (by omega) (by omega))
    · rw [show n + 1 + k = (n + k) + 1 by omega, findN_hit hf, findN_hit hf]
theorem findN_some {f : Nat → Option (List Nat)} : ∀ (n m : Nat) (r : List Nat), findN f m n = some r → ∃ j, m ≤ j ∧ j < m + n ∧ f j = some r ∧ ∀ k, m ≤ k → k < j → f k = none
  | 0, _, _, h => by rw [findN_zero] at h; cases h
  | n + 1, m, r, h => by
    rcases hf : f m with _ | r'
    · rw [findN_miss hf] at h
      obtain ⟨j, h1, h2, h3, h4⟩ := findN_some n (m + 1) r h
      exact ⟨j, by omega, by omega, h3, fun k hk1 hk2 => by
        by_cases e : k = m
        · rw [e]; exact hf
        · exact h4 k (by omega) hk2⟩
    · rw [findN_hit hf] at h
      obtain rfl := Option.some.inj h
      exact ⟨m, Nat.le_refl _, by omega, hf, fun k h1 h2 => absurd h2 (by omega)⟩
def usable (l : List S36) (code : List Int) (m : Nat) : List Nat := (List.range m).filter fun j => holdsC (rd_T36 l (j : Int)) code
theorem usable_succ (l : List S36) (code : List Int) (m : Nat) : usable l code (m + 1) = if holdsC (rd_T36 l (m : Int)) code = true then usable l code m ++ [m] else usable l code m := by
  unfold usable
  rw [List.range_succ, List.filter_append]
  by_cases h : holdsC (rd_T36 l (m : Int)) code = true <;> simp [List.filter_cons, h]
theorem usable_len (l : List S36) (code : List Int) (m : Nat) : (usable l code m).length ≤ m := by
  unfold usable
  exact Nat.le_trans (List.length_filter_le _ _) (by simp)
theorem usable_lt (l : List S36) (code : List Int) (m : Nat) : ∀ i ∈ usable l code m, i < m := fun i hi => List.mem_range.1 (List.mem_filter.1 hi).1
def oneT (s n : Nat) (l : List S36) (b : List Nat) : Bool := (readingsL s n (pick l b)).length == 1
def foundS (o : Option (List Nat)) : List Int × Int := match o with
  | some b => (castL b, 0)
  | none => ([], 3)
def chooseS (W S : Int) (l : List S36) (code : List Int) : List Int × Int :=
  if okLock W S then
    if 12 < l.length then ([], 2)
    else if checkCluesS W S l = 0 then
      if isCodeB W S code = true then
        foundS (findN (fun m => srch (oneT S.toNat W.toNat l) m [] (usable l code l.length)) 1 (usable l code l.length).length)
      else ([], 12)
    else ([], checkCluesS W S l)
  else ([], 10)
end Go.Proofs.Ytimkchehdaadeaa.P
end
section
namespace Go.Proofs.Ytimkchehdaadeaa.P
open Go.RowKit Go.Shelf Go.Proofs.YtimkchehdaadeaaW.PrintWords Go.Proofs.YtimkchehdaadeaaW.PrintLast Go.Proofs.YtimkchehdaadeaaW.PrintMore
set_option linter.unusedVariables false
set_option linter.unusedSimpArgs false
def usf (l : List S36) (code : List Int) (i : Nat) : List Nat := (List.range' i (l.length - i)).filter fun j => holdsC (rd_T36 l (j : Int)) code
theorem usf_zero (l : List S36) (code : List Int) : usf l code 0 = usable l code l.length := by unfold usf usable; rw [Nat.sub_zero, List.range_eq_range']
theorem usf_end (l : List S36) (code : List Int) : usf l code l.length = [] := by unfold usf; rw [Nat.sub_self]; rfl
theorem usf_step (l : List S36) (code : List Int) (i : Nat) (h : i < l.length) : usf l code i = if holdsC (rd_T36 l (i : Int)) code = true then i :: usf l code (i + 1) else usf l code (i + 1) := by
  unfold usf
  rw [show l.length - i = (l.length - (i + 1)) + 1 by omega, List.range'_succ, List.filter_cons]
def RPost (o : Option (List Nat)) (w : World) (e : Ending) (w' : World) : Prop := ∃ (A : Option Addr) (c : Nat) (r : List Nat), e = .returned (.tuple #[.slice A r.length c, .bool o.isSome]) ∧ (∀ x, o = some x → x = r) ∧ r.length ≤ c ∧ Kd.C (Kd.int .i64) w' A r.length (castL r) ∧ Below w.heap.size w w'
theorem wrap_nat' (n : Nat) (h : n ≤ 1000) : wrap64 (n : Int) = (n : Int) := by unfold wrap64; omega
set_option maxHeartbeats 8000000 in
set_option maxRecDepth 100000 in
theorem ref_choose.calls (n s : Nat) (hl : okLock (n : Int) (s : Int)) (l : List S36) (hv : l.all (validC (n : Int) (s : Int)) = true) (hm : l.length ≤ 12) (code : List Int) (hcd : isCodeB (n : Int) (s : Int) code = true) (A1 : Option Addr) (c1 : Nat) (A2 : Option Addr) (c2 : Nat) (e1 : l.length ≤ c1) (e2 : code.length ≤ c2) :
    ∀ (many : Nat) (A : Option Addr) (c : Nat) (bg : List Nat) (from_ : Nat) (w : World) (g1 : Kd.C k36 w A1 l.length l) (g2 : Kd.C (Kd.int .i64) w A2 code.length code) (hbg : ∀ i ∈ bg, i < l.length) (hC : Kd.C (Kd.int .i64) w A bg.length (castL bg)) (hc : bg.length ≤ c) (hf : from_ ≤ l.length) (hb : bg.length + many ≤ 20),
    Calls Try.prog 87 #[.agg #[.int .i64 (n : Int), .int .i64 (s : Int)], .slice A1 l.length c1, .slice A2 code.length c2, .slice A bg.length c, .int .i64 (from_ : Int), .int .i64 (many : Int)] w (RPost (srch (oneT s n l) many bg (usf l code from_)) w) := by
  intro many
  have hu23 := Try.underlying23
  have hu36 := Try.underlying36
  have hu24 := Try.underlying24
  obtain ⟨hw1, hw4, hs2, hs10⟩ := hl
  have hl : okLock (n : Int) (s : Int) := ⟨hw1, hw4, hs2, hs10⟩
  have HLL := Aside0.mk hl
  have HV := Aside0.mk hv
  have HCD := Aside0.mk hcd
  induction many with
  | zero =>
    intro A c bg from_ w g1 g2 hbg hC hc hf hb
    obtain ⟨k1, hk1⟩ := (Some_ev l bg hbg (by omega)).rounds
    have hpv : (pick l bg).all (validC (n : Int) (s : Int)) = true := by
      rw [List.all_eq_true] at hv ⊢
      intro q hq
      obtain ⟨j, hj, rfl⟩ := List.mem_map.1 hq
      have := hbg j hj
      refine hv _ ?_
      have e : rd_T36 l (j : Int) = l[j] := by simp [rd_T36, List.getD_eq_getElem?_getD, List.getElem?_eq_getElem this]
      rw [e]; exact List.getElem_mem _
    obtain ⟨k2, hk2⟩ := (RAll_sub hl hpv (by simp [pick]; omega)).rounds
    simp only [Int.toNat_natCast] at hk2
    have C83 := Aside0.mk (fun w1 (h1 : Below w.heap.size w w1) => padlockref01_Some.calls k1 (fun k => k < w1.heap.size) A1 c1 l A c (castL bg) _ w1 (Kd.V_mk e1 (Kd.C_F k36_heap (Kd.C_below g1 h1))) (by rw [castL_len]; exact Kd.C_below hC h1) (by rw [castL_len]; exact hc) hk1)
    rw [castL_len] at C83
    have C74 := Aside0.mk (fun w1 A5 c5 hC5 h5 => padlockref01_All.calls k2 n s A5 c5 (pick l bg) _ w1 hC5 h5 hk2)
    have HC := Aside0.mk hC
    have K0 := Aside0.mk (blk_new w (.cells #[.int .i64 (n : Int), .int .i64 (s : Int)] 23))
    have HB0 := Aside0.mk ((Below.refl w.heap.size w).alloc (Nat.le_refl _) (.cells #[.int .i64 (n : Int), .int .i64 (s : Int)] 23))
    rw [srch_zero]
    obtain ⟨o, ho⟩ : ∃ o, o = (if oneT s n l bg = true then some bg else none) := ⟨_, rfl⟩
    rw [← ho]
    have HO := Aside0.mk ho
    have hTT : oneT s n l bg = ((readingsL s n (pick l bg)).length == 1) := rfl
    obtain ⟨R, hR⟩ : ∃ R, R = readingsL s n (pick l bg) := ⟨_, rfl⟩
    rw [← hR] at C74 hTT
    have HT := Aside0.mk hTT
    obtain ⟨P, hP⟩ : ∃ P, P = pick l bg := ⟨_, rfl⟩
    rw [← hP] at C83 C74
    clear hk1 hk2 hpv hC g1 g2 hbg hR hP hTT ho hl hw1 hw4 hs2 hs10 hv hcd
    go_enter Try.func87, Try.ntmps87
    go_wp2
    refine start_ (n := 10) (S := fun w' => w'.heap[w.heap.size]? = some (.cells #[.int .i64 (n : Int), .int .i64 (s : Int)] 23 (0, 0))) (ds := []) #[false, false, false, false, false, false, false, false, false, false] (by kernel_rfl) rfl rfl (blk_drew K0.out) (fun hHeld => ?_)
    refine pure_ (i := 0) (N := some 19) (v := ?_) (a' := ?_) #[true, false, false, false, false, false, false, false, false, false] rfl rfl (by kernel_rfl) (fun _ _ _ h => h) (Or.inl ⟨by rfl, ?_⟩) ?_ ?_
    rotate_left
    · intro w'
      go_simp
      with_reducible rfl
    rotate_left
    · simp only [Act.put, List.setIfInBounds_toArray, List.set_cons_zero, List.set_cons_succ, i64_w, i32_w]
      rfl
    refine take_ (i := 1) (N := some 20) (v := ?_) (a' := ?_) #[true, true, false, false, false, false, false, false, false, false] rfl rfl (by kernel_rfl) (fun _ _ _ h => h) (Or.inl ⟨by rfl, ?_⟩) hHeld ?_ ?_
    rotate_left
    · rintro w' s0
      obtain ⟨s00, s01⟩ := cells2 s0
      go_simp
      with_reducible rfl
    rotate_left
    · simp only [Act.put, List.setIfInBounds_toArray, List.set_cons_zero, List.set_cons_succ, i64_w, i32_w]
      rfl
    refine pure_ (i := 2) (N := some 21) (v := ?_) (a' := ?_) #[true, true, true, false, false, false, false, false, false, false] rfl rfl (by kernel_rfl) (fun _ _ _ h => h) (Or.inl ⟨by rfl, ?_⟩) ?_ ?_
    rotate_left
    · intro w'
      go_simp
      with_reducible rfl
    rotate_left
    · simp only [Act.put, List.setIfInBounds_toArray, List.set_cons_zero, List.set_cons_succ, i64_w, i32_w]
      rfl
    refine pure_ (i := 3) (N := some 22) (v := ?_) (a' := ?_) #[true, true, true, true, false, false, false, false, false, false] rfl rfl (by kernel_rfl) (fun _ _ _ h => h) (Or.inl ⟨by rfl, ?_⟩) ?_ ?_
    rotate_left
    · intro w'
      go_simp
      with_reducible rfl
    rotate_left
    · simp only [Act.put, List.setIfInBounds_toArray, List.set_cons_zero, List.set_cons_succ, i64_w, i32_w]
      rfl
    refine one_ (i := 4) (N := some 23) #[true, true, true, true, true, false, false, false, false, false] rfl rfl (by kernel_rfl) (by decide) (fun K hK => ?_)
    refine goes_ Try.func83 (by kernel_rfl) rfl #[.slice A1 l.length c1, .slice A bg.length c] (by rfl) rfl rfl (by (try simp only [List.map_toArray, List.map_cons, List.map_nil]); first | done | rfl) ?_
    refine (C83.out _ HB0.out.drew).mono ?_
    rintro e w5 ⟨v5, rfl, hN5, h5⟩
    refine ⟨_, rfl, ?_⟩
    refine hK.out _ _ (blk_below hHeld h5) (fun hHeld => ?_)
    clear hK K
    obtain ⟨A5, c5, rfl, hl5, hC5⟩ := Kd.N_reads hN5
    have HB5 := Aside0.mk (below_then HB0.out.drew HB0.out.drew.size h5)
    refine norm_ (a' := ?_) ?_ ?_
    rotate_left
    · show Act.put _ (some 23) _ = _
      simp only [Act.put, List.setIfInBounds_toArray, List.set_cons_zero, List.set_cons_succ, i64_w, i32_w]
      rfl
    refine one_ (i := 5) (N := some 24) #[true, true, true, true, true, true, false, false, false, false] rfl rfl (by kernel_rfl) (by decide) (fun K hK => ?_)
    refine goes_ Try.func74 (by kernel_rfl) rfl #[.agg #[.int .i64 (n : Int), .int .i64 (s : Int)], .slice A5 P.length c5] (by rfl) rfl rfl (by (try simp only [List.map_toArray, List.map_cons, List.map_nil]); first | done | rfl) ?_
    refine (C74.out _ _ _ hC5 hl5).mono ?_
    rintro e w6 ⟨v6, rfl, hS6, h6⟩
    refine ⟨_, rfl, ?_⟩
    refine hK.out _ _ (blk_below hHeld h6) (fun hHeld => ?_)
    clear hK K
    obtain ⟨A6, c6, rfl⟩ := Kd.S_slice hS6
    have HB6 := Aside0.mk (below_then HB5.out HB5.out.size h6)
    clear hS6 h6 hN5 h5 hC5 hl5
    obtain ⟨b, q1⟩ : ∃ b : Bool, ((R.length : Int) == 1) = b := ⟨_, rfl⟩
    have q2 : oneT s n l bg = b := by
      rw [HT.out, ← q1, Bool.eq_iff_iff]
      simp only [beq_iff_eq]
      omega
    have Q2 := Aside0.mk q2
    clear q2
    refine norm_ (a' := ?_) ?_ ?_
    rotate_left
    · show Act.put _ (some 24) _ = _
      simp only [Act.put, List.setIfInBounds_toArray, List.set_cons_zero, List.set_cons_succ, i64_w, i32_w]
      rfl
    refine pure_ (i := 6) (N := some 25) (v := ?_) (a' := ?_) #[true, true, true, true, true, true, true, false, false, false] rfl rfl (by kernel_rfl) (fun _ _ _ h => h) (Or.inl ⟨by rfl, ?_⟩) ?_ ?_
    rotate_left
    · intro w'
      go_simp
      with_reducible rfl
    rotate_left
    · simp only [Act.put, List.setIfInBounds_toArray, List.set_cons_zero, List.set_cons_succ, i64_w, i32_w]
      rfl
    refine pure_ (i := 7) (N := some 26) (v := ?_) (a' := ?_) #[true, true, true, true, true, true, true, true, false, false] rfl rfl (by kernel_rfl) (fun _ _ _ h => h) (Or.inl ⟨by rfl, ?_⟩) ?_ ?_
    rotate_left
    · intro w'
      go_simp
      with_reducible rfl
    rotate_left
    · simp only [Act.put, List.setIfInBounds_toArray, List.set_cons_zero, List.set_cons_succ, i64_w, i32_w]
      rfl
    refine pure_ (i := 8) (N := some 12) (v := ?_) (a' := ?_) #[true, true, true, true, true, true, true, true, true, false] rfl rfl (by kernel_rfl) (fun _ _ _ h => h) (Or.inl ⟨by rfl, ?_⟩) ?_ ?_
    rotate_left
    · intro w'
      go_simp
      with_reducible rfl
    rotate_left
    · simp only [Act.put, List.setIfInBounds_toArray, List.set_cons_zero, List.set_cons_succ, i64_w, i32_w]
      rfl
    refine pure_ (i := 9) (N := some 13) (v := ?_) (a' := ?_) #[true, true, true, true, true, true, true, true, true, true] rfl rfl (by kernel_rfl) (fun _ _ _ h => h) (Or.inl ⟨by rfl, ?_⟩) ?_ ?_
    rotate_left
    · intro w'
      go_simp
      with_reducible rfl
    rotate_left
    · simp only [Act.put, List.setIfInBounds_toArray, List.set_cons_zero, List.set_cons_succ, i64_w, i32_w]
      rfl
    refine done_ (by kernel_rfl) ?_
    go_wp2
    go_ret2
    rw [HO.out, Q2.out]
    refine ⟨A, c, bg, ?_, ?_, hc, Kd.C_below HC.out HB6.out, HB6.out⟩
    · cases b <;> rfl
    · cases b
      · intro x hx; cases hx
      · intro x hx; exact (Option.some.inj hx).symm
  | succ many ih =>
    intro A c bg from_ w g1 g2 hbg hC hc hf hb
    have IH := Aside0.mk ih
    have G1 := Aside0.mk g1
    have G2 := Aside0.mk g2
    have HBG := Aside0.mk hbg
    have HC := Aside0.mk hC
    obtain ⟨o, ho⟩ : ∃ o, o = srch (oneT s n l) (many + 1) bg (usf l code from_) := ⟨_, rfl⟩
    rw [← ho]
    have HO := Aside0.mk ho
    have K0 := Aside0.mk (blk_new w (.cells #[.int .i64 (n : Int), .int .i64 (s : Int)] 23))
    have HB0 := Aside0.mk ((Below.refl w.heap.size w).alloc (Nat.le_refl _) (.cells #[.int .i64 (n : Int), .int .i64 (s : Int)] 23))
    have hn1 : ((many + 1 : Nat) : Int) = (many : Int) + 1 := by omega
    rw [hn1]
    have hnz : ((many : Int) + 1 == 0) = false := beq_eq_false_iff_ne.mpr (by omega)
    have HN1 := Aside0.mk hn1
    have hmx := Kd.C_max g1
    have hcx := (isCode_dig hs10 hcd)
    have HCL := Aside0.mk hcx.1
    clear ih g1 g2 hbg hC ho hn1 hl hv hcd hw1 hs2 hcx
    go_enter Try.func87, Try.ntmps87
    go_wp2
    go_loopw [14] (fun v14 wr => ∃ i : Nat, Aside0 (i ≤ l.length) ∧ v14 = .int .i64 i ∧ Aside0 (o = srch (oneT s n l) (many + 1) bg (usf l code i)) ∧ Aside0 (wr.heap[w.heap.size]? = some (.cells #[.int .i64 (n : Int), .int .i64 (s : Int)] 23 (0, 0))) ∧ Aside0 (Below w.heap.size w wr)) (fun v14 _ => l.length - (intOf v14).toNat)
    case atStart => exact ⟨from_, ⟨hf⟩, rfl, HO, K0, HB0⟩
    case round =>
      clear HO K0 HB0
      obtain ⟨i, hi, rfl, HO, HK, HB⟩ := hrel
      by_cases hlt : i < l.length
      · obtain ⟨adl, A5, c5, el, k0, k1, k2, k3, k4, k5, k6, hl5, hg5⟩ := at_T36 G1.out (i : Int) (by omega) (by omega)
        subst el
        have hmem : rd_T36 l (i : Int) ∈ l := by
          have e : rd_T36 l (i : Int) = l[i] := by simp [rd_T36, List.getD_eq_getElem?_getD, List.getElem?_eq_getElem hlt]
          rw [e]; exact List.getElem_mem _
        have hokq := okC_of_valid HLL.out (List.all_eq_true.1 HV.out _ hmem) HCD.out
        have hus := usf_step l code i hlt
        obtain ⟨q, hq⟩ : ∃ q, q = rd_T36 l (i : Int) := ⟨_, rfl⟩
        rw [← hq] at k0 k1 k2 k3 k4 k5 k6 hl5 hg5 hokq hus
        rw [Int.toNat_natCast] at k0 k1 k2 k3 k4 k5 k6
        have mv := fun (a : Addr) (v : Value) (h : w.cell? a = some v) => (HB.out.cell (World.block_lt_of_cell? w _ h)).trans h
        replace k0 := mv _ _ k0
        replace k1 := mv _ _ k1
        replace k2 := mv _ _ k2
        replace k3 := mv _ _ k3
        replace k4 := mv _ _ k4
        replace k5 := mv _ _ k5
        replace k6 := mv _ _ k6
        obtain ⟨kt, hkt⟩ := (True_ev q code hokq (by have := HCL.out; omega)).rounds
        have C71 := Aside0.mk (padlockref01_True.calls kt q.f0 q.f1 q.f2 q.f3 q.f4 A5 c5 q.f5 q.f6 A2 c2 code _ wr (Kd.C_below hg5 HB.out) hl5 (Kd.C_below G2.out HB.out) e2 hkt)
        have hi0 : decide ((i : Int) < 0) = false := decide_eq_false (by omega)
        obtain ⟨b, hb⟩ : ∃ b, b = holdsC q code := ⟨_, rfl⟩
        rw [← hb] at C71 hus
        clear hq hb mv hg5 hl5 hokq hkt hmem
        cases b
        · have hO2 := HO.out
          rw [hus] at hO2
          have HO2 := Aside0.mk (show o = srch (oneT s n l) (many + 1) bg (usf l code (i + 1)) from hO2)
          clear hO2 hus
          go_wp2_with (go_at_call 71; refine C71.out.mono ?_; rintro e w5 ⟨rfl, h5⟩; have HB5 := Aside0.mk (below_then HB.out HB.out.size h5); have HK5 := Aside0.mk (blk_below HK.out h5); clear h5)
          refine ⟨⟨i + 1, ⟨by omega⟩, by go_num, HO2, HK5, HB5⟩, ?_⟩
          simp [intOf]; omega
        · have hO2 := HO.out
          rw [hus, if_pos rfl] at hO2
          have HO2 := Aside0.mk hO2
          clear hO2 hus
          go_wp2_with (go_at_call 71; refine C71.out.mono ?_; rintro e w5 ⟨rfl, h5⟩; have HB5 := Aside0.mk (below_then HB.out HB.out.size h5); have HK5 := Aside0.mk (blk_below HK.out h5); clear h5)
          have CC := Aside0.mk (fun w1 (h1 : Below w5.drew.heap.size w5.drew w1) => Kd.C_below HC.out (below_then HB5.out.drew HB5.out.drew.size h1))
          have hwn := wrap_next (i := i) (n := 1000) (by omega) (by omega)
          have hw1 : wrap64 (many : Int) = (many : Int) := wrap_nat' many (by omega)
          refine start_ (n := 18) (S := fun w' => w'.heap[w.heap.size]? = some (.cells #[.int .i64 (n : Int), .int .i64 (s : Int)] 23 (0, 0))) (ds := []) #[false, false, false, false, false, false, false, false, false, false, false, false, false, false, false, false, false, false] (by kernel_rfl) rfl rfl (blk_drew HK5.out) (fun hHeld => ?_)
          refine take_ (i := 0) (N := some 42) (v := ?_) (a' := ?_) #[true, false, false, false, false, false, false, false, false, false, false, false, false, false, false, false, false, false] rfl rfl (by kernel_rfl) (fun _ _ _ h => h) (Or.inl ⟨by rfl, ?_⟩) hHeld ?_ ?_
          rotate_left
          · rintro w' s0
            obtain ⟨s00, s01⟩ := cells2 s0
            go_simp
            with_reducible rfl
          rotate_left
          · simp only [Act.put, List.setIfInBounds_toArray, List.set_cons_zero, List.set_cons_succ, i64_w, i32_w]
            rfl
          refine pure_ (i := 1) (N := some 43) (v := ?_) (a' := ?_) #[true, true, false, false, false, false, false, false, false, false, false, false, false, false, false, false, false, false] rfl rfl (by kernel_rfl) (fun _ _ _ h => h) (Or.inl ⟨by rfl, ?_⟩) ?_ ?_
          rotate_left
          · intro w'
            go_simp
            with_reducible rfl
          rotate_left
          · simp only [Act.put, List.setIfInBounds_toArray, List.set_cons_zero, List.set_cons_succ, i64_w, i32_w]
            rfl
          refine pure_ (i := 2) (N := some 44) (v := ?_) (a' := ?_) #[true, true, true, false, false, false, false, false, false, false, false, false, false, false, false, false, false, false] rfl rfl (by kernel_rfl) (fun _ _ _ h => h) (Or.inl ⟨by rfl, ?_⟩) ?_ ?_
          rotate_left
          · intro w'
            go_simp
            with_reducible rfl
          rotate_left
          · simp only [Act.put, List.setIfInBounds_toArray, List.set_cons_zero, List.set_cons_succ, i64_w, i32_w]
            rfl
          refine pure_ (i := 3) (N := some 45) (v := ?_) (a' := ?_) #[true, true, true, true, false, false, false, false, false, false, false, false, false, false, false, false, false, false] rfl rfl (by kernel_rfl) (fun _ _ _ h => h) (Or.inl ⟨by rfl, ?_⟩) ?_ ?_
          rotate_left
          · intro w'
            go_simp
            with_reducible rfl
          rotate_left
          · simp only [Act.put, List.setIfInBounds_toArray, List.set_cons_zero, List.set_cons_succ, i64_w, i32_w]
            rfl
          refine pure_ (i := 5) (N := some 47) (v := ?_) (a' := ?_) #[true, true, true, true, false, true, false, false, false, false, false, false, false, false, false, false, false, false] rfl rfl (by kernel_rfl) (fun _ _ _ h => h) (Or.inl ⟨by rfl, ?_⟩) ?_ ?_
          rotate_left
          · intro w'
            go_simp
            with_reducible rfl
          rotate_left
          · simp only [Act.put, List.setIfInBounds_toArray, List.set_cons_zero, List.set_cons_succ, i64_w, i32_w]
            rfl
          refine pure_ (i := 8) (N := some 50) (v := ?_) (a' := ?_) #[true, true, true, true, false, true, false, false, true, false, false, false, false, false, false, false, false, false] rfl rfl (by kernel_rfl) (fun _ _ _ h => h) (Or.inl ⟨by rfl, ?_⟩) ?_ ?_
          rotate_left
          · intro w'
            go_simp
            with_reducible rfl
          rotate_left
          · simp only [Act.put, List.setIfInBounds_toArray, List.set_cons_zero, List.set_cons_succ, i64_w, i32_w]
            rfl
          refine pure_ (i := 9) (N := some 51) (v := ?_) (a' := ?_) #[true, true, true, true, false, true, false, false, true, true, false, false, false, false, false, false, false, false] rfl rfl (by kernel_rfl) (fun _ _ _ h => h) (Or.inl ⟨by rfl, ?_⟩) ?_ ?_
          rotate_left
          · intro w'
            go_simp
            with_reducible rfl
          rotate_left
          · simp only [Act.put, List.setIfInBounds_toArray, List.set_cons_zero, List.set_cons_succ, i64_w, i32_w]
            rfl
          refine pure_ (i := 10) (N := some 52) (v := ?_) (a' := ?_) #[true, true, true, true, false, true, false, false, true, true, true, false, false, false, false, false, false, false] rfl rfl (by kernel_rfl) (fun _ _ _ h => h) (Or.inl ⟨by rfl, ?_⟩) ?_ ?_
          rotate_left
          · intro w'
            go_simp
            with_reducible rfl
          rotate_left
          · simp only [Act.put, List.setIfInBounds_toArray, List.set_cons_zero, List.set_cons_succ, i64_w, i32_w]
            rfl
          refine pure_ (i := 11) (N := some 53) (v := ?_) (a' := ?_) #[true, true, true, true, false, true, false, false, true, true, true, true, false, false, false, false, false, false] rfl rfl (by kernel_rfl) (fun _ _ _ h => h) (Or.inl ⟨by rfl, ?_⟩) ?_ ?_
          rotate_left
          · intro w'
            go_simp
            with_reducible rfl
          rotate_left
          · simp only [Act.put, List.setIfInBounds_toArray, List.set_cons_zero, List.set_cons_succ, i64_w, i32_w]
            rfl
          obtain ⟨wd, hwd⟩ : ∃ wd, wd = w5.drew := ⟨_, rfl⟩
          have HBd : Aside0 (Below w.heap.size w wd) := ⟨by rw [hwd]; exact HB5.out.drew⟩
          rw [← hwd] at CC ⊢
          rw [← hwd] at hHeld
          clear hwd hwn hw1
          have hH2 : ∀ w1, Below wd.heap.size wd w1 → w1.heap[w.heap.size]? = some (.cells #[.int .i64 (n : Int), .int .i64 (s : Int)] 23 (0, 0)) := fun w1 h1 => blk_below hHeld h1
          refine join_ (σ := Value × Value × Option Addr × Nat) 6 #[true, true, true, true, true, true, true, true, true, true, true, true, false, false, false, false, false, false] (fun s => [(46, s.1), (48, s.2.1), (49, .slice s.2.2.1 (bg.length + 1) s.2.2.2)]) (fun s w' => bg.length + 1 ≤ s.2.2.2 ∧ Kd.C (Kd.int .i64) w' s.2.2.1 (bg.length + 1) (castL (bg ++ [i])) ∧ Below wd.heap.size wd w') ?_ ?_
          rotate_left
          · intro hcont
            refine two_ (i := 4) (j := 6) (Ni := some 46) (Nj := some 48) #[true, true, true, true, true, true, false, false, true, true, true, true, false, false, false, false, false, false] #[true, true, true, true, false, true, true, false, true, true, true, true, false, false, false, false, false, false] rfl rfl rfl rfl (by kernel_rfl) (by decide) (by decide) (fun K hK => ?_) (fun K hK => ?_)
            · refine Kd.R_append_rows_step (Kd.int .i64) (Rr := fun (x : Int) (cs : List Value) => cs = [.int .i64 x]) (w0 := wd) (W := wd) wd.heap.size rfl (.const (.slice none 0 0)) (.tmp 45) 24 3 (.int .i64 0) 8 rfl Try.underlying24 info3 rfl (by decide) (by omega) (.slice none 0 0) [] (castL bg) A bg.length c (fun _ => True) (fun _ => False) rfl rfl (Kd.R_nil _ _ _ _ _) (CC.out wd (Below.refl _ _)) (fun _ _ h => h) (fun _ hk => hk.elim) (fun _ _ => trivial) (Below.refl _ _) (Nat.le_refl _) (by simp; omega) ?_
              intro v1 w6 hR1 hB6 hg6 hat6
              rw [List.nil_append] at hR1
              refine hK.out _ _ (hH2 _ hB6) (fun hHeld => ?_)
              clear hK K hat6 hg6
              refine one_ (i := 6) (N := some 48) #[true, true, true, true, true, true, true, false, true, true, true, true, false, false, false, false, false, false] rfl rfl (by kernel_rfl) (by decide) (fun K hK => ?_)
              rw [if_pos (by rfl)]
              go_simp
              refine hK.out _ _ (hH2 _ (hB6.alloc hB6.size _)) (fun hHeld => ?_)
              clear hK K
              refine one_ (i := 7) (N := some 49) #[true, true, true, true, true, true, true, true, true, true, true, true, false, false, false, false, false, false] rfl rfl (by kernel_rfl) (by decide) (fun K hK => ?_)
              refine Kd.R_append_step (Kd.int .i64) (w0 := wd) (W := w6) wd.heap.size rfl (.tmp 46) (.tmp 48) 24 3 (.int .i64 0) 8 rfl Try.underlying24 info3 rfl (by decide) (by omega) v1 (castL bg) (i : Int) [.int .i64 (i : Int)] (fun _ => True) (fun _ => False) rfl rfl rfl (fun _ hk => hk.elim) (fun _ _ => trivial) hR1 hB6 hB6.size (by rw [castL_len]; omega) ?_
              intro v2 w7 hR2 hB7 hg7 hat7
              rw [← castL_snoc] at hR2
              obtain ⟨A7, c7, rfl, hl7, hC7⟩ := Kd.R_reads hR2
              rw [castL_len, List.length_append, List.length_singleton] at hl7 hC7
              rw [castL_len, List.length_append, List.length_singleton]
              refine hK.out _ _ (hH2 _ hB7) (fun _ => ?_)
              exact norm_ rfl (hcont (v1, .slice (some ⟨w6.heap.size, 0, none⟩) 1 1, A7, c7) w7 ⟨hl7, hC7, hB7⟩)
            · rw [if_pos (by rfl)]
              go_simp
              have hBb := (Below.refl wd.heap.size wd).alloc (Nat.le_refl _) (.cells [Value.int .i64 (i : Int)].toArray 3)
              refine hK.out _ _ (hH2 _ hBb) (fun hHeld => ?_)
              clear hK K
              refine one_ (i := 4) (N := some 46) #[true, true, true, true, true, true, true, false, true, true, true, true, false, false, false, false, false, false] rfl rfl (by kernel_rfl) (by decide) (fun K hK => ?_)
              refine Kd.R_append_rows_step (Kd.int .i64) (Rr := fun (x : Int) (cs : List Value) => cs = [.int .i64 x]) (w0 := wd.alloc (.cells [Value.int .i64 (i : Int)].toArray 3)) (wd.alloc (.cells [Value.int .i64 (i : Int)].toArray 3)).heap.size rfl (.const (.slice none 0 0)) (.tmp 45) 24 3 (.int .i64 0) 8 rfl Try.underlying24 info3 rfl (by decide) (by omega) (.slice none 0 0) [] (castL bg) A bg.length c (fun _ => True) (fun _ => False) rfl rfl (Kd.R_nil _ _ _ _ _) (CC.out _ hBb) (fun _ _ h => h) (fun _ hk => hk.elim) (fun _ _ => trivial) (Below.refl _ _) (Nat.le_refl _) (by simp; omega) ?_
              intro v1 w6 hR1 hB6 hg6 hat6
              rw [List.nil_append] at hR1
              have hB06 := below_then hBb hBb.size hB6
              refine hK.out _ _ (hH2 _ hB06) (fun hHeld => ?_)
              clear hK K hat6 hg6
              have hlit : Kd.C (Kd.int .i64) w6 (some ⟨wd.heap.size, 0, none⟩) 1 [(i : Int)] := lent_C (x := [(i : Int)]) (blk_below (blk_new wd (.cells #[.int .i64 (i : Int)] 3)) hB6) (by simp)
              refine one_ (i := 7) (N := some 49) #[true, true, true, true, true, true, true, true, true, true, true, true, false, false, false, false, false, false] rfl rfl (by kernel_rfl) (by decide) (fun K hK => ?_)
              refine Kd.R_append_rows_step (Kd.int .i64) (Rr := fun (x : Int) (cs : List Value) => cs = [.int .i64 x]) (w0 := wd.alloc (.cells [Value.int .i64 (i : Int)].toArray 3)) (W := w6) (wd.alloc (.cells [Value.int .i64 (i : Int)].toArray 3)).heap.size rfl (.tmp 46) (.tmp 48) 24 3 (.int .i64 0) 8 rfl Try.underlying24 info3 rfl (by decide) (by omega) v1 (castL bg) [(i : Int)] (some ⟨wd.heap.size, 0, none⟩) 1 1 (fun _ => True) (fun _ => False) rfl rfl hR1 hlit (fun _ _ h => h) (fun _ hk => hk.elim) (fun _ _ => trivial) hB6 hB6.size (by rw [castL_len]; omega) ?_
              intro v2 w7 hR2 hB7 hg7 hat7
              rw [← castL_snoc] at hR2
              obtain ⟨A7, c7, rfl, hl7, hC7⟩ := Kd.R_reads hR2
              rw [castL_len, List.length_append, List.length_singleton] at hl7 hC7
              rw [castL_len, List.length_append, List.length_singleton]
              have hB07 := below_then hBb hBb.size hB7
              refine hK.out _ _ (hH2 _ hB07) (fun _ => ?_)
              exact norm_ rfl (hcont (v1, .slice (some ⟨wd.heap.size, 0, none⟩) 1 1, A7, c7) w7 ⟨hl7, hC7, hB07⟩)
          rintro ⟨v1, vb, A7, c7⟩ w7 ⟨hl7, hC7, hB7⟩
          have hHeld := hH2 _ hB7
          refine norm_ (a' := ?_) ?_ ?_
          rotate_left
          · show putAll _ _ = _
            simp only [putAll, Act.put, List.setIfInBounds_toArray, List.set_cons_zero, List.set_cons_succ, i64_w, i32_w]
            rfl
          simp only at hl7 hC7 ⊢
          have HB7 := Aside0.mk (below_then HBd.out HBd.out.size hB7)
          have hCX := IH.out A7 c7 (bg ++ [i]) (i + 1) w7 (Kd.C_below G1.out HB7.out) (Kd.C_below G2.out HB7.out) (fun j hj => by
            rcases List.mem_append.1 hj with h | h
            · exact HBG.out j h
            · rw [List.mem_singleton.1 h]; exact hlt) (by rw [List.length_append, List.length_singleton]; exact hC7) (by rw [List.length_append, List.length_singleton]; exact hl7) (by omega) (by rw [List.length_append, List.length_singleton]; omega)
          rw [List.length_append, List.length_singleton, ← wrap_nat' many (by omega)] at hCX
          rw [← wrap_next (i := i) (n := 1000) (by omega) (by omega)] at hCX
          have CX := Aside0.mk hCX
          clear hCX
          refine one_ (i := 12) (N := some 54) #[true, true, true, true, true, true, true, true, true, true, true, true, true, false, false, false, false, false] rfl rfl (by kernel_rfl) (by decide) (fun K hK => ?_)
          refine goes_ Try.func87 (by kernel_rfl) rfl #[.agg #[.int .i64 (n : Int), .int .i64 (s : Int)], .slice (some adl) l.length c1, .slice A2 code.length c2, .slice A7 (bg.length + 1) c7, .int .i64 (wrap64 ((i : Int) + 1)), .int .i64 (wrap64 (many : Int))] (by rfl) rfl rfl (by (try simp only [List.map_toArray, List.map_cons, List.map_nil]); first | done | rfl) ?_
          refine CX.out.mono ?_
          rintro e w8 ⟨A8, c8, r8, rfl, hr8, hl8, hC8, hB8⟩
          refine ⟨_, rfl, ?_⟩
          refine hK.out _ _ (blk_below hHeld hB8) (fun hHeld => ?_)
          clear hK K
          have HB8 := Aside0.mk (below_then HB7.out HB7.out.size hB8)
          have HK8 := Aside0.mk hHeld
          have HC8 := Aside0.mk hC8
          have HL8 := Aside0.mk hl8
          obtain ⟨o2, hs⟩ : ∃ o2, srch (oneT s n l) many (bg ++ [i]) (usf l code (i + 1)) = o2 := ⟨_, rfl⟩
          rw [hs] at hr8 ⊢
          clear hC8 hl8 hB8 hC7 hB7 hl7 hH2
          rcases o2 with _ | b
          · have HO3 := Aside0.mk (HO2.out.trans (srch_miss hs))
            clear hs hr8
            refine norm_ (a' := ?_) ?_ ?_
            rotate_left
            · show Act.put _ (some 54) _ = _
              simp only [Act.put, List.setIfInBounds_toArray, List.set_cons_zero, List.set_cons_succ, i64_w, i32_w]
              rfl
            refine pure_ (i := 13) (N := some 41) (v := ?_) (a' := ?_) #[true, true, true, true, true, true, true, true, true, true, true, true, true, true, false, false, false, false] rfl rfl (by kernel_rfl) (fun _ _ _ h => h) (Or.inl ⟨by rfl, ?_⟩) ?_ ?_
            rotate_left
            · intro w'
              go_simp
              with_reducible rfl
            rotate_left
            · simp only [Act.put, List.setIfInBounds_toArray, List.set_cons_zero, List.set_cons_succ, i64_w, i32_w]
              rfl
            refine pure_ (i := 14) (N := some 55) (v := ?_) (a' := ?_) #[true, true, true, true, true, true, true, true, true, true, true, true, true, true, true, false, false, false] rfl rfl (by kernel_rfl) (fun _ _ _ h => h) (Or.inl ⟨by rfl, ?_⟩) ?_ ?_
            rotate_left
            · intro w'
              go_simp
              with_reducible rfl
            rotate_left
            · simp only [Act.put, List.setIfInBounds_toArray, List.set_cons_zero, List.set_cons_succ, i64_w, i32_w]
              rfl
            refine pure_ (i := 15) (N := some 56) (v := ?_) (a' := ?_) #[true, true, true, true, true, true, true, true, true, true, true, true, true, true, true, true, false, false] rfl rfl (by kernel_rfl) (fun _ _ _ h => h) (Or.inl ⟨by rfl, ?_⟩) ?_ ?_
            rotate_left
            · intro w'
              go_simp
              with_reducible rfl
            rotate_left
            · simp only [Act.put, List.setIfInBounds_toArray, List.set_cons_zero, List.set_cons_succ, i64_w, i32_w]
              rfl
            refine pure_ (i := 16) (N := some 15) (v := ?_) (a' := ?_) #[true, true, true, true, true, true, true, true, true, true, true, true, true, true, true, true, true, false] rfl rfl (by kernel_rfl) (fun _ _ _ h => h) (Or.inl ⟨by rfl, ?_⟩) ?_ ?_
            rotate_left
            · intro w'
              go_simp
              with_reducible rfl
            rotate_left
            · simp only [Act.put, List.setIfInBounds_toArray, List.set_cons_zero, List.set_cons_succ, i64_w, i32_w]
              rfl
            refine pure_ (i := 17) (N := some 16) (v := ?_) (a' := ?_) #[true, true, true, true, true, true, true, true, true, true, true, true, true, true, true, true, true, true] rfl rfl (by kernel_rfl) (fun _ _ _ h => h) (Or.inl ⟨by rfl, ?_⟩) ?_ ?_
            rotate_left
            · intro w'
              go_simp
              with_reducible rfl
            rotate_left
            · simp only [Act.put, List.setIfInBounds_toArray, List.set_cons_zero, List.set_cons_succ, i64_w, i32_w]
              rfl
            refine done_ (by kernel_rfl) ?_
            go_wp2
            refine ⟨⟨i + 1, ⟨by omega⟩, by go_num, HO3, HK8, HB8⟩, ?_⟩
            simp [intOf]; omega
          · obtain rfl := hr8 b rfl
            have HO3 := Aside0.mk (HO2.out.trans (srch_hit hs))
            clear hs hr8
            refine norm_ (a' := ?_) ?_ ?_
            rotate_left
            · show Act.put _ (some 54) _ = _
              simp only [Act.put, List.setIfInBounds_toArray, List.set_cons_zero, List.set_cons_succ, i64_w, i32_w]
              rfl
            refine pure_ (i := 13) (N := some 41) (v := ?_) (a' := ?_) #[true, true, true, true, true, true, true, true, true, true, true, true, true, true, false, false, false, false] rfl rfl (by kernel_rfl) (fun _ _ _ h => h) (Or.inl ⟨by rfl, ?_⟩) ?_ ?_
            rotate_left
            · intro w'
              go_simp
              with_reducible rfl
            rotate_left
            · simp only [Act.put, List.setIfInBounds_toArray, List.set_cons_zero, List.set_cons_succ, i64_w, i32_w]
              rfl
            refine pure_ (i := 14) (N := some 55) (v := ?_) (a' := ?_) #[true, true, true, true, true, true, true, true, true, true, true, true, true, true, true, false, false, false] rfl rfl (by kernel_rfl) (fun _ _ _ h => h) (Or.inl ⟨by rfl, ?_⟩) ?_ ?_
            rotate_left
            · intro w'
              go_simp
              with_reducible rfl
            rotate_left
            · simp only [Act.put, List.setIfInBounds_toArray, List.set_cons_zero, List.set_cons_succ, i64_w, i32_w]
              rfl
            refine pure_ (i := 15) (N := some 56) (v := ?_) (a' := ?_) #[true, true, true, true, true, true, true, true, true, true, true, true, true, true, true, true, false, false] rfl rfl (by kernel_rfl) (fun _ _ _ h => h) (Or.inl ⟨by rfl, ?_⟩) ?_ ?_
            rotate_left
            · intro w'
              go_simp
              with_reducible rfl
            rotate_left
            · simp only [Act.put, List.setIfInBounds_toArray, List.set_cons_zero, List.set_cons_succ, i64_w, i32_w]
              rfl
            refine pure_ (i := 16) (N := some 15) (v := ?_) (a' := ?_) #[true, true, true, true, true, true, true, true, true, true, true, true, true, true, true, true, true, false] rfl rfl (by kernel_rfl) (fun _ _ _ h => h) (Or.inl ⟨by rfl, ?_⟩) ?_ ?_
            rotate_left
            · intro w'
              go_simp
              with_reducible rfl
            rotate_left
            · simp only [Act.put, List.setIfInBounds_toArray, List.set_cons_zero, List.set_cons_succ, i64_w, i32_w]
              rfl
            refine pure_ (i := 17) (N := some 16) (v := ?_) (a' := ?_) #[true, true, true, true, true, true, true, true, true, true, true, true, true, true, true, true, true, true] rfl rfl (by kernel_rfl) (fun _ _ _ h => h) (Or.inl ⟨by rfl, ?_⟩) ?_ ?_
            rotate_left
            · intro w'
              go_simp
              with_reducible rfl
            rotate_left
            · simp only [Act.put, List.setIfInBounds_toArray, List.set_cons_zero, List.set_cons_succ, i64_w, i32_w]
              rfl
            refine done_ (by kernel_rfl) ?_
            go_wp2
            go_ret2
            rw [HO3.out]
            exact ⟨A8, c8, b, rfl, fun x hx => (Option.some.inj hx).symm, HL8.out, HC8.out, HB8.out⟩
      · have hie : i = l.length := by have := hi.out; omega
        subst hie
        have hO := HO.out
        rw [usf_end, srch_nil] at hO
        have HO1 := Aside0.mk hO
        clear hO HO
        go_wp2
        go_ret2
        rw [HO1.out]
        exact ⟨none, 0, [], rfl, fun x hx => (by cases hx), Nat.le_refl _, Kd.C_nil _ _, HB.out⟩
end Go.Proofs.Ytimkchehdaadeaa.P
end
