/- Part 53 of a proof: the statement TopPortraits: for every input its law returns true (its texts without what nothing here names). -/
import Derived.Test.YtimkchehdaadeaaZTop15
import Derived.Test.YtimkchehdaadeaaZTop51
import Derived.Test.YtimkchehdaadeaaZTop52

namespace Go.Proofs.Ytimkchehdaadeaa.P
open Go.RowKit Go.Proofs.YtimkchehdaadeaaW.PrintWords Go.Proofs.YtimkchehdaadeaaW.PrintLast Go.Proofs.YtimkchehdaadeaaW.PrintMore
set_option linter.unusedVariables false
set_option linter.unusedSimpArgs false
theorem info57 : (Try.prog.info? 57).map (fun i => (i.zero, i.size, i.bytes)) = some (some (.agg #[(.int .i64 0), (.int .i64 0), (.int .i64 0), (.int .i64 0), (.bool false)]), 5, 40) := by kernel_rfl
theorem topInts_l0 (x : List Int) (hn : x.length ≤ 9223372036854775807) (d : Nat) : ∀ i : Nat, i ≤ x.length → x.length - i = d → Ev (fun k => padlocktop_sameInts.l0 k x x i) true := by
  induction d with
  | zero =>
    intro i hi hd
    exact Ev.step (f := fun _ => some true) (fun k => by simp only [padlocktop_sameInts.l0]; rw [if_neg (by omega)]) (Ev.now _)
  | succ d ih =>
    intro i hi hd
    refine Ev.step (f := fun k => padlocktop_sameInts.l0 k x x ((i + 1 : Nat) : Int)) (fun k => by
        simp only [padlocktop_sameInts.l0]
        rw [if_pos (by omega), if_pos (by omega), if_pos (by omega), if_pos trivial, wrap_next (n := 9223372036854775807) (by omega) (by omega)]) (ih (i + 1) (by omega) (by omega))
theorem topInts_ev (x : List Int) (hn : x.length ≤ 9223372036854775807) : Ev (fun k => padlocktop_sameInts.f k x x) true := by
  refine Ev.congr (f := fun k => padlocktop_sameInts.l0 k x x ((0 : Nat) : Int)) (fun k => by unfold padlocktop_sameInts.f; rw [if_pos rfl]; rfl) (topInts_l0 x hn _ 0 (Nat.zero_le _) rfl)
theorem counts_true : padlocktop_counts.f = some true := by decide
theorem atC_FK (W : World) (q : S36) (h : q.f5 = []) : Kd.FK k36 W (fun _ => False) q [.int .i64 q.f0, .int .i64 q.f1, .int .i64 q.f2, .int .i64 q.f3, .int .i64 q.f4, .slice none 0 0, .bool q.f6] := by
  have := k36_mkF W (fun _ => False) q (A5 := none) (c5 := 0) (by rw [h]; exact Nat.le_refl _) (by rw [h]; exact fun _ _ => Kd.C_nil _ _)
  rw [h] at this
  exact this
theorem R_empty57 (w : World) : Kd.R k57 57 (w.alloc (.cells #[] 57)) w.heap.size (fun _ => True) (.slice (some ⟨w.heap.size, 0, none⟩) 0 0) ([] : List S57) :=
  ⟨fun _ _ => trivial, [], World.ownsRow_lit (base := w.heap.size) (e := 57) (size := 5) w #[] 0 (Nat.le_refl _) (by decide) rfl, Reps.none _ _⟩
theorem k57_KM {W : World} {base : Nat} {x : S57} {cs : List Value} (h : k57.K W x cs) : k57.M W base (fun _ => False) x cs := by
  rw [k57_open h]; exact k57_mkM W base _ x
theorem row_C {w : World} {A : Option Addr} {n : Nat} {L : List (List Int)} (h : Kd.C (Kd.slice 3 (Kd.int .i64)) w A n L) (i : Nat) (h1 : i < n) : ∃ ad A0 c0, A = some ad ∧ w.cell? (ad.add i) = some (.slice A0 (L.getD i []).length c0) ∧ (L.getD i []).length ≤ c0 ∧ (Kd.int .i64).C w A0 (L.getD i []).length (L.getD i []) := by
  obtain ⟨ad, A0, c0, h2, h3, h4, h5⟩ := at_L2 h (i : Int) (by omega) (by omega)
  rw [Int.toNat_natCast] at h3
  have e : rd_L2 L (i : Int) = L.getD i [] := by simp [rd_L2]
  rw [e] at h3 h4 h5
  exact ⟨ad, A0, c0, h2, h3, h4, h5⟩
set_option maxHeartbeats 8000000 in
set_option maxRecDepth 100000 in
theorem TopPortraits_calls (nI : Int) (A1 : Option Addr) (c1 : Nat) (l : List S57) (w : World) (g1 : Kd.C k57 w A1 l.length l) (e1 : l.length ≤ c1) :
    Calls Try.prog 9 #[.int .i64 nI, .slice A1 l.length c1] w fun e w' => e = .returned (.bool true) ∧ Below w.heap.size w w' := by
  have hu36 := Try.underlying36
  have hu57 := Try.underlying57
  have hmx := Kd.C_max g1
  have G1 := Aside0.mk g1
  have C38 := Aside0.mk (fun w1 => padlocktop_counts.calls true w1 counts_true)
  clear g1
  by_cases h2 : nI < 2
  · have d2 : decide (nI < 2) = true := decide_eq_true h2
    clear h2
    go_enter Try.func9, Try.ntmps9
    go_wp2_with (go_at_call 38; refine (C38.out _).mono ?_; rintro e wz ⟨rfl, hb4⟩)
    go_ret
    exact ⟨rfl, hb4⟩
  have d2 : decide (nI < 2) = false := decide_eq_false h2
  by_cases h4 : 4 < nI
  · have d4 : decide (4 < nI) = true := decide_eq_true h4
    clear h2 h4
    go_enter Try.func9, Try.ntmps9
    go_wp2_with (go_at_call 38; refine (C38.out _).mono ?_; rintro e wz ⟨rfl, hb4⟩)
    go_ret
    exact ⟨rfl, hb4⟩
  have d4 : decide (4 < nI) = false := decide_eq_false h4
  by_cases h14 : 14 < l.length
  · have d14 : decide ((14 : Int) < l.length) = true := decide_eq_true (by omega)
    clear h2 h4 h14
    go_enter Try.func9, Try.ntmps9
    go_wp2_with (go_at_call 38; refine (C38.out _).mono ?_; rintro e wz ⟨rfl, hb4⟩)
    go_ret
    exact ⟨rfl, hb4⟩
  have d14 : decide ((14 : Int) < l.length) = false := decide_eq_false (by omega)
  obtain ⟨n, rfl, hn⟩ : ∃ n : Nat, nI = (n : Int) ∧ (n = 2 ∨ n = 3 ∨ n = 4) := ⟨nI.toNat, by omega, by omega⟩
  have hn24 : 2 ≤ n ∧ n ≤ 4 := by omega
  have hl14 : l.length ≤ 14 := by omega
  have HN := Aside0.mk hn
  have K0 := Aside0.mk (blk_new w (.cells #[.int .i64 (n : Int), .int .i64 (n : Int)] 23))
  have HB := Aside0.mk ((Below.refl w.heap.size w).alloc (Nat.le_refl _) (.cells #[.int .i64 (n : Int), .int .i64 (n : Int)] 23))
  clear h2 h4 h14 hn
  go_enter Try.func9, Try.ntmps9
  go_wp2
  go_loopw [6, 7] (fun v6 v7 wr => ∃ (i : Nat) (A : Option Addr) (c : Nat), Aside0 (i ≤ l.length) ∧ v7 = .int .i64 i ∧ v6 = .slice A ((l.take i).map atC).length c ∧ Aside0 (Kd.N k36 36 wr w.heap.size (fun _ => True) (.slice A ((l.take i).map atC).length c) ((l.take i).map atC)) ∧ Aside0 (wr.heap[w.heap.size]? = some (.cells #[.int .i64 (n : Int), .int .i64 (n : Int)] 23 (0, 0))) ∧ Aside0 (Below w.heap.size w wr) ∧ Aside0 (∀ j : Nat, j < i → (rd_T57 l (j : Int)).f0 = 1)) (fun _ v7 _ => l.length - (intOf v7).toNat)
  case atStart => exact ⟨0, none, 0, ⟨Nat.zero_le _⟩, rfl, rfl, ⟨Kd.N_nil _ _ _ _ _⟩, K0, HB, ⟨fun j hj => absurd hj (Nat.not_lt_zero _)⟩⟩
  case round =>
    clear K0 HB
    obtain ⟨i, A, c, hi, rfl, rfl, HO, HK, HBR, HKI⟩ := hrel
    by_cases hlt : i < l.length
    · obtain ⟨ad, el, k0, k1, k2, k3, k4⟩ := at_T57 G1.out (i : Int) (by omega) (by omega)
      subst el
      have htk : (l.take (i + 1)).map atC = (l.take i).map atC ++ [atC (rd_T57 l (i : Int))] := by
        rw [List.take_succ_eq_append_getElem hlt, List.map_append]
        simp [rd_T57, List.getD_eq_getElem?_getD, List.getElem?_eq_getElem hlt]
      obtain ⟨q, hq⟩ : ∃ q, q = rd_T57 l (i : Int) := ⟨_, rfl⟩
      rw [← hq] at k0 k1 k2 k3 k4 htk
      rw [Int.toNat_natCast] at k0 k1 k2 k3 k4
      have ZK := Aside0.mk k0
      have mv := fun (a : Addr) (v : Value) (h : w.cell? a = some v) => (HBR.out.cell (World.block_lt_of_cell? w _ h)).trans h
      replace k0 := mv _ _ k0
      replace k1 := mv _ _ k1
      replace k2 := mv _ _ k2
      replace k3 := mv _ _ k3
      replace k4 := mv _ _ k4
      have HQ := Aside0.mk hq
      have HTK := Aside0.mk htk
      obtain ⟨X, hX⟩ : ∃ X, X = (l.take i).map atC := ⟨_, rfl⟩
      have hXl : X.length ≤ 14 := by rw [hX, List.length_map]; exact Nat.le_trans (List.length_take_le _ _) (by omega)
      rw [← hX] at HO HTK ⊢
      clear hq htk mv hX
      by_cases hk : q.f0 = 1
      · rw [hk] at k0
        have HQ1 := Aside0.mk hk
        clear hk
        go_wp2
        refine start_ (n := 20) (S := fun w' => w'.cell? ⟨(ad.add (i * 5)).block, (ad.add (i * 5)).off + 1, none⟩ = some (.int .i64 q.f1) ∧ w'.cell? ⟨(ad.add (i * 5)).block, (ad.add (i * 5)).off + 3, none⟩ = some (.int .i64 q.f3) ∧ w'.cell? ⟨(ad.add (i * 5)).block, (ad.add (i * 5)).off + 4, none⟩ = some (.bool q.f4)) (ds := []) #[false, false, false, false, false, false, false, false, false, false, false, false, false, false, false, false, false, false, false, false] (by kernel_rfl) rfl rfl ⟨k1, k3, k4⟩ (fun hHeld => ?_)
        refine pure_ (i := 0) (N := some 47) (v := ?_) (a' := ?_) #[true, false, false, false, false, false, false, false, false, false, false, false, false, false, false, false, false, false, false, false] rfl rfl (by kernel_rfl) (fun _ _ _ h => h) (Or.inl ⟨by rfl, ?_⟩) ?_ ?_
        rotate_left
        · intro w'
          go_simp
          with_reducible rfl
        rotate_left
        · simp only [Act.put, List.setIfInBounds_toArray, List.set_cons_zero, List.set_cons_succ, i64_w, i32_w]
          rfl
        refine pure_ (i := 1) (N := some 48) (v := ?_) (a' := ?_) #[true, true, false, false, false, false, false, false, false, false, false, false, false, false, false, false, false, false, false, false] rfl rfl (by kernel_rfl) (fun _ _ _ h => h) (Or.inl ⟨by rfl, ?_⟩) ?_ ?_
        rotate_left
        · intro w'
          go_simp
          with_reducible rfl
        rotate_left
        · simp only [Act.put, List.setIfInBounds_toArray, List.set_cons_zero, List.set_cons_succ, i64_w, i32_w]
          rfl
        refine pure_ (i := 2) (N := some 49) (v := ?_) (a' := ?_) #[true, true, true, false, false, false, false, false, false, false, false, false, false, false, false, false, false, false, false, false] rfl rfl (by kernel_rfl) (fun _ _ _ h => h) (Or.inl ⟨by rfl, ?_⟩) ?_ ?_
        rotate_left
        · intro w'
          go_simp
          with_reducible rfl
        rotate_left
        · simp only [Act.put, List.setIfInBounds_toArray, List.set_cons_zero, List.set_cons_succ, i64_w, i32_w]
          rfl
        refine pure_ (i := 3) (N := some 50) (v := ?_) (a' := ?_) #[true, true, true, true, false, false, false, false, false, false, false, false, false, false, false, false, false, false, false, false] rfl rfl (by kernel_rfl) (fun _ _ _ h => h) (Or.inl ⟨by rfl, ?_⟩) ?_ ?_
        rotate_left
        · intro w'
          go_simp
          with_reducible rfl
        rotate_left
        · simp only [Act.put, List.setIfInBounds_toArray, List.set_cons_zero, List.set_cons_succ, i64_w, i32_w]
          rfl
        refine pure_ (i := 4) (N := some 51) (v := ?_) (a' := ?_) #[true, true, true, true, true, false, false, false, false, false, false, false, false, false, false, false, false, false, false, false] rfl rfl (by kernel_rfl) (fun _ _ _ h => h) (Or.inl ⟨by rfl, ?_⟩) ?_ ?_
        rotate_left
        · intro w'
          go_simp
          with_reducible rfl
        rotate_left
        · simp only [Act.put, List.setIfInBounds_toArray, List.set_cons_zero, List.set_cons_succ, i64_w, i32_w]
          rfl
        refine take_ (i := 5) (N := some 52) (v := ?_) (a' := ?_) #[true, true, true, true, true, true, false, false, false, false, false, false, false, false, false, false, false, false, false, false] rfl rfl (by kernel_rfl) (fun _ _ _ h => h) (Or.inl ⟨by rfl, ?_⟩) hHeld ?_ ?_
        rotate_left
        · rintro w' ⟨s1, s3, s4⟩
          go_simp
          with_reducible rfl
        rotate_left
        · simp only [Act.put, List.setIfInBounds_toArray, List.set_cons_zero, List.set_cons_succ, i64_w, i32_w]
          rfl
        refine pure_ (i := 6) (N := some 53) (v := ?_) (a' := ?_) #[true, true, true, true, true, true, true, false, false, false, false, false, false, false, false, false, false, false, false, false] rfl rfl (by kernel_rfl) (fun _ _ _ h => h) (Or.inl ⟨by rfl, ?_⟩) ?_ ?_
        rotate_left
        · intro w'
          go_simp
          with_reducible rfl
        rotate_left
        · simp only [Act.put, List.setIfInBounds_toArray, List.set_cons_zero, List.set_cons_succ, i64_w, i32_w]
          rfl
        refine pure_ (i := 7) (N := some 54) (v := ?_) (a' := ?_) #[true, true, true, true, true, true, true, true, false, false, false, false, false, false, false, false, false, false, false, false] rfl rfl (by kernel_rfl) (fun _ _ _ h => h) (Or.inl ⟨by rfl, ?_⟩) ?_ ?_
        rotate_left
        · intro w'
          go_simp
          with_reducible rfl
        rotate_left
        · simp only [Act.put, List.setIfInBounds_toArray, List.set_cons_zero, List.set_cons_succ, i64_w, i32_w]
          rfl
        refine pure_ (i := 8) (N := some 55) (v := ?_) (a' := ?_) #[true, true, true, true, true, true, true, true, true, false, false, false, false, false, false, false, false, false, false, false] rfl rfl (by kernel_rfl) (fun _ _ _ h => h) (Or.inl ⟨by rfl, ?_⟩) ?_ ?_
        rotate_left
        · intro w'
          go_simp
          with_reducible rfl
        rotate_left
        · simp only [Act.put, List.setIfInBounds_toArray, List.set_cons_zero, List.set_cons_succ, i64_w, i32_w]
          rfl
        refine pure_ (i := 9) (N := some 56) (v := ?_) (a' := ?_) #[true, true, true, true, true, true, true, true, true, true, false, false, false, false, false, false, false, false, false, false] rfl rfl (by kernel_rfl) (fun _ _ _ h => h) (Or.inl ⟨by rfl, ?_⟩) ?_ ?_
        rotate_left
        · intro w'
          go_simp
          with_reducible rfl
        rotate_left
        · simp only [Act.put, List.setIfInBounds_toArray, List.set_cons_zero, List.set_cons_succ, i64_w, i32_w]
          rfl
        refine take_ (i := 10) (N := some 57) (v := ?_) (a' := ?_) #[true, true, true, true, true, true, true, true, true, true, true, false, false, false, false, false, false, false, false, false] rfl rfl (by kernel_rfl) (fun _ _ _ h => h) (Or.inl ⟨by rfl, ?_⟩) hHeld ?_ ?_
        rotate_left
        · rintro w' ⟨s1, s3, s4⟩
          go_simp
          with_reducible rfl
        rotate_left
        · simp only [Act.put, List.setIfInBounds_toArray, List.set_cons_zero, List.set_cons_succ, i64_w, i32_w]
          rfl
        refine pure_ (i := 11) (N := some 58) (v := ?_) (a' := ?_) #[true, true, true, true, true, true, true, true, true, true, true, true, false, false, false, false, false, false, false, false] rfl rfl (by kernel_rfl) (fun _ _ _ h => h) (Or.inl ⟨by rfl, ?_⟩) ?_ ?_
        rotate_left
        · intro w'
          go_simp
          with_reducible rfl
        rotate_left
        · simp only [Act.put, List.setIfInBounds_toArray, List.set_cons_zero, List.set_cons_succ, i64_w, i32_w]
          rfl
        refine pure_ (i := 12) (N := some 59) (v := ?_) (a' := ?_) #[true, true, true, true, true, true, true, true, true, true, true, true, true, false, false, false, false, false, false, false] rfl rfl (by kernel_rfl) (fun _ _ _ h => h) (Or.inl ⟨by rfl, ?_⟩) ?_ ?_
        rotate_left
        · intro w'
          go_simp
          with_reducible rfl
        rotate_left
        · simp only [Act.put, List.setIfInBounds_toArray, List.set_cons_zero, List.set_cons_succ, i64_w, i32_w]
          rfl
        refine pure_ (i := 13) (N := some 60) (v := ?_) (a' := ?_) #[true, true, true, true, true, true, true, true, true, true, true, true, true, true, false, false, false, false, false, false] rfl rfl (by kernel_rfl) (fun _ _ _ h => h) (Or.inl ⟨by rfl, ?_⟩) ?_ ?_
        rotate_left
        · intro w'
          go_simp
          with_reducible rfl
        rotate_left
        · simp only [Act.put, List.setIfInBounds_toArray, List.set_cons_zero, List.set_cons_succ, i64_w, i32_w]
          rfl
        refine pure_ (i := 14) (N := some 61) (v := ?_) (a' := ?_) #[true, true, true, true, true, true, true, true, true, true, true, true, true, true, true, false, false, false, false, false] rfl rfl (by kernel_rfl) (fun _ _ _ h => h) (Or.inl ⟨by rfl, ?_⟩) ?_ ?_
        rotate_left
        · intro w'
          go_simp
          with_reducible rfl
        rotate_left
        · simp only [Act.put, List.setIfInBounds_toArray, List.set_cons_zero, List.set_cons_succ, i64_w, i32_w]
          rfl
        refine take_ (i := 15) (N := some 62) (v := ?_) (a' := ?_) #[true, true, true, true, true, true, true, true, true, true, true, true, true, true, true, true, false, false, false, false] rfl rfl (by kernel_rfl) (fun _ _ _ h => h) (Or.inl ⟨by rfl, ?_⟩) hHeld ?_ ?_
        rotate_left
        · rintro w' ⟨s1, s3, s4⟩
          go_simp
          with_reducible rfl
        rotate_left
        · simp only [Act.put, List.setIfInBounds_toArray, List.set_cons_zero, List.set_cons_succ, i64_w, i32_w]
          rfl
        refine pure_ (i := 16) (N := some 63) (v := ?_) (a' := ?_) #[true, true, true, true, true, true, true, true, true, true, true, true, true, true, true, true, true, false, false, false] rfl rfl (by kernel_rfl) (fun _ _ _ h => h) (Or.inl ⟨by rfl, ?_⟩) ?_ ?_
        rotate_left
        · intro w'
          go_simp
          with_reducible rfl
        rotate_left
        · simp only [Act.put, List.setIfInBounds_toArray, List.set_cons_zero, List.set_cons_succ, i64_w, i32_w]
          rfl
        refine one_ (i := 17) (N := some 64) #[true, true, true, true, true, true, true, true, true, true, true, true, true, true, true, true, true, true, false, false] rfl rfl (by kernel_rfl) (by decide) (fun K hK => ?_)
        rw [if_pos (by rfl)]
        go_simp
        refine hK.out _ _ (by
          obtain ⟨s1, s3, s4⟩ := hHeld
          have hb := (Below.refl wr.drew.heap.size wr.drew).alloc (Nat.le_refl _) (.cells #[.int .i64 1, .int .i64 q.f3, .int .i64 0, .int .i64 q.f1, .int .i64 0, .slice none 0 0, .bool q.f4] 36)
          have mv := fun (a : Addr) (v : Value) (h : wr.drew.cell? a = some v) => (hb.cell (World.block_lt_of_cell? wr.drew _ h)).trans h
          exact ⟨mv _ _ s1, mv _ _ s3, mv _ _ s4⟩) (fun hHeld2 => ?_)
        clear hK K hHeld2
        refine one_ (i := 18) (N := some 65) #[true, true, true, true, true, true, true, true, true, true, true, true, true, true, true, true, true, true, true, false] rfl rfl (by kernel_rfl) (by decide) (fun K hK => ?_)
        refine Kd.N_append_step k36 (w0 := w) (W := wr.drew) w.heap.size rfl (.tmp 47) (.tmp 64) 31 36 _ 72 rfl Try.underlying31 info36 rfl (by decide) (by omega) (.slice A X.length c) X (atC q) [.int .i64 1, .int .i64 q.f3, .int .i64 0, .int .i64 q.f1, .int .i64 0, .slice none 0 0, .bool q.f4] (fun _ => True) (fun _ => False) rfl rfl (atC_FK _ (atC q) rfl) (fun _ hk => hk.elim) (fun _ _ => trivial) (Kd.N_drew HO.out) HBR.out.drew HBR.out.drew.size (by omega) ?_
        intro v2 w7 hN2 hB7 hg7 hat7
        obtain ⟨A7, c7, rfl⟩ := Kd.N_slice hN2
        have hK7 := (hg7.block w.heap.size (blk_lt (blk_drew HK.out)) (fun e => by
          have := Kd.N_base HO.out w.heap.size e.symm
          have h2 := Kd.N_ne (Kd.N_drew HO.out) (blk_drew HK.out) (by decide)
          exact h2 e)).trans (blk_drew HK.out)
        have HK7 := Aside0.mk hK7
        have HN7 := Aside0.mk hN2
        have HB7 := Aside0.mk hB7
        refine hK.out _ _ (by
          obtain ⟨s1, s3, s4⟩ := hHeld
          have mv := fun (a : Addr) (v : Value) (hlt : a.block < w.heap.size) (h : wr.drew.cell? a = some v) => (show w7.cell? a = wr.drew.cell? a from by
            have h1 := hB7.cell hlt
            have h2 := HBR.out.drew.cell hlt
            exact h1.trans h2.symm).trans h
          have hbl := World.block_lt_of_cell? w _ (show w.cell? (ad.add (i * 5)) = _ from ZK.out)
          exact ⟨mv _ _ hbl s1, mv _ _ hbl s3, mv _ _ hbl s4⟩) (fun hHeld2 => ?_)
        clear hK K hK7 hN2 hB7 hg7 hat7 hHeld2
        refine norm_ (a' := ?_) ?_ ?_
        rotate_left
        · show Act.put _ (some 65) _ = _
          simp only [Act.put, List.setIfInBounds_toArray, List.set_cons_zero, List.set_cons_succ, i64_w, i32_w]
          rfl
        refine pure_ (i := 19) (N := some 6) (v := ?_) (a' := ?_) #[true, true, true, true, true, true, true, true, true, true, true, true, true, true, true, true, true, true, true, true] rfl rfl (by kernel_rfl) (fun _ _ _ h => h) (Or.inl ⟨by rfl, ?_⟩) ?_ ?_
        rotate_left
        · intro w'
          go_simp
          with_reducible rfl
        rotate_left
        · simp only [Act.put, List.setIfInBounds_toArray, List.set_cons_zero, List.set_cons_succ, i64_w, i32_w]
          rfl
        refine done_ (by kernel_rfl) ?_
        clear hHeld k0 k1 k2 k3 k4
        have hlen7 : (X ++ [atC q]).length = ((l.take (i + 1)).map atC).length := by rw [HTK.out]
        have HKI2 := Aside0.mk (fun (j : Nat) (hj : j < i + 1) => show (rd_T57 l (j : Int)).f0 = 1 by
          by_cases e : j = i
          · subst e; rw [← HQ.out]; exact HQ1.out
          · exact HKI.out j (by omega))
        have HL7 := Aside0.mk hlen7
        clear hlen7
        go_wp2
        refine ⟨⟨i + 1, A7, c7, ⟨by omega⟩, by go_num, by rw [← HL7.out]; simp, ⟨by rw [← HL7.out, HTK.out]; exact HN7.out⟩, HK7, HB7, HKI2⟩, ?_⟩
        simp [intOf]; omega
      · have hkn : (q.f0 != 1) = true := bne_iff_ne.mpr hk
        clear hk
        go_wp2_with (go_at_call 38; refine (C38.out _).mono ?_; rintro e wz ⟨rfl, hb4⟩)
        go_ret
        exact ⟨rfl, below_then HBR.out HBR.out.size hb4⟩
    · have hie : i = l.length := by have := hi.out; omega
      have hO := HO.out
      have hki : ∀ x ∈ l, x.f0 = 1 := fun x hx => by
        obtain ⟨j, hj, rfl⟩ := List.getElem_of_mem hx
        have := HKI.out j (by omega)
        have e : rd_T57 l (j : Int) = l[j] := by simp [rd_T57, List.getD_eq_getElem?_getD, List.getElem?_eq_getElem hj]
        rw [e] at this; exact this
      rw [hie, List.take_length] at hO ⊢
      obtain ⟨X, hX⟩ : ∃ X, X = l.map atC := ⟨_, rfl⟩
      have hXl : X.length ≤ 14 := by rw [hX, List.length_map]; omega
      have HX := Aside0.mk hX
      rw [← hX] at hO ⊢
      have HO1 := Aside0.mk hO
      have HKI1 := Aside0.mk hki
      clear hie hO hki hX HO HKI hi
      go_wp2
      obtain ⟨wx, hwx⟩ : ∃ wx, wx = wr := ⟨_, rfl⟩
      subst hwx
      obtain ⟨hn2, hn4⟩ := hn24
      go_loopw [6, 8] (fun v6 v8 wr => ∃ (i : Nat) (A : Option Addr) (c : Nat), Aside0 (i ≤ n) ∧ v8 = .int .i64 i ∧ v6 = .slice A (X ++ samesC n i).length c ∧ Aside0 (Kd.N k36 36 wr w.heap.size (fun _ => True) (.slice A (X ++ samesC n i).length c) (X ++ samesC n i)) ∧ Aside0 (wr.heap[w.heap.size]? = some (.cells #[.int .i64 (n : Int), .int .i64 (n : Int)] 23 (0, 0))) ∧ Aside0 (Below w.heap.size w wr)) (fun _ v8 _ => n - (intOf v8).toNat)
      case atStart => exact ⟨0, A, c, ⟨Nat.zero_le _⟩, rfl, by simp [samesC], ⟨by simp only [samesC, List.range_zero, List.flatMap_nil, List.append_nil]; exact HO1.out⟩, HK, HBR⟩
      case round =>
        clear HO1 HK HBR
        obtain ⟨i, A, c, hi, rfl, rfl, HO, HK, HBR⟩ := hrel
        by_cases hlt : i < n
        · have hstep := samesC_step n i
          have hsl := samesC_len n i
          have hsl2 : (X ++ samesC n i).length ≤ 40 := by
            rw [List.length_append]
            have : i * n ≤ 4 * 4 := Nat.mul_le_mul (by omega) (by omega)
            omega
          obtain ⟨Y, hY⟩ : ∃ Y, Y = X ++ samesC n i := ⟨_, rfl⟩
          have hY2 : X ++ samesC n (i + 1) = Y ++ rowC i n := by rw [hstep, hY, List.append_assoc]
          rw [← hY] at HO hsl2 ⊢
          have HY2 := Aside0.mk hY2
          clear hstep hsl hY hY2
          go_wp2
          obtain ⟨wy, hwy⟩ : ∃ wy, wy = wr := ⟨_, rfl⟩
          subst hwy
          go_loopw [6, 9] (fun v6 v9 wr => ∃ (k : Nat) (A : Option Addr) (c : Nat), Aside0 (i + 1 ≤ k ∧ k ≤ n) ∧ v9 = .int .i64 k ∧ v6 = .slice A (Y ++ rowC i k).length c ∧ Aside0 (Kd.N k36 36 wr w.heap.size (fun _ => True) (.slice A (Y ++ rowC i k).length c) (Y ++ rowC i k)) ∧ Aside0 (wr.heap[w.heap.size]? = some (.cells #[.int .i64 (n : Int), .int .i64 (n : Int)] 23 (0, 0))) ∧ Aside0 (Below w.heap.size w wr)) (fun _ v9 _ => n - (intOf v9).toNat)
          case atStart => exact ⟨i + 1, A, c, ⟨by omega⟩, by go_num, by rw [rowC_start, List.append_nil], ⟨by rw [rowC_start, List.append_nil]; exact HO.out⟩, HK, HBR⟩
          case round =>
            clear HO HK HBR
            obtain ⟨k, A, c, hk, rfl, rfl, HO, HK, HBR⟩ := hrel
            obtain ⟨hk1, hk2⟩ := hk.out
            by_cases hlt2 : k < n
            · have hrs := rowC_step i k (by omega)
              have hrl := rowC_len i k
              obtain ⟨Z, hZ⟩ : ∃ Z, Z = Y ++ rowC i k := ⟨_, rfl⟩
              have hZl : Z.length ≤ 50 := by rw [hZ, List.length_append]; omega
              have hZ2 : Y ++ rowC i (k + 1) = Z ++ [sameC i k] := by rw [hrs, hZ, List.append_assoc]
              rw [← hZ] at HO ⊢
              have HZ2 := Aside0.mk hZ2
              clear hrs hrl hZ hZ2
              go_wp2_with (first | ((with_reducible refine gate_builtin (b := .append) (xs := #[.tmp 78, .tmp 82]) rfl ?_); at_builtin; refine Kd.N_append k36 (w0 := w) w.heap.size rfl (.tmp 78) (.tmp 82) 31 36 _ 72 rfl Try.underlying31 info36 rfl (by decide) (by omega) (.slice A Z.length c) Z (sameC i k) [.int .i64 4, .int .i64 (i : Int), .int .i64 (k : Int), .int .i64 0, .int .i64 0, .slice none 0 0, .bool true] (fun _ => True) (fun _ => False) rfl rfl (atC_FK _ (sameC i k) rfl) (fun _ hk => hk.elim) (fun _ _ => trivial) HO.out HBR.out HBR.out.size (by omega) ?_; intro v2 w7 hN2 hB7 hg7 hat7; obtain ⟨A7, c7, rfl⟩ := Kd.N_slice hN2; have hK7 := (hg7.block w.heap.size (blk_lt HK.out) (Kd.N_ne HO.out HK.out (by decide))).trans HK.out; have HK7 := Aside0.mk hK7; have HN7 := Aside0.mk hN2; have HB7 := Aside0.mk hB7; clear hK7 hN2 hB7 hg7 hat7))
              refine ⟨⟨k + 1, A7, c7, ⟨by omega⟩, by go_num, by rw [HZ2.out]; simp, ⟨by rw [HZ2.out]; exact HN7.out⟩, HK7, HB7⟩, ?_⟩
              simp [intOf]; omega
            · have hke : k = n := by omega
              have hO := HO.out
              rw [hke, ← HY2.out] at hO ⊢
              have HO2 := Aside0.mk hO
              clear hke hO HO
              go_wp2
              refine ⟨⟨i + 1, A, c, ⟨by omega⟩, by go_num, rfl, HO2, HK, HBR⟩, ?_⟩
              simp [intOf]; omega
        · have hie : i = n := by have := hi.out; omega
          have hO := HO.out
          rw [hie] at hO ⊢
          have hP : X ++ samesC n n = portC n l := by rw [HX.out]; rfl
          rw [hP] at hO ⊢
          have HO2 := Aside0.mk hO
          have hPl : (portC n l).length ≤ 100 := by
            rw [← hP, List.length_append]
            have h1 := samesC_len n n
            have : n * n ≤ 4 * 4 := Nat.mul_le_mul (by omega) (by omega)
            omega
          clear hie hO hP HO hi
          by_cases ha : l.all (saidB n) = true
          case neg =>
            have C39 := Aside0.mk (fun A c w1 hC hc => pz_Hangings.calls n HN.out A c l w1 hC hc HKI1.out (by omega))
            simp only [if_neg ha] at C39
            clear ha
            go_wp2_with (first
              | (go_at_call 38; refine (C38.out _).mono ?_; rintro e wz ⟨rfl, hb4⟩)
              | (go_at_call 39; refine (C39.out _ _ _ waC.out waL.out).mono ?_; rintro e wb ⟨rfl, hbb⟩; have HBb := Aside0.mk (below_then waB.out waB.out.size hbb); clear hbb)
              | ((with_reducible refine gate_builtin (b := .append) (xs := #[.tmp 86, .tmp 87]) rfl ?_); at_builtin; refine Kd.R_append_rows k57 (Rr := k57.K (wr.alloc (.cells #[] 57))) (w0 := wr) wr.heap.size rfl (.tmp 86) (.tmp 87) 55 57 _ 40 rfl Try.underlying55 info57 rfl (by decide) (by omega) (.slice (some ⟨wr.heap.size, 0, none⟩) 0 0) [] l A1 l.length c1 (fun _ => True) (fun _ => False) rfl rfl (R_empty57 wr) (Kd.C_alloc (Kd.C_below G1.out HBR.out) _) (fun _ _ h => k57_KM h) (fun _ hk => hk.elim) (fun _ _ => trivial) ((Below.refl _ wr).alloc (Nat.le_refl _) _) (by simp) (by simp; omega) ?_; intro v1 wa hR hb1 hg hat; rw [List.nil_append] at hR; obtain ⟨waA, wac, rfl, hl1, hC1⟩ := Kd.R_reads hR; have waC := Aside0.mk hC1; have waL := Aside0.mk hl1; have waB := Aside0.mk (below_then HBR.out HBR.out.size hb1); clear hR hb1 hg hat hl1 hC1))
            go_ret
            exact ⟨rfl, below_then HBb.out HBb.out.size hb4⟩
          have C39 := Aside0.mk (fun A c w1 hC hc => pz_Hangings.calls n HN.out A c l w1 hC hc HKI1.out (by omega))
          simp only [if_pos ha] at C39
          have C40 := Aside0.mk (fun A c w1 hC hc => pz_Hang.calls n HN.out A c l w1 hC hc HKI1.out (by omega) ha)
          have hval := port_valid HN.out hl14 ha
          have hcodes := port_codes HN.out ha
          have hlenH := hangsL_len HN.out l
          have hallH := hangs_all HN.out l
          have C35 := Aside0.mk (fun A c w1 hC hc => codes_Count.calls n n A c (portC n l) ((hangsL n l).length : Nat) 0 w1 hC hc (by rw [Count_eq]; unfold countS; rw [if_pos hval]; simp only [Int.toNat_natCast]; rw [hcodes, List.length_map]))
          have C36 := Aside0.mk (fun A c w1 hC hc => codes_Readings.calls n n A c (portC n l) 64 ((hangsL n l).map castL) 0 w1 hC hc (by unfold readS; rw [if_pos hval, if_pos (by rfl)]; simp only [Int.toNat_natCast]; rw [hcodes, List.take_of_length_le (by rw [List.length_map]; exact Nat.le_trans hlenH (by decide))]))
          obtain ⟨Lh, hLh⟩ : ∃ Lh, Lh = (hangsL n l).map castL := ⟨_, rfl⟩
          have hLl : (hangsL n l).length = Lh.length := by rw [hLh, List.length_map]
          have hrow : ∀ x ∈ Lh, x.length ≤ 10 := fun x hx => by
            rw [hLh] at hx
            obtain ⟨y, hy, rfl⟩ := List.mem_map.1 hx
            rw [castL_len, hallH y hy]; omega
          rw [← hLh] at C40 C36
          rw [hLl] at C39 C35 hlenH
          have HROW := Aside0.mk hrow
          obtain ⟨hle2, hcN, hCN⟩ := Kd.N_reads' HO2.out
          have HCN := Aside0.mk hCN
          clear hval hcodes hallH hLh hLl hrow ha hCN hle2
          go_wp2_with (first
            | (go_at_call 36; refine (C36.out _ _ _ (Kd.C_below HCN.out HBRe.out) hcN).mono ?_; rintro e wf ⟨vf, rfl, hRf, hbf⟩; obtain ⟨Af, cf, rfl, hlf, hCf⟩ := Kd.R_reads hRf; have HCf := Aside0.mk hCf; have HLf := Aside0.mk hlf; have HBf := Aside0.mk (below_then HBe.out HBe.out.size hbf); have HCd2 := Aside0.mk (Kd.C_below (Kd.C_below HCd.out HBde.out) hbf); clear hRf hbf hCf hlf r0 r1)
            | (go_at_call 35; refine (C35.out _ _ _ (Kd.C_below HCN.out HBRd.out) hcN).mono ?_; rintro e we ⟨rfl, hbe⟩; have HBde := Aside0.mk hbe; have HBe := Aside0.mk (below_then HBd.out HBd.out.size hbe); have HBRe := Aside0.mk (below_then HBRd.out HBRd.out.size hbe); have Ke := Aside0.mk (blk_below Kd_.out hbe); clear hbe r0 r1; obtain ⟨r0, r1⟩ := cells2 Ke.out)
            | (go_at_call 40; refine (C40.out _ _ _ wcC.out wcL.out).mono ?_; rintro e wd ⟨vd, rfl, hRd, hbd⟩; obtain ⟨Ad, cd, rfl, hld, hCd⟩ := Kd.R_reads hRd; have HCd := Aside0.mk hCd; have HLd := Aside0.mk hld; have HBd := Aside0.mk (below_then wcB.out wcB.out.size hbd); have HBRd := Aside0.mk (show Below wr.heap.size wr wd from ((below_then HBRb.out HBRb.out.size wcR.out).trans (hbd.mono (below_then HBRb.out HBRb.out.size wcR.out).size))); have Kd_ := Aside0.mk (blk_below HK.out HBRd.out); clear hRd hbd hCd hld; obtain ⟨r0, r1⟩ := cells2 Kd_.out)
            | (go_at_call 39; refine (C39.out _ _ _ waC.out waL.out).mono ?_; rintro e wb ⟨rfl, hbb⟩; have HBb := Aside0.mk (below_then waB.out waB.out.size hbb); have HBRb := Aside0.mk (show Below wr.heap.size wr wb from waR.out.trans (hbb.mono waR.out.size)); clear hbb)
            | ((with_reducible refine gate_builtin (b := .append) (xs := #[.tmp 101, .tmp 102]) rfl ?_); at_builtin; refine Kd.R_append_rows k57 (Rr := k57.K (wb.alloc (.cells #[] 57))) (w0 := wb) wb.heap.size rfl (.tmp 101) (.tmp 102) 55 57 _ 40 rfl Try.underlying55 info57 rfl (by decide) (by omega) (.slice (some ⟨wb.heap.size, 0, none⟩) 0 0) [] l A1 l.length c1 (fun _ => True) (fun _ => False) rfl rfl (R_empty57 wb) (Kd.C_alloc (Kd.C_below G1.out HBb.out) _) (fun _ _ h => k57_KM h) (fun _ hk => hk.elim) (fun _ _ => trivial) ((Below.refl _ wb).alloc (Nat.le_refl _) _) (by simp) (by simp; omega) ?_; intro v1 wc hR hb1 hg hat; rw [List.nil_append] at hR; obtain ⟨wcA, wcc, rfl, hl1, hC1⟩ := Kd.R_reads hR; have wcC := Aside0.mk hC1; have wcL := Aside0.mk hl1; have wcR := Aside0.mk hb1; have wcB := Aside0.mk (below_then HBb.out HBb.out.size hb1); clear hR hb1 hg hat hl1 hC1)
            | ((with_reducible refine gate_builtin (b := .append) (xs := #[.tmp 86, .tmp 87]) rfl ?_); at_builtin; refine Kd.R_append_rows k57 (Rr := k57.K (wr.alloc (.cells #[] 57))) (w0 := wr) wr.heap.size rfl (.tmp 86) (.tmp 87) 55 57 _ 40 rfl Try.underlying55 info57 rfl (by decide) (by omega) (.slice (some ⟨wr.heap.size, 0, none⟩) 0 0) [] l A1 l.length c1 (fun _ => True) (fun _ => False) rfl rfl (R_empty57 wr) (Kd.C_alloc (Kd.C_below G1.out HBR.out) _) (fun _ _ h => k57_KM h) (fun _ hk => hk.elim) (fun _ _ => trivial) ((Below.refl _ wr).alloc (Nat.le_refl _) _) (by simp) (by simp; omega) ?_; intro v1 wa hR hb1 hg hat; rw [List.nil_append] at hR; obtain ⟨waA, wac, rfl, hl1, hC1⟩ := Kd.R_reads hR; have waC := Aside0.mk hC1; have waL := Aside0.mk hl1; have waR := Aside0.mk hb1; have waB := Aside0.mk (below_then HBR.out HBR.out.size hb1); clear hR hb1 hg hat hl1 hC1))
          clear C39 C40 C35 C36
          go_loopw [18] (fun v18 wr => ∃ i : Nat, Aside0 (i ≤ Lh.length) ∧ v18 = .int .i64 i ∧ Aside0 (Below wf.heap.size wf wr)) (fun v18 _ => Lh.length - (intOf v18).toNat)
          case atStart => exact ⟨0, ⟨Nat.zero_le _⟩, rfl, ⟨Below.refl _ _⟩⟩
          case round =>
            obtain ⟨i, hi, rfl, HBL⟩ := hrel
            by_cases hlt : i < Lh.length
            · obtain ⟨ad1, B1, m1, rfl, z1, l1, g1⟩ := row_C HCd2.out i hlt
              obtain ⟨ad2, B2, m2, rfl, z2, l2, g2⟩ := row_C HCf.out i hlt
              replace z1 := (HBL.out.cell (World.block_lt_of_cell? wf _ z1)).trans z1
              replace z2 := (HBL.out.cell (World.block_lt_of_cell? wf _ z2)).trans z2
              have hrl : (Lh.getD i []).length ≤ 10 := by
                rw [List.getD_eq_getElem?_getD, List.getElem?_eq_getElem hlt]
                exact HROW.out _ (List.getElem_mem hlt)
              obtain ⟨x, hx⟩ : ∃ x, x = Lh.getD i [] := ⟨_, rfl⟩
              rw [← hx] at z1 z2 l1 l2 g1 g2 hrl
              obtain ⟨kx, hkx⟩ := (topInts_ev x (by omega)).rounds
              have C41 := Aside0.mk (fun w1 (h1 : Below wf.heap.size wf w1) => padlocktop_sameInts.calls kx B1 m1 x B2 m2 x true w1 (Kd.C_below g1 h1) l1 (Kd.C_below g2 h1) l2 hkx)
              clear hx hkx g1 g2
              go_wp2
              refine start_ (n := 10) (S := fun w' => w'.cell? (ad1.add i) = some (.slice B1 x.length m1) ∧ w'.cell? (ad2.add i) = some (.slice B2 x.length m2)) (ds := []) #[false, false, false, false, false, false, false, false, false, false] (by kernel_rfl) rfl rfl ⟨z1, z2⟩ (fun hHeld => ?_)
              refine pure_ (i := 0) (N := some 147) (v := ?_) (a' := ?_) #[true, false, false, false, false, false, false, false, false, false] rfl rfl (by kernel_rfl) (fun _ _ _ h => h) (Or.inl ⟨by rfl, ?_⟩) ?_ ?_
              rotate_left
              · intro w'
                go_simp
                with_reducible rfl
              rotate_left
              · simp only [Act.put, List.setIfInBounds_toArray, List.set_cons_zero, List.set_cons_succ, i64_w, i32_w]
                rfl
              refine pure_ (i := 1) (N := some 148) (v := ?_) (a' := ?_) #[true, true, false, false, false, false, false, false, false, false] rfl rfl (by kernel_rfl) (fun _ _ _ h => h) (Or.inl ⟨by rfl, ?_⟩) ?_ ?_
              rotate_left
              · intro w'
                go_simp
                with_reducible rfl
              rotate_left
              · simp only [Act.put, List.setIfInBounds_toArray, List.set_cons_zero, List.set_cons_succ, i64_w, i32_w]
                rfl
              refine pure_ (i := 2) (N := some 149) (v := ?_) (a' := ?_) #[true, true, true, false, false, false, false, false, false, false] rfl rfl (by kernel_rfl) (fun _ _ _ h => h) (Or.inl ⟨by rfl, ?_⟩) ?_ ?_
              rotate_left
              · intro w'
                go_simp
                with_reducible rfl
              rotate_left
              · simp only [Act.put, List.setIfInBounds_toArray, List.set_cons_zero, List.set_cons_succ, i64_w, i32_w]
                rfl
              refine take_ (i := 3) (N := some 150) (v := ?_) (a' := ?_) #[true, true, true, true, false, false, false, false, false, false] rfl rfl (by kernel_rfl) (fun _ _ _ h => h) (Or.inl ⟨by rfl, ?_⟩) hHeld ?_ ?_
              rotate_left
              · rintro w' ⟨s0, s1⟩
                go_simp
                with_reducible rfl
              rotate_left
              · simp only [Act.put, List.setIfInBounds_toArray, List.set_cons_zero, List.set_cons_succ, i64_w, i32_w]
                rfl
              refine pure_ (i := 4) (N := some 151) (v := ?_) (a' := ?_) #[true, true, true, true, true, false, false, false, false, false] rfl rfl (by kernel_rfl) (fun _ _ _ h => h) (Or.inl ⟨by rfl, ?_⟩) ?_ ?_
              rotate_left
              · intro w'
                go_simp
                with_reducible rfl
              rotate_left
              · simp only [Act.put, List.setIfInBounds_toArray, List.set_cons_zero, List.set_cons_succ, i64_w, i32_w]
                rfl
              refine pure_ (i := 5) (N := some 152) (v := ?_) (a' := ?_) #[true, true, true, true, true, true, false, false, false, false] rfl rfl (by kernel_rfl) (fun _ _ _ h => h) (Or.inl ⟨by rfl, ?_⟩) ?_ ?_
              rotate_left
              · intro w'
                go_simp
                with_reducible rfl
              rotate_left
              · simp only [Act.put, List.setIfInBounds_toArray, List.set_cons_zero, List.set_cons_succ, i64_w, i32_w]
                rfl
              refine pure_ (i := 6) (N := some 153) (v := ?_) (a' := ?_) #[true, true, true, true, true, true, true, false, false, false] rfl rfl (by kernel_rfl) (fun _ _ _ h => h) (Or.inl ⟨by rfl, ?_⟩) ?_ ?_
              rotate_left
              · intro w'
                go_simp
                with_reducible rfl
              rotate_left
              · simp only [Act.put, List.setIfInBounds_toArray, List.set_cons_zero, List.set_cons_succ, i64_w, i32_w]
                rfl
              refine take_ (i := 7) (N := some 154) (v := ?_) (a' := ?_) #[true, true, true, true, true, true, true, true, false, false] rfl rfl (by kernel_rfl) (fun _ _ _ h => h) (Or.inl ⟨by rfl, ?_⟩) hHeld ?_ ?_
              rotate_left
              · rintro w' ⟨s0, s1⟩
                go_simp
                with_reducible rfl
              rotate_left
              · simp only [Act.put, List.setIfInBounds_toArray, List.set_cons_zero, List.set_cons_succ, i64_w, i32_w]
                rfl
              refine one_ (i := 8) (N := some 155) #[true, true, true, true, true, true, true, true, true, false] rfl rfl (by kernel_rfl) (by decide) (fun K hK => ?_)
              refine goes_ Try.func41 (by kernel_rfl) rfl #[.slice B1 x.length m1, .slice B2 x.length m2] (by rfl) rfl rfl (by (try simp only [List.map_toArray, List.map_cons, List.map_nil]); first | done | rfl) ?_
              refine (C41.out _ HBL.out.drew).mono ?_
              rintro e wg ⟨rfl, hd9⟩
              refine ⟨_, rfl, ?_⟩
              have hb9 := hd9.below
              refine hK.out _ _ ⟨(hb9.cell (World.block_lt_of_cell? _ _ hHeld.1)).trans hHeld.1, (hb9.cell (World.block_lt_of_cell? _ _ hHeld.2)).trans hHeld.2⟩ (fun hHeld => ?_)
              clear hK K
              have HB9 := Aside0.mk (below_then HBL.out.drew HBL.out.drew.size hb9)
              clear hd9 hb9
              refine norm_ (a' := ?_) ?_ ?_
              rotate_left
              · show Act.put _ (some 155) _ = _
                simp only [Act.put, List.setIfInBounds_toArray, List.set_cons_zero, List.set_cons_succ, i64_w, i32_w]
                rfl
              refine pure_ (i := 9) (N := some 156) (v := ?_) (a' := ?_) #[true, true, true, true, true, true, true, true, true, true] rfl rfl (by kernel_rfl) (fun _ _ _ h => h) (Or.inl ⟨by rfl, ?_⟩) ?_ ?_
              rotate_left
              · intro w'
                go_simp
                with_reducible rfl
              rotate_left
              · simp only [Act.put, List.setIfInBounds_toArray, List.set_cons_zero, List.set_cons_succ, i64_w, i32_w]
                rfl
              refine done_ (by kernel_rfl) ?_
              clear hHeld
              go_wp2
              refine ⟨⟨i + 1, ⟨by omega⟩, by go_num, HB9⟩, ?_⟩
              simp [intOf]; omega
            · have hie : i = Lh.length := by have := hi.out; omega
              subst hie
              go_wp2_with (go_at_call 38; refine (C38.out _).mono ?_; rintro e wz ⟨rfl, hb4⟩)
              go_ret
              exact ⟨rfl, below_then (below_then HBf.out HBf.out.size HBL.out) (below_then HBf.out HBf.out.size HBL.out).size hb4⟩
end Go.Proofs.Ytimkchehdaadeaa.P
