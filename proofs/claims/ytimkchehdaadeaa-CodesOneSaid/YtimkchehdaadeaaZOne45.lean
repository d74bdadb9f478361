/- Part 45 of a proof: the statement CodesOne: for every input its law returns true (its texts without what nothing here names). -/
import Derived.Test.YtimkchehdaadeaaZOne40
import Derived.Test.YtimkchehdaadeaaZOne42
import Derived.Test.YtimkchehdaadeaaZOne44

namespace Go.Proofs.Ytimkchehdaadeaa.P
open Go.RowKit Go.Proofs.YtimkchehdaadeaaW.PrintWords Go.Proofs.YtimkchehdaadeaaW.PrintLast Go.Proofs.YtimkchehdaadeaaW.PrintMore
set_option linter.unusedVariables false
set_option linter.unusedSimpArgs false
theorem one_pair {al : List (List Int)} (hs : al.Pairwise (fun a b => lexLt a b = true)) (h : 2 ≤ al.length) : al.getD 0 [] ∈ al ∧ al.getD (al.length - 1) [] ∈ al ∧ lexLt (al.getD 0 []) (al.getD (al.length - 1) []) = true := by
  have e0 : al.getD 0 [] = al[0] := by simp [List.getD_eq_getElem?_getD, List.getElem?_eq_getElem (show 0 < al.length by omega)]
  have e1 : al.getD (al.length - 1) [] = al[al.length - 1] := by simp [List.getD_eq_getElem?_getD, List.getElem?_eq_getElem (show al.length - 1 < al.length by omega)]
  rw [e0, e1]
  exact ⟨List.getElem_mem _, List.getElem_mem _, List.pairwise_iff_getElem.1 hs 0 (al.length - 1) (by omega) (by omega) (by omega)⟩
theorem one_next (T : List Int) (x : Int) (i : Nat) (h : i < T.length) : decide (x ∈ T.take (i + 1)) = (decide (x ∈ T.take i) || (T[i] == x)) := by
  rw [List.take_succ_eq_append_getElem h, Bool.eq_iff_iff]
  simp only [decide_eq_true_eq, Bool.or_eq_true, List.mem_append, List.mem_singleton, beq_iff_eq]
  exact ⟨fun h => h.imp id Eq.symm, fun h => h.imp id Eq.symm⟩
theorem one_first {al : List (List Int)} {c : List Int} (hc : c ∈ al) : (al.take 1).length = 1 ∧ rd_L2 (al.take 1) ((0 : Nat) : Int) = al.getD 0 [] ∧ (decide (1 < al.length) || decide (al.getD 0 [] = c)) = true := by
  have h0 := List.length_pos_of_mem hc
  refine ⟨by rw [List.length_take]; omega, ?_, ?_⟩
  · rcases al with _ | ⟨x, t⟩
    · simp at h0
    · simp [rd_L2]
  · by_cases h : 1 < al.length
    · simp [h]
    · rcases al with _ | ⟨x, t⟩
      · simp at h0
      · have ht : t = [] := by
          rcases t with _ | ⟨y, t⟩
          · rfl
          · simp at h
        subst ht
        simp at hc
        simp [hc]
theorem one_row (al : List (List Int)) (n i : Nat) (h : i < n) : rd_L2 (rowsTo al n 10 n 0) (i : Int) = symsTo al i 10 := by
  simp [rd_L2, rowsTo, List.getD_eq_getElem?_getD, h]
set_option maxHeartbeats 8000000 in
set_option maxRecDepth 100000 in
theorem CodesOne_calls (W S : Int) (A1 : Option Addr) (c1 : Nat) (l : List S36) (A2 : Option Addr) (c2 : Nat) (cd : List Int) (w : World) (g1 : Kd.C k36 w A1 l.length l) (e1 : l.length ≤ c1) (g2 : Kd.C (Kd.int .i64) w A2 cd.length cd) (e2 : cd.length ≤ c2) :
    Calls Try.prog 17 #[.agg #[.int .i64 W, .int .i64 S], .slice A1 l.length c1, .slice A2 cd.length c2] w fun e w' => e = .returned (.bool true) ∧ Below w.heap.size w w' := by
  have hu23 := Try.underlying23
  have hu36 := Try.underlying36
  obtain ⟨k34, hk34⟩ := (RCheckClues_ev W S l (Kd.C_max g1)).rounds
  obtain ⟨k29, hk29⟩ := (RCheckCode_ev W S cd (Kd.C_max g2)).rounds
  have K0 := Aside0.mk (blk_new w (.cells #[.int .i64 W, .int .i64 S] 23))
  have HB := Aside0.mk ((Below.refl w.heap.size w).alloc (Nat.le_refl _) (.cells #[.int .i64 W, .int .i64 S] 23))
  have G1 := Aside0.mk g1
  have G2 := Aside0.mk g2
  clear g1 g2
  have H34 := Aside0.mk (padlockref01_CheckClues.calls k34 W S A1 c1 l _ _ (Kd.C_below G1.out HB.out) e1 hk34)
  have H29 := Aside0.mk fun w1 (h1 : Below w.heap.size w w1) => padlockref01_CheckCode.calls k29 W S A2 c2 cd _ w1 (Kd.C_below G2.out h1) e2 hk29
  clear hk34 hk29
  by_cases hch : checkCluesS W S l = 0
  case neg =>
    have hne : (checkCluesS W S l != 0) = true := bne_iff_ne.mpr hch
    obtain ⟨er, her⟩ : ∃ er, er = checkCluesS W S l := ⟨_, rfl⟩
    rw [← her] at H34 hne
    clear hch her
    go_enter Try.func17, Try.ntmps17
    go_wp2_with (first
      | (go_at_call 34; refine H34.out.mono ?_; rintro e wa ⟨rfl, hb⟩; have HBa := Aside0.mk (below_then HB.out HB.out.size hb); clear hb)
      | (go_at_call 20; refine (padlocklaw01_works.calls true _ rfl).mono ?_; rintro e wz ⟨rfl, hb4⟩))
    go_ret
    exact ⟨rfl, below_then HBa.out HBa.out.size hb4⟩
  obtain ⟨hl, hm, hv⟩ := checkClues_ok hch
  obtain ⟨n, s, rfl, rfl, hw1, hw4, hs2, hs10⟩ := lock_nat hl
  rw [hch] at H34
  have hs0 : 0 < s := by omega
  obtain ⟨al, hal⟩ : ∃ al, al = readingsL s n l := ⟨_, rfl⟩
  have hmem : ∀ c, isCodeB (n : Int) (s : Int) c = true → (fitsAll l c = true ↔ c ∈ al) := fun c h1 => by
    rw [hal]; exact ⟨fun h2 => List.mem_filter.2 ⟨mem_allCodes (by omega) h1, h2⟩, fun h2 => (List.mem_filter.1 h2).2⟩
  have hsort : al.Pairwise (fun a b => lexLt a b = true) := hal ▸ readings_sorted (n := n) hs0 l
  have hbig : al.length ≤ 10000 := hal ▸ Nat.le_trans (List.length_filter_le _ _) (codes_many hw4 hs10)
  have hall : ∀ c ∈ al, isCodeB (n : Int) (s : Int) c = true := fun c hc => allCodes_isCode hs0 (List.mem_filter.1 (hal ▸ hc)).1
  have hfit : ∀ c, isCodeB (n : Int) (s : Int) c = true → fitsS (n : Int) (s : Int) l c = (idxI (fun q => !holdsC q c) l, fitsAll l c, 0) := fun c h => fitsS_code hch h
  have hfit0 : ∀ c, ¬ isCodeB (n : Int) (s : Int) c = true → fitsS (n : Int) (s : Int) l c = (0, false, 12) := fun c h => fitsS_no hch h
  have hfit1 : ∀ c ∈ al, fitsS (n : Int) (s : Int) l c = (-1, true, 0) := fun c hc => by
    have h1 := hall c hc
    have h2 := (hmem c h1).2 hc
    rw [hfit c h1, h2, idxI_miss]
    intro q hq
    unfold fitsAll at h2
    rw [Bool.not_eq_true', List.any_eq_false] at h2
    simpa using h2 q hq
  have himp : ∀ i, i < n → ∀ y, y ∈ symsTo al i 10 → ∃ r, impliesS (n : Int) (s : Int) l ⟨1, (i : Int), 0, y, 0, [], true⟩ = (r, false, 0) := fun i hi y hy => by
    obtain ⟨c, hc, e, h0, h1⟩ := one_shown hw4 hs10 hs0 hall hi hy
    exact one_implies hch hi (hal ▸ hc) e h0 h1
  have hcnt : countS n s l = ((al.length : Int), 0) := by unfold countS; rw [if_pos hch]; simp only [Int.toNat_natCast]; rw [hal]
  have hread : readS n s l 1 = (al.take 1, 0) := by
    unfold readS
    rw [if_pos hch, if_pos (by decide)]
    simp only [Int.toNat_natCast]
    rw [hal]; rfl
  have hshow : showsS n s l 10 = (rowsTo al n 10 n 0, 0) := by
    unfold showsS; rw [if_pos hch]; simp only [Int.toNat_natCast]; rw [hal]
  have hlen1 : ∀ i, i < n → decide (0 < (symsTo al i 10).length) = decide (0 < al.length) := fun i hi => one_len hw4 hs10 hs0 hall hi
  have hone : ∀ c ∈ al, ∀ i, i < n → rd c (i : Int) ∈ symsTo al i 10 := fun c hc i hi => one_mem hw4 hs10 hs0 hall hc hi
  have H35 := Aside0.mk fun w1 (h1 : Below w.heap.size w w1) => codes_Count.calls n s A1 c1 l _ _ w1 (Kd.C_below G1.out h1) e1 ((Count_eq n s l).trans (congrArg some hcnt))
  have H47 := Aside0.mk fun w1 (h1 : Below w.heap.size w w1) => codes_Shows.calls n s A1 c1 l _ _ w1 (Kd.C_below G1.out h1) e1 hshow
  have H36 := Aside0.mk fun w1 (h1 : Below w.heap.size w w1) => codes_Readings.calls n s A1 c1 l 1 _ _ w1 (Kd.C_below G1.out h1) e1 hread
  have H22a := Aside0.mk fun c (hc : c ∈ al) A cc w1 (h1 : Below w.heap.size w w1) hC hle => codes_Fits.calls n s A1 c1 l A cc c (-1) true 0 w1 (Kd.C_below G1.out h1) e1 hC hle (by rw [Fits_eq, hfit1 c hc])
  have H32 : Aside0 (∀ i, i < n → ∀ y, y ∈ symsTo al i 10 → ∃ rc, ∀ w1 (h1 : Below w.heap.size w w1), Calls Try.prog 32 #[.agg #[.int .i64 (n : Int), .int .i64 (s : Int)], .slice A1 l.length c1, .agg #[.int .i64 1, .int .i64 (i : Int), .int .i64 0, .int .i64 y, .int .i64 0, .slice none 0 0, .bool true]] w1 fun e w' => ∃ v : Value, e = .returned (.tuple #[v, .bool false, .int .i64 0]) ∧ Kd.R (Kd.int .i64) 3 w' w1.heap.size (fun _ => True) v rc ∧ Below w1.heap.size w1 w') := ⟨fun i hi y hy => by
    obtain ⟨rc, hrc⟩ := himp i hi y hy
    exact ⟨rc, fun w1 h1 => codes_Implies.calls n s A1 c1 l 1 i 0 y 0 none 0 [] true rc false 0 w1 (Kd.C_below G1.out h1) e1 (Kd.C_nil _ _) (Nat.le_refl _) (by unfold codes_Implies.f; rw [hrc])⟩⟩
  obtain ⟨T1, hT1⟩ : ∃ T1, T1 = al.take 1 := ⟨_, rfl⟩
  rw [← hT1] at H36
  have HT1 := Aside0.mk hT1
  clear hT1
  have HROW := Aside0.mk fun i (h : i < n) => one_row al n i h
  have HRL := Aside0.mk (rowsTo_len al n 10 n 0)
  obtain ⟨R, hR⟩ : ∃ R, R = rowsTo al n 10 n 0 := ⟨_, rfl⟩
  have HY := Aside0.mk fun i => symsTo_sorted al i 10
  obtain ⟨Y, hY⟩ : ∃ Y : Nat → List Int, Y = fun i => symsTo al i 10 := ⟨_, rfl⟩
  have HYL : Aside0 (∀ i, (Y i).length ≤ 10) := ⟨fun i => by rw [hY]; exact symsTo_len al i 10⟩
  rw [← hR] at HROW HRL H47
  replace HROW : Aside0 (∀ i, i < n → rd_L2 R (i : Int) = Y i) := ⟨by rw [hY]; exact HROW.out⟩
  replace HY : Aside0 (∀ i, (Y i).Pairwise (· < ·)) := ⟨by rw [hY]; exact HY.out⟩
  replace H32 : Aside0 (∀ i, i < n → ∀ y, y ∈ Y i → _) := ⟨by rw [hY]; exact H32.out⟩
  replace hlen1 : Aside0 (∀ i, i < n → decide (0 < (Y i).length) = decide (0 < al.length)) := ⟨by rw [hY]; exact hlen1⟩
  replace hone : Aside0 (∀ c ∈ al, ∀ i, i < n → rd c (i : Int) ∈ Y i) := ⟨by rw [hY]; exact hone⟩
  have HSORT := Aside0.mk hsort
  have HALL := Aside0.mk hall
  have HMEM := Aside0.mk hmem
  have HFIT := Aside0.mk hfit
  have HFIT0 := Aside0.mk hfit0
  have HL := Aside0.mk hl
  have HBIG := Aside0.mk hbig
  have hpairS : pairS n s l = if al.length < 2 then ([], [], 3) else (al.getD 0 [], al.getD (al.length - 1) [], 0) := by
    unfold pairS; rw [if_pos hch]; simp only [Int.toNat_natCast]; rw [hal]
  clear hR hY hch hm hv hl hal hmem hsort hall hcnt hread hfit hfit0 hfit1 hshow himp
  obtain ⟨N1, hN1⟩ : ∃ N1, N1 = al.length := ⟨_, rfl⟩
  have HN1 := Aside0.mk hN1
  rw [← hN1] at H35 hpairS hbig
  by_cases h2 : N1 < 2
  · rw [if_pos h2] at hpairS
    have H53 := Aside0.mk fun w1 (h1 : Below w.heap.size w w1) => codes_Pair.calls n s A1 c1 l [] [] 3 w1 (Kd.C_below G1.out h1) e1 hpairS
    have d8 : decide ((1 : Int) < (N1 : Int)) = false := decide_eq_false (by omega)
    have d8n : decide (1 < N1) = false := decide_eq_false (by omega)
    clear hpairS hN1
    go_enter Try.func17, Try.ntmps17
    go_wp2_with (first
      | (go_at_call 34; refine H34.out.mono ?_; rintro e wa ⟨rfl, hb⟩; have HBa := Aside0.mk (below_then HB.out HB.out.size hb); have Ka := Aside0.mk (blk_below K0.out hb); obtain ⟨a0, a1⟩ := cells2 Ka.out; clear hb)
      | (go_at_call 35; refine (H35.out _ HBa.out).mono ?_; rintro e wb ⟨rfl, hb⟩; have HBb := Aside0.mk (below_then HBa.out HBa.out.size hb); have Kb := Aside0.mk (blk_below Ka.out hb); clear a0 a1; obtain ⟨a0, a1⟩ := cells2 Kb.out; clear hb)
      | (go_at_call 47; refine (H47.out _ HBb.out).mono ?_; rintro e wc ⟨v, rfl, ho, hb⟩; obtain ⟨As, cs, rfl⟩ := Kd.S_slice ho; obtain ⟨hls, hcs⟩ := (Kd.S_reads' ho).2; rw [HRL.out] at hls hcs ⊢; have HCS := Aside0.mk hcs; have HBc := Aside0.mk (below_then HBb.out HBb.out.size hb); have Kc := Aside0.mk (blk_below Kb.out hb); clear a0 a1; obtain ⟨a0, a1⟩ := cells2 Kc.out; clear hb ho hls hcs)
      | (go_at_call 53; refine (H53.out _ HBc.out).mono ?_; rintro e wd ⟨Aa, ca, Ab, cb, rfl, hla, hca, hlb, hcb, hb⟩; have HBd := Aside0.mk (below_then HBc.out HBc.out.size hb); have HCS2 := Aside0.mk (Kd.C_below HCS.out hb); have Kd_ := Aside0.mk (blk_below Kc.out hb); clear a0 a1; obtain ⟨a0, a1⟩ := cells2 Kd_.out; clear hb hla hca hlb hcb))
    have HBz := HBd
    have HCz := HCS2
    have Kz := Kd_
    clear HBa HBb HBc HBd HCS HCS2 Ka Kb Kc Kd_ a0 a1
    generalize wd = wz at HBz HCz Kz ⊢
    go_loopw [20] (fun v20 wr => ∃ i : Nat, Aside0 (i ≤ n) ∧ v20 = .int .i64 i ∧ Aside0 (Below wz.heap.size wz wr)) (fun v20 _ => n - (intOf v20).toNat)
    case atStart => exact ⟨0, ⟨Nat.zero_le _⟩, rfl, ⟨Below.refl _ _⟩⟩
    case round =>
      obtain ⟨i, hi, rfl, HBR⟩ := hrel
      obtain ⟨a0, a1⟩ := cells2 (blk_below Kz.out HBR.out)
      obtain ⟨wo, hwo⟩ : ∃ wo, wo = wr := ⟨_, rfl⟩
      subst hwo
      by_cases hlt : i < n
      · obtain ⟨ad, Ay, cy, e0, hcy, hly, hiy⟩ := at_L2 HCz.out (i : Int) (by omega) (by omega)
        subst e0
        rw [HROW.out i hlt] at hcy hly hiy
        rw [Int.toNat_natCast] at hcy
        have hcr := (HBR.out.cell (World.block_lt_of_cell? wz _ hcy)).trans hcy
        have HCY := Aside0.mk hcy
        have HIY := Aside0.mk hiy
        have hq := hlen1.out i hlt
        rw [← HN1.out] at hq
        have hyl10 := HYL.out i
        obtain ⟨yl, hyl⟩ : ∃ yl, yl = (Y i).length := ⟨_, rfl⟩
        have HYE := Aside0.mk hyl
        rw [← hyl] at hcr hly hq hyl10
        obtain ⟨bq, hbq⟩ : ∃ bq, bq = decide (0 < N1) := ⟨_, rfl⟩
        rw [← hbq] at hq
        replace hbq := hbq.symm
        clear hyl hcy hiy
        go_wp2
        clear hbq hq a0 a1 hcr
        go_loopw [21] (fun v21 wr => ∃ k : Nat, Aside0 (k ≤ yl) ∧ v21 = .int .i64 k ∧ Aside0 (Below wz.heap.size wz wr)) (fun v21 _ => yl - (intOf v21).toNat)
        case atStart => exact ⟨0, ⟨Nat.zero_le _⟩, rfl, HBR⟩
        case round =>
          clear HBR
          obtain ⟨k, hk, rfl, HBR⟩ := hrel
          obtain ⟨a0, a1⟩ := cells2 (blk_below Kz.out HBR.out)
          have hcr : wr.cell? (ad.add i) = some (.slice Ay yl cy) := by rw [HYE.out]; exact (HBR.out.cell (World.block_lt_of_cell? wz _ HCY.out)).trans HCY.out
          by_cases hlt2 : k < yl
          · have hkY : k < (Y i).length := by rw [← HYE.out]; exact hlt2
            obtain ⟨ady, e1, hce⟩ := Kd.at_int HIY.out (k : Int) (by omega) (by omega)
            subst e1
            rw [Int.toNat_natCast, rd_get _ k hkY] at hce
            replace hce := (HBR.out.cell (World.block_lt_of_cell? wz _ hce)).trans hce
            obtain ⟨rc, hrc⟩ := H32.out i hlt _ (List.getElem_mem hkY)
            obtain ⟨yy, hyy⟩ : ∃ yy, yy = (Y i)[k] := ⟨_, rfl⟩
            rw [← hyy] at hce hrc
            have HYY := Aside0.mk hyy
            have HBW := Aside0.mk (below_then HBz.out HBz.out.size HBR.out)
            have CI := Aside0.mk (hrc wr.drew (below_drew1 HBW.out))
            clear hyy hrc
            go_wp2
            refine start_ (n := 19) (S := fun w' => w'.cell? ⟨w.heap.size, 0, none⟩ = some (.int .i64 (n : Int)) ∧ w'.cell? ⟨w.heap.size, 1, none⟩ = some (.int .i64 (s : Int)) ∧ w'.cell? (ad.add i) = some (.slice (some ady) yl cy) ∧ w'.cell? (ady.add k) = some (.int .i64 yy)) (ds := []) #[false, false, false, false, false, false, false, false, false, false, false, false, false, false, false, false, false, false, false] (by kernel_rfl) rfl rfl ⟨a0, a1, hcr, hce⟩ (fun hHeld => ?_)
            refine take_ (i := 0) (N := some 150) (v := ?_) (a' := ?_) #[true, false, false, false, false, false, false, false, false, false, false, false, false, false, false, false, false, false, false] rfl rfl (by kernel_rfl) (fun _ _ _ h => h) (Or.inl ⟨by rfl, ?_⟩) hHeld ?_ ?_
            rotate_left
            · rintro w' ⟨s0, s1, s2, s3⟩
              go_simp
              with_reducible rfl
            rotate_left
            · simp only [Act.put, List.setIfInBounds_toArray, List.set_cons_zero, List.set_cons_succ, i64_w, i32_w]
              rfl
            refine pure_ (i := 1) (N := some 151) (v := ?_) (a' := ?_) #[true, true, false, false, false, false, false, false, false, false, false, false, false, false, false, false, false, false, false] rfl rfl (by kernel_rfl) (fun _ _ _ h => h) (Or.inl ⟨by rfl, ?_⟩) ?_ ?_
            rotate_left
            · intro w'
              go_simp
              with_reducible rfl
            rotate_left
            · simp only [Act.put, List.setIfInBounds_toArray, List.set_cons_zero, List.set_cons_succ, i64_w, i32_w]
              rfl
            refine pure_ (i := 2) (N := some 152) (v := ?_) (a' := ?_) #[true, true, true, false, false, false, false, false, false, false, false, false, false, false, false, false, false, false, false] rfl rfl (by kernel_rfl) (fun _ _ _ h => h) (Or.inl ⟨by rfl, ?_⟩) ?_ ?_
            rotate_left
            · intro w'
              go_simp
              with_reducible rfl
            rotate_left
            · simp only [Act.put, List.setIfInBounds_toArray, List.set_cons_zero, List.set_cons_succ, i64_w, i32_w]
              rfl
            refine pure_ (i := 3) (N := some 153) (v := ?_) (a' := ?_) #[true, true, true, true, false, false, false, false, false, false, false, false, false, false, false, false, false, false, false] rfl rfl (by kernel_rfl) (fun _ _ _ h => h) (Or.inl ⟨by rfl, ?_⟩) ?_ ?_
            rotate_left
            · intro w'
              go_simp
              with_reducible rfl
            rotate_left
            · simp only [Act.put, List.setIfInBounds_toArray, List.set_cons_zero, List.set_cons_succ, i64_w, i32_w]
              rfl
            refine pure_ (i := 4) (N := some 154) (v := ?_) (a' := ?_) #[true, true, true, true, true, false, false, false, false, false, false, false, false, false, false, false, false, false, false] rfl rfl (by kernel_rfl) (fun _ _ _ h => h) (Or.inl ⟨by rfl, ?_⟩) ?_ ?_
            rotate_left
            · intro w'
              go_simp
              with_reducible rfl
            rotate_left
            · simp only [Act.put, List.setIfInBounds_toArray, List.set_cons_zero, List.set_cons_succ, i64_w, i32_w]
              rfl
            refine pure_ (i := 5) (N := some 155) (v := ?_) (a' := ?_) #[true, true, true, true, true, true, false, false, false, false, false, false, false, false, false, false, false, false, false] rfl rfl (by kernel_rfl) (fun _ _ _ h => h) (Or.inl ⟨by rfl, ?_⟩) ?_ ?_
            rotate_left
            · intro w'
              go_simp
              with_reducible rfl
            rotate_left
            · simp only [Act.put, List.setIfInBounds_toArray, List.set_cons_zero, List.set_cons_succ, i64_w, i32_w]
              rfl
            refine take_ (i := 6) (N := some 156) (v := ?_) (a' := ?_) #[true, true, true, true, true, true, true, false, false, false, false, false, false, false, false, false, false, false, false] rfl rfl (by kernel_rfl) (fun _ _ _ h => h) (Or.inl ⟨by rfl, ?_⟩) hHeld ?_ ?_
            rotate_left
            · rintro w' ⟨s0, s1, s2, s3⟩
              go_simp
              with_reducible rfl
            rotate_left
            · simp only [Act.put, List.setIfInBounds_toArray, List.set_cons_zero, List.set_cons_succ, i64_w, i32_w]
              rfl
            refine pure_ (i := 7) (N := some 157) (v := ?_) (a' := ?_) #[true, true, true, true, true, true, true, true, false, false, false, false, false, false, false, false, false, false, false] rfl rfl (by kernel_rfl) (fun _ _ _ h => h) (Or.inl ⟨by rfl, ?_⟩) ?_ ?_
            rotate_left
            · intro w'
              go_simp
              with_reducible rfl
            rotate_left
            · simp only [Act.put, List.setIfInBounds_toArray, List.set_cons_zero, List.set_cons_succ, i64_w, i32_w]
              rfl
            refine pure_ (i := 8) (N := some 158) (v := ?_) (a' := ?_) #[true, true, true, true, true, true, true, true, true, false, false, false, false, false, false, false, false, false, false] rfl rfl (by kernel_rfl) (fun _ _ _ h => h) (Or.inl ⟨by rfl, ?_⟩) ?_ ?_
            rotate_left
            · intro w'
              go_simp
              with_reducible rfl
            rotate_left
            · simp only [Act.put, List.setIfInBounds_toArray, List.set_cons_zero, List.set_cons_succ, i64_w, i32_w]
              rfl
            refine take_ (i := 9) (N := some 159) (v := ?_) (a' := ?_) #[true, true, true, true, true, true, true, true, true, true, false, false, false, false, false, false, false, false, false] rfl rfl (by kernel_rfl) (fun _ _ _ h => h) (Or.inl ⟨by rfl, ?_⟩) hHeld ?_ ?_
            rotate_left
            · rintro w' ⟨s0, s1, s2, s3⟩
              go_simp
              with_reducible rfl
            rotate_left
            · simp only [Act.put, List.setIfInBounds_toArray, List.set_cons_zero, List.set_cons_succ, i64_w, i32_w]
              rfl
            refine pure_ (i := 10) (N := some 160) (v := ?_) (a' := ?_) #[true, true, true, true, true, true, true, true, true, true, true, false, false, false, false, false, false, false, false] rfl rfl (by kernel_rfl) (fun _ _ _ h => h) (Or.inl ⟨by rfl, ?_⟩) ?_ ?_
            rotate_left
            · intro w'
              go_simp
              with_reducible rfl
            rotate_left
            · simp only [Act.put, List.setIfInBounds_toArray, List.set_cons_zero, List.set_cons_succ, i64_w, i32_w]
              rfl
            refine one_ (i := 11) (N := some 161) #[true, true, true, true, true, true, true, true, true, true, true, true, false, false, false, false, false, false, false] rfl rfl (by kernel_rfl) (by decide) (fun K hK => ?_)
            refine goes_ Try.func32 (by kernel_rfl) rfl #[.agg #[.int .i64 (n : Int), .int .i64 (s : Int)], .slice A1 l.length c1, .agg #[.int .i64 1, .int .i64 (i : Int), .int .i64 0, .int .i64 yy, .int .i64 0, .slice none 0 0, .bool true]] (by rfl) rfl rfl (by (try simp only [List.map_toArray, List.map_cons, List.map_nil]); first | done | rfl) ?_
            refine CI.out.mono ?_
            rintro e wi ⟨v, rfl, ho, hb⟩
            obtain ⟨Ai, ci, rfl, hli_, hci_⟩ := Kd.R_reads ho
            refine ⟨_, rfl, ?_⟩
            have HBi := Aside0.mk (below_then (below_drew1 HBR.out) (by have := HBR.out.size; simp; omega) hb)
            refine hK.out _ _ ⟨(hb.cell (World.block_lt_of_cell? _ _ hHeld.1)).trans hHeld.1, (hb.cell (World.block_lt_of_cell? _ _ hHeld.2.1)).trans hHeld.2.1, (hb.cell (World.block_lt_of_cell? _ _ hHeld.2.2.1)).trans hHeld.2.2.1, (hb.cell (World.block_lt_of_cell? _ _ hHeld.2.2.2)).trans hHeld.2.2.2⟩ (fun hHeld => ?_)
            clear hK K ho hli_ hci_ hb
            refine norm_ (a' := ?_) ?_ ?_
            rotate_left
            · show Act.put _ (some 161) _ = _
              simp only [Act.put, List.setIfInBounds_toArray, List.set_cons_zero, List.set_cons_succ, i64_w, i32_w]
              rfl
            refine pure_ (i := 12) (N := some 149) (v := ?_) (a' := ?_) #[true, true, true, true, true, true, true, true, true, true, true, true, true, false, false, false, false, false, false] rfl rfl (by kernel_rfl) (fun _ _ _ h => h) (Or.inl ⟨by rfl, ?_⟩) ?_ ?_
            rotate_left
            · intro w'
              go_simp
              with_reducible rfl
            rotate_left
            · simp only [Act.put, List.setIfInBounds_toArray, List.set_cons_zero, List.set_cons_succ, i64_w, i32_w]
              rfl
            refine pure_ (i := 13) (N := some 162) (v := ?_) (a' := ?_) #[true, true, true, true, true, true, true, true, true, true, true, true, true, true, false, false, false, false, false] rfl rfl (by kernel_rfl) (fun _ _ _ h => h) (Or.inl ⟨by rfl, ?_⟩) ?_ ?_
            rotate_left
            · intro w'
              go_simp
              with_reducible rfl
            rotate_left
            · simp only [Act.put, List.setIfInBounds_toArray, List.set_cons_zero, List.set_cons_succ, i64_w, i32_w]
              rfl
            refine pure_ (i := 14) (N := some 163) (v := ?_) (a' := ?_) #[true, true, true, true, true, true, true, true, true, true, true, true, true, true, true, false, false, false, false] rfl rfl (by kernel_rfl) (fun _ _ _ h => h) (Or.inl ⟨by rfl, ?_⟩) ?_ ?_
            rotate_left
            · intro w'
              go_simp
              with_reducible rfl
            rotate_left
            · simp only [Act.put, List.setIfInBounds_toArray, List.set_cons_zero, List.set_cons_succ, i64_w, i32_w]
              rfl
            refine pure_ (i := 15) (N := some 164) (v := ?_) (a' := ?_) #[true, true, true, true, true, true, true, true, true, true, true, true, true, true, true, true, false, false, false] rfl rfl (by kernel_rfl) (fun _ _ _ h => h) (Or.inl ⟨by rfl, ?_⟩) ?_ ?_
            rotate_left
            · intro w'
              go_simp
              with_reducible rfl
            rotate_left
            · simp only [Act.put, List.setIfInBounds_toArray, List.set_cons_zero, List.set_cons_succ, i64_w, i32_w]
              rfl
            refine pure_ (i := 16) (N := some 22) (v := ?_) (a' := ?_) #[true, true, true, true, true, true, true, true, true, true, true, true, true, true, true, true, true, false, false] rfl rfl (by kernel_rfl) (fun _ _ _ h => h) (Or.inl ⟨by rfl, ?_⟩) ?_ ?_
            rotate_left
            · intro w'
              go_simp
              with_reducible rfl
            rotate_left
            · simp only [Act.put, List.setIfInBounds_toArray, List.set_cons_zero, List.set_cons_succ, i64_w, i32_w]
              rfl
            refine pure_ (i := 17) (N := some 23) (v := ?_) (a' := ?_) #[true, true, true, true, true, true, true, true, true, true, true, true, true, true, true, true, true, true, false] rfl rfl (by kernel_rfl) (fun _ _ _ h => h) (Or.inl ⟨by rfl, ?_⟩) ?_ ?_
            rotate_left
            · intro w'
              go_simp
              with_reducible rfl
            rotate_left
            · simp only [Act.put, List.setIfInBounds_toArray, List.set_cons_zero, List.set_cons_succ, i64_w, i32_w]
              rfl
            refine pure_ (i := 18) (N := some 24) (v := ?_) (a' := ?_) #[true, true, true, true, true, true, true, true, true, true, true, true, true, true, true, true, true, true, true] rfl rfl (by kernel_rfl) (fun _ _ _ h => h) (Or.inl ⟨by rfl, ?_⟩) ?_ ?_
            rotate_left
            · intro w'
              go_simp
              with_reducible rfl
            rotate_left
            · simp only [Act.put, List.setIfInBounds_toArray, List.set_cons_zero, List.set_cons_succ, i64_w, i32_w]
              rfl
            refine done_ (by kernel_rfl) ?_
            have hcs := hHeld.2.2.1
            have hcf := hHeld.2.2.2
            clear hHeld a0 a1 hcr hce
            go_wp2
            rcases Nat.eq_zero_or_pos k with hk0 | hk0
            · subst hk0
              refine start_ (n := 27) (S := fun _ => True) (ds := []) #[false, false, false, false, false, false, false, false, false, false, false, false, false, false, false, false, false, false, false, false, false, false, false, false, false, false, false] (by kernel_rfl) rfl rfl trivial (fun hHeld => ?_)
              refine pure_ (i := 0) (N := some 165) (v := ?_) (a' := ?_) #[true, false, false, false, false, false, false, false, false, false, false, false, false, false, false, false, false, false, false, false, false, false, false, false, false, false, false] rfl rfl (by kernel_rfl) (fun _ _ _ h => h) (Or.inl ⟨by rfl, ?_⟩) ?_ ?_
              rotate_left
              · intro w'
                go_simp
                with_reducible rfl
              rotate_left
              · simp only [Act.put, List.setIfInBounds_toArray, List.set_cons_zero, List.set_cons_succ, i64_w, i32_w]
                rfl
              refine pure_ (i := 1) (N := some 166) (v := ?_) (a' := ?_) #[true, true, false, false, false, false, false, false, false, false, false, false, false, false, false, false, false, false, false, false, false, false, false, false, false, false, false] rfl rfl (by kernel_rfl) (fun _ _ _ h => h) (Or.inl ⟨by rfl, ?_⟩) ?_ ?_
              rotate_left
              · intro w'
                go_simp
                with_reducible rfl
              rotate_left
              · simp only [Act.put, List.setIfInBounds_toArray, List.set_cons_zero, List.set_cons_succ, i64_w, i32_w]
                rfl
              refine pure_ (i := 2) (N := some 167) (v := ?_) (a' := ?_) #[true, true, true, false, false, false, false, false, false, false, false, false, false, false, false, false, false, false, false, false, false, false, false, false, false, false, false] rfl rfl (by kernel_rfl) (fun _ _ _ h => h) (Or.inl ⟨by rfl, ?_⟩) ?_ ?_
              rotate_left
              · intro w'
                go_simp
                with_reducible rfl
              rotate_left
              · simp only [Act.put, List.setIfInBounds_toArray, List.set_cons_zero, List.set_cons_succ, i64_w, i32_w]
                rfl
              refine pure_ (i := 3) (N := some 168) (v := ?_) (a' := ?_) #[true, true, true, true, false, false, false, false, false, false, false, false, false, false, false, false, false, false, false, false, false, false, false, false, false, false, false] rfl rfl (by kernel_rfl) (fun _ _ _ h => h) (Or.inl ⟨by rfl, ?_⟩) ?_ ?_
              rotate_left
              · intro w'
                go_simp
                with_reducible rfl
              rotate_left
              · simp only [Act.put, List.setIfInBounds_toArray, List.set_cons_zero, List.set_cons_succ, i64_w, i32_w]
                rfl
              refine pure_ (i := 4) (N := some 169) (v := ?_) (a' := ?_) #[true, true, true, true, true, false, false, false, false, false, false, false, false, false, false, false, false, false, false, false, false, false, false, false, false, false, false] rfl rfl (by kernel_rfl) (fun _ _ _ h => h) (Or.inl ⟨by rfl, ?_⟩) ?_ ?_
              rotate_left
              · intro w'
                go_simp
                with_reducible rfl
              rotate_left
              · simp only [Act.put, List.setIfInBounds_toArray, List.set_cons_zero, List.set_cons_succ, i64_w, i32_w]
                rfl
              refine pure_ (i := 5) (N := some 170) (v := ?_) (a' := ?_) #[true, true, true, true, true, true, false, false, false, false, false, false, false, false, false, false, false, false, false, false, false, false, false, false, false, false, false] rfl rfl (by kernel_rfl) (fun _ _ _ h => h) (Or.inl ⟨by rfl, ?_⟩) ?_ ?_
              rotate_left
              · intro w'
                go_simp
                with_reducible rfl
              rotate_left
              · simp only [Act.put, List.setIfInBounds_toArray, List.set_cons_zero, List.set_cons_succ, i64_w, i32_w]
                rfl
              refine pure_ (i := 6) (N := some 171) (v := ?_) (a' := ?_) #[true, true, true, true, true, true, true, false, false, false, false, false, false, false, false, false, false, false, false, false, false, false, false, false, false, false, false] rfl rfl (by kernel_rfl) (fun _ _ _ h => h) (Or.inl ⟨by rfl, ?_⟩) ?_ ?_
              rotate_left
              · intro w'
                go_simp
                with_reducible rfl
              rotate_left
              · simp only [Act.put, List.setIfInBounds_toArray, List.set_cons_zero, List.set_cons_succ, i64_w, i32_w]
                rfl
              refine pure_ (i := 7) (N := some 172) (v := ?_) (a' := ?_) #[true, true, true, true, true, true, true, true, false, false, false, false, false, false, false, false, false, false, false, false, false, false, false, false, false, false, false] rfl rfl (by kernel_rfl) (fun _ _ _ h => h) (Or.inl ⟨by rfl, ?_⟩) ?_ ?_
              rotate_left
              · intro w'
                go_simp
                with_reducible rfl
              rotate_left
              · simp only [Act.put, List.setIfInBounds_toArray, List.set_cons_zero, List.set_cons_succ, i64_w, i32_w]
                rfl
              refine pure_ (i := 8) (N := some 173) (v := ?_) (a' := ?_) #[true, true, true, true, true, true, true, true, true, false, false, false, false, false, false, false, false, false, false, false, false, false, false, false, false, false, false] rfl rfl (by kernel_rfl) (fun _ _ _ h => h) (Or.inl ⟨by rfl, ?_⟩) ?_ ?_
              rotate_left
              · intro w'
                go_simp
                with_reducible rfl
              rotate_left
              · simp only [Act.put, List.setIfInBounds_toArray, List.set_cons_zero, List.set_cons_succ, i64_w, i32_w]
                rfl
              refine pure_ (i := 9) (N := some 174) (v := undef) (a' := ?_) #[true, true, true, true, true, true, true, true, true, true, false, false, false, false, false, false, false, false, false, false, false, false, false, false, false, false, false] rfl rfl (by kernel_rfl) (fun _ _ _ h => h) (Or.inr ⟨by rfl, rfl⟩) ?_ ?_
              rotate_left
              · simp only [Act.put, List.setIfInBounds_toArray, List.set_cons_zero, List.set_cons_succ, i64_w, i32_w]
                rfl
              refine pure_ (i := 10) (N := some 175) (v := undef) (a' := ?_) #[true, true, true, true, true, true, true, true, true, true, true, false, false, false, false, false, false, false, false, false, false, false, false, false, false, false, false] rfl rfl (by kernel_rfl) (fun _ _ _ h => h) (Or.inr ⟨by rfl, rfl⟩) ?_ ?_
              rotate_left
              · simp only [Act.put, List.setIfInBounds_toArray, List.set_cons_zero, List.set_cons_succ, i64_w, i32_w]
                rfl
              refine pure_ (i := 11) (N := some 176) (v := undef) (a' := ?_) #[true, true, true, true, true, true, true, true, true, true, true, true, false, false, false, false, false, false, false, false, false, false, false, false, false, false, false] rfl rfl (by kernel_rfl) (fun _ _ _ h => h) (Or.inr ⟨by rfl, rfl⟩) ?_ ?_
              rotate_left
              · simp only [Act.put, List.setIfInBounds_toArray, List.set_cons_zero, List.set_cons_succ, i64_w, i32_w]
                rfl
              refine pure_ (i := 12) (N := some 177) (v := undef) (a' := ?_) #[true, true, true, true, true, true, true, true, true, true, true, true, true, false, false, false, false, false, false, false, false, false, false, false, false, false, false] rfl rfl (by kernel_rfl) (fun _ _ _ h => h) (Or.inr ⟨by rfl, rfl⟩) ?_ ?_
              rotate_left
              · simp only [Act.put, List.setIfInBounds_toArray, List.set_cons_zero, List.set_cons_succ, i64_w, i32_w]
                rfl
              refine pure_ (i := 13) (N := some 178) (v := undef) (a' := ?_) #[true, true, true, true, true, true, true, true, true, true, true, true, true, true, false, false, false, false, false, false, false, false, false, false, false, false, false] rfl rfl (by kernel_rfl) (fun _ _ _ h => h) (Or.inr ⟨by rfl, rfl⟩) ?_ ?_
              rotate_left
              · simp only [Act.put, List.setIfInBounds_toArray, List.set_cons_zero, List.set_cons_succ, i64_w, i32_w]
                rfl
              refine pure_ (i := 14) (N := some 179) (v := undef) (a' := ?_) #[true, true, true, true, true, true, true, true, true, true, true, true, true, true, true, false, false, false, false, false, false, false, false, false, false, false, false] rfl rfl (by kernel_rfl) (fun _ _ _ h => h) (Or.inr ⟨by rfl, rfl⟩) ?_ ?_
              rotate_left
              · simp only [Act.put, List.setIfInBounds_toArray, List.set_cons_zero, List.set_cons_succ, i64_w, i32_w]
                rfl
              refine pure_ (i := 15) (N := some 180) (v := undef) (a' := ?_) #[true, true, true, true, true, true, true, true, true, true, true, true, true, true, true, true, false, false, false, false, false, false, false, false, false, false, false] rfl rfl (by kernel_rfl) (fun _ _ _ h => h) (Or.inr ⟨by rfl, rfl⟩) ?_ ?_
              rotate_left
              · simp only [Act.put, List.setIfInBounds_toArray, List.set_cons_zero, List.set_cons_succ, i64_w, i32_w]
                rfl
              refine pure_ (i := 16) (N := some 181) (v := undef) (a' := ?_) #[true, true, true, true, true, true, true, true, true, true, true, true, true, true, true, true, true, false, false, false, false, false, false, false, false, false, false] rfl rfl (by kernel_rfl) (fun _ _ _ h => h) (Or.inr ⟨by rfl, rfl⟩) ?_ ?_
              rotate_left
              · simp only [Act.put, List.setIfInBounds_toArray, List.set_cons_zero, List.set_cons_succ, i64_w, i32_w]
                rfl
              refine pure_ (i := 17) (N := some 182) (v := undef) (a' := ?_) #[true, true, true, true, true, true, true, true, true, true, true, true, true, true, true, true, true, true, false, false, false, false, false, false, false, false, false] rfl rfl (by kernel_rfl) (fun _ _ _ h => h) (Or.inr ⟨by rfl, rfl⟩) ?_ ?_
              rotate_left
              · simp only [Act.put, List.setIfInBounds_toArray, List.set_cons_zero, List.set_cons_succ, i64_w, i32_w]
                rfl
              refine pure_ (i := 18) (N := some 183) (v := undef) (a' := ?_) #[true, true, true, true, true, true, true, true, true, true, true, true, true, true, true, true, true, true, true, false, false, false, false, false, false, false, false] rfl rfl (by kernel_rfl) (fun _ _ _ h => h) (Or.inr ⟨by rfl, rfl⟩) ?_ ?_
              rotate_left
              · simp only [Act.put, List.setIfInBounds_toArray, List.set_cons_zero, List.set_cons_succ, i64_w, i32_w]
                rfl
              refine pure_ (i := 19) (N := some 184) (v := undef) (a' := ?_) #[true, true, true, true, true, true, true, true, true, true, true, true, true, true, true, true, true, true, true, true, false, false, false, false, false, false, false] rfl rfl (by kernel_rfl) (fun _ _ _ h => h) (Or.inr ⟨by rfl, rfl⟩) ?_ ?_
              rotate_left
              · simp only [Act.put, List.setIfInBounds_toArray, List.set_cons_zero, List.set_cons_succ, i64_w, i32_w]
                rfl
              refine pure_ (i := 20) (N := some 185) (v := undef) (a' := ?_) #[true, true, true, true, true, true, true, true, true, true, true, true, true, true, true, true, true, true, true, true, true, false, false, false, false, false, false] rfl rfl (by kernel_rfl) (fun _ _ _ h => h) (Or.inr ⟨by rfl, rfl⟩) ?_ ?_
              rotate_left
              · simp only [Act.put, List.setIfInBounds_toArray, List.set_cons_zero, List.set_cons_succ, i64_w, i32_w]
                rfl
              refine pure_ (i := 21) (N := some 186) (v := undef) (a' := ?_) #[true, true, true, true, true, true, true, true, true, true, true, true, true, true, true, true, true, true, true, true, true, true, false, false, false, false, false] rfl rfl (by kernel_rfl) (fun _ _ _ h => h) (Or.inr ⟨by rfl, rfl⟩) ?_ ?_
              rotate_left
              · simp only [Act.put, List.setIfInBounds_toArray, List.set_cons_zero, List.set_cons_succ, i64_w, i32_w]
                rfl
              refine pure_ (i := 22) (N := some 187) (v := undef) (a' := ?_) #[true, true, true, true, true, true, true, true, true, true, true, true, true, true, true, true, true, true, true, true, true, true, true, false, false, false, false] rfl rfl (by kernel_rfl) (fun _ _ _ h => h) (Or.inr ⟨by rfl, rfl⟩) ?_ ?_
              rotate_left
              · simp only [Act.put, List.setIfInBounds_toArray, List.set_cons_zero, List.set_cons_succ, i64_w, i32_w]
                rfl
              refine pure_ (i := 23) (N := some 188) (v := undef) (a' := ?_) #[true, true, true, true, true, true, true, true, true, true, true, true, true, true, true, true, true, true, true, true, true, true, true, true, false, false, false] rfl rfl (by kernel_rfl) (fun _ _ _ h => h) (Or.inr ⟨by rfl, rfl⟩) ?_ ?_
              rotate_left
              · simp only [Act.put, List.setIfInBounds_toArray, List.set_cons_zero, List.set_cons_succ, i64_w, i32_w]
                rfl
              refine pure_ (i := 24) (N := some 189) (v := undef) (a' := ?_) #[true, true, true, true, true, true, true, true, true, true, true, true, true, true, true, true, true, true, true, true, true, true, true, true, true, false, false] rfl rfl (by kernel_rfl) (fun _ _ _ h => h) (Or.inr ⟨by rfl, rfl⟩) ?_ ?_
              rotate_left
              · simp only [Act.put, List.setIfInBounds_toArray, List.set_cons_zero, List.set_cons_succ, i64_w, i32_w]
                rfl
              refine pure_ (i := 25) (N := some 190) (v := ?_) (a' := ?_) #[true, true, true, true, true, true, true, true, true, true, true, true, true, true, true, true, true, true, true, true, true, true, true, true, true, true, false] rfl rfl (by kernel_rfl) (fun _ _ _ h => h) (Or.inl ⟨by rfl, ?_⟩) ?_ ?_
              rotate_left
              · intro w'
                go_simp
                with_reducible rfl
              rotate_left
              · simp only [Act.put, List.setIfInBounds_toArray, List.set_cons_zero, List.set_cons_succ, i64_w, i32_w]
                rfl
              refine pure_ (i := 26) (N := some 191) (v := ?_) (a' := ?_) #[true, true, true, true, true, true, true, true, true, true, true, true, true, true, true, true, true, true, true, true, true, true, true, true, true, true, true] rfl rfl (by kernel_rfl) (fun _ _ _ h => h) (Or.inl ⟨by rfl, ?_⟩) ?_ ?_
              rotate_left
              · intro w'
                go_simp
                with_reducible rfl
              rotate_left
              · simp only [Act.put, List.setIfInBounds_toArray, List.set_cons_zero, List.set_cons_succ, i64_w, i32_w]
                rfl
              refine done_ (by kernel_rfl) ?_
              go_wp2
              refine ⟨⟨0 + 1, ⟨by omega⟩, by go_num, ⟨below_drew1 HBi.out⟩⟩, ?_⟩
              simp [intOf]; omega
            · obtain ⟨j, hj⟩ : ∃ j, j = k - 1 := ⟨_, rfl⟩
              have hjY : j < (Y i).length := by omega
              have hjl : j < yl := by omega
              obtain ⟨adz, e2, hcz⟩ := Kd.at_int HIY.out (j : Int) (by omega) (by omega)
              obtain rfl : ady = adz := by injection e2
              rw [Int.toNat_natCast, rd_get _ j hjY] at hcz
              replace hcz := (HBi.out.cell (World.block_lt_of_cell? wz _ hcz)).trans hcz
              have hlt3 : (Y i)[j] < yy := by
                have := List.pairwise_iff_getElem.1 (HY.out i) j k hjY hkY (by omega)
                rw [HYY.out]; exact this
              obtain ⟨yz, hyz⟩ : ∃ yz, yz = (Y i)[j] := ⟨_, rfl⟩
              rw [← hyz] at hcz hlt3
              have hle : decide (yy ≤ yz) = false := decide_eq_false (by omega)
              have hsub := ex_sub k j hj hk0 (by omega)
              clear hj hyz hjY hlt3
              refine start_ (n := 27) (S := fun w' => w'.cell? (ad.add i) = some (.slice (some ady) yl cy) ∧ w'.cell? (ady.add k) = some (.int .i64 yy) ∧ w'.cell? (ady.add j) = some (.int .i64 yz)) (ds := []) #[false, false, false, false, false, false, false, false, false, false, false, false, false, false, false, false, false, false, false, false, false, false, false, false, false, false, false] (by kernel_rfl) rfl rfl ⟨hcs, hcf, hcz⟩ (fun hHeld => ?_)
              refine pure_ (i := 0) (N := some 165) (v := ?_) (a' := ?_) #[true, false, false, false, false, false, false, false, false, false, false, false, false, false, false, false, false, false, false, false, false, false, false, false, false, false, false] rfl rfl (by kernel_rfl) (fun _ _ _ h => h) (Or.inl ⟨by rfl, ?_⟩) ?_ ?_
              rotate_left
              · intro w'
                go_simp
                with_reducible rfl
              rotate_left
              · simp only [Act.put, List.setIfInBounds_toArray, List.set_cons_zero, List.set_cons_succ, i64_w, i32_w]
                rfl
              refine pure_ (i := 1) (N := some 166) (v := ?_) (a' := ?_) #[true, true, false, false, false, false, false, false, false, false, false, false, false, false, false, false, false, false, false, false, false, false, false, false, false, false, false] rfl rfl (by kernel_rfl) (fun _ _ _ h => h) (Or.inl ⟨by rfl, ?_⟩) ?_ ?_
              rotate_left
              · intro w'
                go_simp
                with_reducible rfl
              rotate_left
              · simp only [Act.put, List.setIfInBounds_toArray, List.set_cons_zero, List.set_cons_succ, i64_w, i32_w]
                rfl
              refine pure_ (i := 2) (N := some 167) (v := ?_) (a' := ?_) #[true, true, true, false, false, false, false, false, false, false, false, false, false, false, false, false, false, false, false, false, false, false, false, false, false, false, false] rfl rfl (by kernel_rfl) (fun _ _ _ h => h) (Or.inl ⟨by rfl, ?_⟩) ?_ ?_
              rotate_left
              · intro w'
                go_simp
                with_reducible rfl
              rotate_left
              · simp only [Act.put, List.setIfInBounds_toArray, List.set_cons_zero, List.set_cons_succ, i64_w, i32_w]
                rfl
              refine pure_ (i := 3) (N := some 168) (v := ?_) (a' := ?_) #[true, true, true, true, false, false, false, false, false, false, false, false, false, false, false, false, false, false, false, false, false, false, false, false, false, false, false] rfl rfl (by kernel_rfl) (fun _ _ _ h => h) (Or.inl ⟨by rfl, ?_⟩) ?_ ?_
              rotate_left
              · intro w'
                go_simp
                with_reducible rfl
              rotate_left
              · simp only [Act.put, List.setIfInBounds_toArray, List.set_cons_zero, List.set_cons_succ, i64_w, i32_w]
                rfl
              refine pure_ (i := 4) (N := some 169) (v := ?_) (a' := ?_) #[true, true, true, true, true, false, false, false, false, false, false, false, false, false, false, false, false, false, false, false, false, false, false, false, false, false, false] rfl rfl (by kernel_rfl) (fun _ _ _ h => h) (Or.inl ⟨by rfl, ?_⟩) ?_ ?_
              rotate_left
              · intro w'
                go_simp
                with_reducible rfl
              rotate_left
              · simp only [Act.put, List.setIfInBounds_toArray, List.set_cons_zero, List.set_cons_succ, i64_w, i32_w]
                rfl
              refine pure_ (i := 5) (N := some 170) (v := ?_) (a' := ?_) #[true, true, true, true, true, true, false, false, false, false, false, false, false, false, false, false, false, false, false, false, false, false, false, false, false, false, false] rfl rfl (by kernel_rfl) (fun _ _ _ h => h) (Or.inl ⟨by rfl, ?_⟩) ?_ ?_
              rotate_left
              · intro w'
                go_simp
                with_reducible rfl
              rotate_left
              · simp only [Act.put, List.setIfInBounds_toArray, List.set_cons_zero, List.set_cons_succ, i64_w, i32_w]
                rfl
              refine pure_ (i := 6) (N := some 171) (v := ?_) (a' := ?_) #[true, true, true, true, true, true, true, false, false, false, false, false, false, false, false, false, false, false, false, false, false, false, false, false, false, false, false] rfl rfl (by kernel_rfl) (fun _ _ _ h => h) (Or.inl ⟨by rfl, ?_⟩) ?_ ?_
              rotate_left
              · intro w'
                go_simp
                with_reducible rfl
              rotate_left
              · simp only [Act.put, List.setIfInBounds_toArray, List.set_cons_zero, List.set_cons_succ, i64_w, i32_w]
                rfl
              refine pure_ (i := 7) (N := some 172) (v := ?_) (a' := ?_) #[true, true, true, true, true, true, true, true, false, false, false, false, false, false, false, false, false, false, false, false, false, false, false, false, false, false, false] rfl rfl (by kernel_rfl) (fun _ _ _ h => h) (Or.inl ⟨by rfl, ?_⟩) ?_ ?_
              rotate_left
              · intro w'
                go_simp
                with_reducible rfl
              rotate_left
              · simp only [Act.put, List.setIfInBounds_toArray, List.set_cons_zero, List.set_cons_succ, i64_w, i32_w]
                rfl
              refine pure_ (i := 8) (N := some 173) (v := ?_) (a' := ?_) #[true, true, true, true, true, true, true, true, true, false, false, false, false, false, false, false, false, false, false, false, false, false, false, false, false, false, false] rfl rfl (by kernel_rfl) (fun _ _ _ h => h) (Or.inl ⟨by rfl, ?_⟩) ?_ ?_
              rotate_left
              · intro w'
                go_simp
                with_reducible rfl
              rotate_left
              · simp only [Act.put, List.setIfInBounds_toArray, List.set_cons_zero, List.set_cons_succ, i64_w, i32_w]
                rfl
              refine pure_ (i := 9) (N := some 174) (v := ?_) (a' := ?_) #[true, true, true, true, true, true, true, true, true, true, false, false, false, false, false, false, false, false, false, false, false, false, false, false, false, false, false] rfl rfl (by kernel_rfl) (fun _ _ _ h => h) (Or.inl ⟨by rfl, ?_⟩) ?_ ?_
              rotate_left
              · intro w'
                go_simp
                with_reducible rfl
              rotate_left
              · simp only [Act.put, List.setIfInBounds_toArray, List.set_cons_zero, List.set_cons_succ, i64_w, i32_w]
                rfl
              refine pure_ (i := 10) (N := some 175) (v := ?_) (a' := ?_) #[true, true, true, true, true, true, true, true, true, true, true, false, false, false, false, false, false, false, false, false, false, false, false, false, false, false, false] rfl rfl (by kernel_rfl) (fun _ _ _ h => h) (Or.inl ⟨by rfl, ?_⟩) ?_ ?_
              rotate_left
              · intro w'
                go_simp
                with_reducible rfl
              rotate_left
              · simp only [Act.put, List.setIfInBounds_toArray, List.set_cons_zero, List.set_cons_succ, i64_w, i32_w]
                rfl
              refine pure_ (i := 11) (N := some 176) (v := ?_) (a' := ?_) #[true, true, true, true, true, true, true, true, true, true, true, true, false, false, false, false, false, false, false, false, false, false, false, false, false, false, false] rfl rfl (by kernel_rfl) (fun _ _ _ h => h) (Or.inl ⟨by rfl, ?_⟩) ?_ ?_
              rotate_left
              · intro w'
                go_simp
                with_reducible rfl
              rotate_left
              · simp only [Act.put, List.setIfInBounds_toArray, List.set_cons_zero, List.set_cons_succ, i64_w, i32_w]
                rfl
              refine take_ (i := 12) (N := some 177) (v := ?_) (a' := ?_) #[true, true, true, true, true, true, true, true, true, true, true, true, true, false, false, false, false, false, false, false, false, false, false, false, false, false, false] rfl rfl (by kernel_rfl) (fun _ _ _ h => h) (Or.inl ⟨by rfl, ?_⟩) hHeld ?_ ?_
              rotate_left
              · rintro w' ⟨s0, s1, s2⟩
                go_simp
                with_reducible rfl
              rotate_left
              · simp only [Act.put, List.setIfInBounds_toArray, List.set_cons_zero, List.set_cons_succ, i64_w, i32_w]
                rfl
              refine pure_ (i := 13) (N := some 178) (v := ?_) (a' := ?_) #[true, true, true, true, true, true, true, true, true, true, true, true, true, true, false, false, false, false, false, false, false, false, false, false, false, false, false] rfl rfl (by kernel_rfl) (fun _ _ _ h => h) (Or.inl ⟨by rfl, ?_⟩) ?_ ?_
              rotate_left
              · intro w'
                go_simp
                with_reducible rfl
              rotate_left
              · simp only [Act.put, List.setIfInBounds_toArray, List.set_cons_zero, List.set_cons_succ, i64_w, i32_w]
                rfl
              refine pure_ (i := 14) (N := some 179) (v := ?_) (a' := ?_) #[true, true, true, true, true, true, true, true, true, true, true, true, true, true, true, false, false, false, false, false, false, false, false, false, false, false, false] rfl rfl (by kernel_rfl) (fun _ _ _ h => h) (Or.inl ⟨by rfl, ?_⟩) ?_ ?_
              rotate_left
              · intro w'
                go_simp
                with_reducible rfl
              rotate_left
              · simp only [Act.put, List.setIfInBounds_toArray, List.set_cons_zero, List.set_cons_succ, i64_w, i32_w]
                rfl
              refine take_ (i := 15) (N := some 180) (v := ?_) (a' := ?_) #[true, true, true, true, true, true, true, true, true, true, true, true, true, true, true, true, false, false, false, false, false, false, false, false, false, false, false] rfl rfl (by kernel_rfl) (fun _ _ _ h => h) (Or.inl ⟨by rfl, ?_⟩) hHeld ?_ ?_
              rotate_left
              · rintro w' ⟨s0, s1, s2⟩
                go_simp
                with_reducible rfl
              rotate_left
              · simp only [Act.put, List.setIfInBounds_toArray, List.set_cons_zero, List.set_cons_succ, i64_w, i32_w]
                rfl
              refine pure_ (i := 16) (N := some 181) (v := ?_) (a' := ?_) #[true, true, true, true, true, true, true, true, true, true, true, true, true, true, true, true, true, false, false, false, false, false, false, false, false, false, false] rfl rfl (by kernel_rfl) (fun _ _ _ h => h) (Or.inl ⟨by rfl, ?_⟩) ?_ ?_
              rotate_left
              · intro w'
                go_simp
                with_reducible rfl
              rotate_left
              · simp only [Act.put, List.setIfInBounds_toArray, List.set_cons_zero, List.set_cons_succ, i64_w, i32_w]
                rfl
              refine pure_ (i := 17) (N := some 182) (v := ?_) (a' := ?_) #[true, true, true, true, true, true, true, true, true, true, true, true, true, true, true, true, true, true, false, false, false, false, false, false, false, false, false] rfl rfl (by kernel_rfl) (fun _ _ _ h => h) (Or.inl ⟨by rfl, ?_⟩) ?_ ?_
              rotate_left
              · intro w'
                go_simp
                with_reducible rfl
              rotate_left
              · simp only [Act.put, List.setIfInBounds_toArray, List.set_cons_zero, List.set_cons_succ, i64_w, i32_w]
                rfl
              refine pure_ (i := 18) (N := some 183) (v := ?_) (a' := ?_) #[true, true, true, true, true, true, true, true, true, true, true, true, true, true, true, true, true, true, true, false, false, false, false, false, false, false, false] rfl rfl (by kernel_rfl) (fun _ _ _ h => h) (Or.inl ⟨by rfl, ?_⟩) ?_ ?_
              rotate_left
              · intro w'
                go_simp
                with_reducible rfl
              rotate_left
              · simp only [Act.put, List.setIfInBounds_toArray, List.set_cons_zero, List.set_cons_succ, i64_w, i32_w]
                rfl
              refine take_ (i := 19) (N := some 184) (v := ?_) (a' := ?_) #[true, true, true, true, true, true, true, true, true, true, true, true, true, true, true, true, true, true, true, true, false, false, false, false, false, false, false] rfl rfl (by kernel_rfl) (fun _ _ _ h => h) (Or.inl ⟨by rfl, ?_⟩) hHeld ?_ ?_
              rotate_left
              · rintro w' ⟨s0, s1, s2⟩
                go_simp
                with_reducible rfl
              rotate_left
              · simp only [Act.put, List.setIfInBounds_toArray, List.set_cons_zero, List.set_cons_succ, i64_w, i32_w]
                rfl
              refine pure_ (i := 20) (N := some 185) (v := ?_) (a' := ?_) #[true, true, true, true, true, true, true, true, true, true, true, true, true, true, true, true, true, true, true, true, true, false, false, false, false, false, false] rfl rfl (by kernel_rfl) (fun _ _ _ h => h) (Or.inl ⟨by rfl, ?_⟩) ?_ ?_
              rotate_left
              · intro w'
                go_simp
                with_reducible rfl
              rotate_left
              · simp only [Act.put, List.setIfInBounds_toArray, List.set_cons_zero, List.set_cons_succ, i64_w, i32_w]
                rfl
              refine pure_ (i := 21) (N := some 186) (v := ?_) (a' := ?_) #[true, true, true, true, true, true, true, true, true, true, true, true, true, true, true, true, true, true, true, true, true, true, false, false, false, false, false] rfl rfl (by kernel_rfl) (fun _ _ _ h => h) (Or.inl ⟨by rfl, ?_⟩) ?_ ?_
              rotate_left
              · intro w'
                go_simp
                with_reducible rfl
              rotate_left
              · simp only [Act.put, List.setIfInBounds_toArray, List.set_cons_zero, List.set_cons_succ, i64_w, i32_w]
                rfl
              refine pure_ (i := 22) (N := some 187) (v := ?_) (a' := ?_) #[true, true, true, true, true, true, true, true, true, true, true, true, true, true, true, true, true, true, true, true, true, true, true, false, false, false, false] rfl rfl (by kernel_rfl) (fun _ _ _ h => h) (Or.inl ⟨by rfl, ?_⟩) ?_ ?_
              rotate_left
              · intro w'
                go_simp
                with_reducible rfl
              rotate_left
              · simp only [Act.put, List.setIfInBounds_toArray, List.set_cons_zero, List.set_cons_succ, i64_w, i32_w]
                rfl
              refine take_ (i := 23) (N := some 188) (v := ?_) (a' := ?_) #[true, true, true, true, true, true, true, true, true, true, true, true, true, true, true, true, true, true, true, true, true, true, true, true, false, false, false] rfl rfl (by kernel_rfl) (fun _ _ _ h => h) (Or.inl ⟨by rfl, ?_⟩) hHeld ?_ ?_
              rotate_left
              · rintro w' ⟨s0, s1, s2⟩
                go_simp
                with_reducible rfl
              rotate_left
              · simp only [Act.put, List.setIfInBounds_toArray, List.set_cons_zero, List.set_cons_succ, i64_w, i32_w]
                rfl
              refine pure_ (i := 24) (N := some 189) (v := ?_) (a' := ?_) #[true, true, true, true, true, true, true, true, true, true, true, true, true, true, true, true, true, true, true, true, true, true, true, true, true, false, false] rfl rfl (by kernel_rfl) (fun _ _ _ h => h) (Or.inl ⟨by rfl, ?_⟩) ?_ ?_
              rotate_left
              · intro w'
                go_simp
                with_reducible rfl
              rotate_left
              · simp only [Act.put, List.setIfInBounds_toArray, List.set_cons_zero, List.set_cons_succ, i64_w, i32_w]
                rfl
              refine pure_ (i := 25) (N := some 190) (v := ?_) (a' := ?_) #[true, true, true, true, true, true, true, true, true, true, true, true, true, true, true, true, true, true, true, true, true, true, true, true, true, true, false] rfl rfl (by kernel_rfl) (fun _ _ _ h => h) (Or.inl ⟨by rfl, ?_⟩) ?_ ?_
              rotate_left
              · intro w'
                go_simp
                with_reducible rfl
              rotate_left
              · simp only [Act.put, List.setIfInBounds_toArray, List.set_cons_zero, List.set_cons_succ, i64_w, i32_w]
                rfl
              refine pure_ (i := 26) (N := some 191) (v := ?_) (a' := ?_) #[true, true, true, true, true, true, true, true, true, true, true, true, true, true, true, true, true, true, true, true, true, true, true, true, true, true, true] rfl rfl (by kernel_rfl) (fun _ _ _ h => h) (Or.inl ⟨by rfl, ?_⟩) ?_ ?_
              rotate_left
              · intro w'
                go_simp
                with_reducible rfl
              rotate_left
              · simp only [Act.put, List.setIfInBounds_toArray, List.set_cons_zero, List.set_cons_succ, i64_w, i32_w]
                rfl
              refine done_ (by kernel_rfl) ?_
              go_wp2
              refine ⟨⟨k + 1, ⟨by omega⟩, by go_num, ⟨below_drew1 HBi.out⟩⟩, ?_⟩
              simp [intOf]; omega
          · have hke : k = yl := by have := hk.out; omega
            subst hke
            go_wp2
            refine ⟨⟨i + 1, ⟨by omega⟩, by go_num, HBR⟩, ?_⟩
            simp [intOf]; omega
      · have hie : n = i := by have := hi.out; omega
        subst hie
        have HBW := Aside0.mk (below_then HBz.out HBz.out.size HBR.out)
        have HCw := Aside0.mk (Kd.C_below HCz.out HBR.out)
        have Kw := Aside0.mk (blk_below Kz.out HBR.out)
        by_cases hcd : isCodeB (n : Int) (s : Int) cd = true
        case neg =>
          have H22c := Aside0.mk fun w1 (h1 : Below w.heap.size w w1) => codes_Fits.calls n s A1 c1 l A2 c2 cd 0 false 12 w1 (Kd.C_below G1.out h1) e1 (Kd.C_below G2.out h1) e2 (by rw [Fits_eq, HFIT0.out cd hcd])
          clear hcd
          go_wp2_with (first
            | (go_at_call 22; refine (H22c.out _ HBW.out).mono ?_; rintro e wh ⟨rfl, hb⟩; have HBh := Aside0.mk (below_then HBW.out HBW.out.size hb); clear hb)
            | (go_at_call 20; refine (padlocklaw01_works.calls true _ rfl).mono ?_; rintro e wz ⟨rfl, hb4⟩))
          go_ret
          exact ⟨rfl, below_then HBh.out HBh.out.size hb4⟩
        case pos =>
          have hfc := HFIT.out cd hcd
          obtain ⟨ix, hix⟩ : ∃ ix, ix = idxI (fun q => !holdsC q cd) l := ⟨_, rfl⟩
          rw [← hix] at hfc
          by_cases hfa : fitsAll l cd = true
          case neg =>
            rw [Bool.eq_false_iff.mpr hfa] at hfc
            have H22c := Aside0.mk fun w1 (h1 : Below w.heap.size w w1) => codes_Fits.calls n s A1 c1 l A2 c2 cd ix false 0 w1 (Kd.C_below G1.out h1) e1 (Kd.C_below G2.out h1) e2 (by rw [Fits_eq, hfc])
            clear hcd hfc hix hfa
            go_wp2_with (first
              | (go_at_call 22; refine (H22c.out _ HBW.out).mono ?_; rintro e wh ⟨rfl, hb⟩; have HBh := Aside0.mk (below_then HBW.out HBW.out.size hb); clear hb)
              | (go_at_call 20; refine (padlocklaw01_works.calls true _ rfl).mono ?_; rintro e wz ⟨rfl, hb4⟩))
            go_ret
            exact ⟨rfl, below_then HBh.out HBh.out.size hb4⟩
          case pos =>
            rw [hfa] at hfc
            have HCM := Aside0.mk ((HMEM.out cd hcd).1 hfa)
            have HCL := Aside0.mk (isCodeB_iff.1 hcd).1
            have H22c := Aside0.mk fun w1 (h1 : Below w.heap.size w w1) => codes_Fits.calls n s A1 c1 l A2 c2 cd ix true 0 w1 (Kd.C_below G1.out h1) e1 (Kd.C_below G2.out h1) e2 (by rw [Fits_eq, hfc])
            have H29' := H29.out
            simp only [if_pos HL.out, if_pos hcd] at H29'
            have H29c := Aside0.mk H29'
            clear hcd hfc hix hfa H29'
            go_wp2_with (first
              | (go_at_call 22; refine (H22c.out _ HBW.out).mono ?_; rintro e wh ⟨rfl, hb⟩; have HBh := Aside0.mk (below_then HBW.out HBW.out.size hb); have HCh := Aside0.mk (Kd.C_below HCw.out hb); have Kh := Aside0.mk (blk_below Kw.out hb); clear hb a0 a1; obtain ⟨a0, a1⟩ := cells2 Kh.out)
              | (go_at_call 29; refine (H29c.out _ HBh.out).mono ?_; rintro e wk ⟨rfl, hb⟩; have HBk := Aside0.mk (below_then HBh.out HBh.out.size hb); have HCk := Aside0.mk (Kd.C_below HCh.out hb); have Kk := Aside0.mk (blk_below Kh.out hb); clear hb a0 a1))
            clear HBh HCh Kh HBW HCw Kw HBR hi hlt
            go_loopw [27] (fun v27 wr => ∃ i : Nat, Aside0 (i ≤ n) ∧ v27 = .int .i64 i ∧ Aside0 (Below wk.heap.size wk wr)) (fun v27 _ => n - (intOf v27).toNat)
            case atStart => exact ⟨0, ⟨Nat.zero_le _⟩, rfl, ⟨Below.refl _ _⟩⟩
            case round =>
              obtain ⟨i, hi, rfl, HBR⟩ := hrel
              obtain ⟨a0, a1⟩ := cells2 (blk_below Kk.out HBR.out)
              obtain ⟨wo2, hwo2⟩ : ∃ wo2, wo2 = wr := ⟨_, rfl⟩
              subst hwo2
              by_cases hlt : i < n
              · obtain ⟨ad, Ay, cy, e0, hcy, hly, hiy⟩ := at_L2 HCk.out (i : Int) (by omega) (by omega)
                subst e0
                rw [HROW.out i hlt] at hcy hly hiy
                rw [Int.toNat_natCast] at hcy
                obtain ⟨adc, ec, hcc⟩ := Kd.at_int G2.out (i : Int) (by omega) (by have := HCL.out; omega)
                subst ec
                rw [Int.toNat_natCast] at hcc
                have HXM := Aside0.mk (hone.out cd HCM.out i hlt)
                obtain ⟨x, hx⟩ : ∃ x, x = rd cd (i : Int) := ⟨_, rfl⟩
                rw [← hx] at hcc HXM
                have HCC := Aside0.mk hcc
                have hcr := (HBR.out.cell (World.block_lt_of_cell? wk _ hcy)).trans hcy
                have HCY := Aside0.mk hcy
                have HIY := Aside0.mk hiy
                have hyl10 := HYL.out i
                obtain ⟨yl, hyl⟩ : ∃ yl, yl = (Y i).length := ⟨_, rfl⟩
                have HYE := Aside0.mk hyl
                rw [← hyl] at hcr hly hyl10
                clear hyl hcy hiy hcc hx
                go_wp2
                clear a0 a1 hcr
                go_loopw [28, 29] (fun v28 v29 wr => ∃ (k : Nat) (b : Bool), Aside0 (k ≤ yl) ∧ v29 = .int .i64 k ∧ v28 = .bool b ∧ Aside0 (b = decide (x ∈ (Y i).take k)) ∧ Aside0 (Below wk.heap.size wk wr)) (fun _ v29 _ => yl - (intOf v29).toNat)
                case atStart => exact ⟨0, false, ⟨Nat.zero_le _⟩, rfl, rfl, ⟨by simp⟩, HBR⟩
                case round =>
                  clear HBR
                  obtain ⟨k, b, hk, rfl, rfl, HBI, HBR⟩ := hrel
                  have hcr : wr.cell? (ad.add i) = some (.slice Ay yl cy) := by rw [HYE.out]; exact (HBR.out.cell (World.block_lt_of_cell? wk _ HCY.out)).trans HCY.out
                  by_cases hlt2 : k < yl
                  · have hkY : k < (Y i).length := by rw [← HYE.out]; exact hlt2
                    obtain ⟨ady, e1, hce⟩ := Kd.at_int HIY.out (k : Int) (by omega) (by omega)
                    subst e1
                    rw [Int.toNat_natCast, rd_get _ k hkY] at hce
                    replace hce := (HBR.out.cell (World.block_lt_of_cell? wk _ hce)).trans hce
                    have hnext := one_next (Y i) x k hkY
                    rw [← HBI.out] at hnext
                    obtain ⟨yy, hyy⟩ : ∃ yy, yy = (Y i)[k] := ⟨_, rfl⟩
                    rw [← hyy] at hce hnext
                    have HN := Aside0.mk hnext
                    have hcx : wr.cell? (adc.add i) = some (.int .i64 x) := ((below_then HBk.out HBk.out.size HBR.out).cell (World.block_lt_of_cell? w _ HCC.out)).trans HCC.out
                    have hcdl := HCL.out
                    have hil : i < cd.length := by omega
                    clear hyy hnext hcdl
                    go_wp2
                    cases b
                    · skip
                      refine start_ (n := 16) (S := fun w' => w'.cell? (ad.add i) = some (.slice (some ady) yl cy) ∧ w'.cell? (ady.add k) = some (.int .i64 yy) ∧ w'.cell? (adc.add i) = some (.int .i64 x)) (ds := []) #[false, false, false, false, false, false, false, false, false, false, false, false, false, false, false, false] (by kernel_rfl) rfl rfl ⟨hcr, hce, hcx⟩ (fun hHeld => ?_)
                      refine pure_ (i := 0) (N := some 228) (v := ?_) (a' := ?_) #[true, false, false, false, false, false, false, false, false, false, false, false, false, false, false, false] rfl rfl (by kernel_rfl) (fun _ _ _ h => h) (Or.inl ⟨by rfl, ?_⟩) ?_ ?_
                      rotate_left
                      · intro w'
                        go_simp
                        with_reducible rfl
                      rotate_left
                      · simp only [Act.put, List.setIfInBounds_toArray, List.set_cons_zero, List.set_cons_succ, i64_w, i32_w]
                        rfl
                      refine pure_ (i := 1) (N := some 229) (v := ?_) (a' := ?_) #[true, true, false, false, false, false, false, false, false, false, false, false, false, false, false, false] rfl rfl (by kernel_rfl) (fun _ _ _ h => h) (Or.inl ⟨by rfl, ?_⟩) ?_ ?_
                      rotate_left
                      · intro w'
                        go_simp
                        with_reducible rfl
                      rotate_left
                      · simp only [Act.put, List.setIfInBounds_toArray, List.set_cons_zero, List.set_cons_succ, i64_w, i32_w]
                        rfl
                      refine pure_ (i := 2) (N := some 230) (v := ?_) (a' := ?_) #[true, true, true, false, false, false, false, false, false, false, false, false, false, false, false, false] rfl rfl (by kernel_rfl) (fun _ _ _ h => h) (Or.inl ⟨by rfl, ?_⟩) ?_ ?_
                      rotate_left
                      · intro w'
                        go_simp
                        with_reducible rfl
                      rotate_left
                      · simp only [Act.put, List.setIfInBounds_toArray, List.set_cons_zero, List.set_cons_succ, i64_w, i32_w]
                        rfl
                      refine pure_ (i := 3) (N := some 231) (v := ?_) (a' := ?_) #[true, true, true, true, false, false, false, false, false, false, false, false, false, false, false, false] rfl rfl (by kernel_rfl) (fun _ _ _ h => h) (Or.inl ⟨by rfl, ?_⟩) ?_ ?_
                      rotate_left
                      · intro w'
                        go_simp
                        with_reducible rfl
                      rotate_left
                      · simp only [Act.put, List.setIfInBounds_toArray, List.set_cons_zero, List.set_cons_succ, i64_w, i32_w]
                        rfl
                      refine pure_ (i := 4) (N := some 232) (v := ?_) (a' := ?_) #[true, true, true, true, true, false, false, false, false, false, false, false, false, false, false, false] rfl rfl (by kernel_rfl) (fun _ _ _ h => h) (Or.inl ⟨by rfl, ?_⟩) ?_ ?_
                      rotate_left
                      · intro w'
                        go_simp
                        with_reducible rfl
                      rotate_left
                      · simp only [Act.put, List.setIfInBounds_toArray, List.set_cons_zero, List.set_cons_succ, i64_w, i32_w]
                        rfl
                      refine take_ (i := 5) (N := some 233) (v := ?_) (a' := ?_) #[true, true, true, true, true, true, false, false, false, false, false, false, false, false, false, false] rfl rfl (by kernel_rfl) (fun _ _ _ h => h) (Or.inl ⟨by rfl, ?_⟩) hHeld ?_ ?_
                      rotate_left
                      · rintro w' ⟨s0, s1, s2⟩
                        go_simp
                        with_reducible rfl
                      rotate_left
                      · simp only [Act.put, List.setIfInBounds_toArray, List.set_cons_zero, List.set_cons_succ, i64_w, i32_w]
                        rfl
                      refine pure_ (i := 6) (N := some 234) (v := ?_) (a' := ?_) #[true, true, true, true, true, true, true, false, false, false, false, false, false, false, false, false] rfl rfl (by kernel_rfl) (fun _ _ _ h => h) (Or.inl ⟨by rfl, ?_⟩) ?_ ?_
                      rotate_left
                      · intro w'
                        go_simp
                        with_reducible rfl
                      rotate_left
                      · simp only [Act.put, List.setIfInBounds_toArray, List.set_cons_zero, List.set_cons_succ, i64_w, i32_w]
                        rfl
                      refine pure_ (i := 7) (N := some 235) (v := ?_) (a' := ?_) #[true, true, true, true, true, true, true, true, false, false, false, false, false, false, false, false] rfl rfl (by kernel_rfl) (fun _ _ _ h => h) (Or.inl ⟨by rfl, ?_⟩) ?_ ?_
                      rotate_left
                      · intro w'
                        go_simp
                        with_reducible rfl
                      rotate_left
                      · simp only [Act.put, List.setIfInBounds_toArray, List.set_cons_zero, List.set_cons_succ, i64_w, i32_w]
                        rfl
                      refine take_ (i := 8) (N := some 236) (v := ?_) (a' := ?_) #[true, true, true, true, true, true, true, true, true, false, false, false, false, false, false, false] rfl rfl (by kernel_rfl) (fun _ _ _ h => h) (Or.inl ⟨by rfl, ?_⟩) hHeld ?_ ?_
                      rotate_left
                      · rintro w' ⟨s0, s1, s2⟩
                        go_simp
                        with_reducible rfl
                      rotate_left
                      · simp only [Act.put, List.setIfInBounds_toArray, List.set_cons_zero, List.set_cons_succ, i64_w, i32_w]
                        rfl
                      refine pure_ (i := 9) (N := some 237) (v := ?_) (a' := ?_) #[true, true, true, true, true, true, true, true, true, true, false, false, false, false, false, false] rfl rfl (by kernel_rfl) (fun _ _ _ h => h) (Or.inl ⟨by rfl, ?_⟩) ?_ ?_
                      rotate_left
                      · intro w'
                        go_simp
                        with_reducible rfl
                      rotate_left
                      · simp only [Act.put, List.setIfInBounds_toArray, List.set_cons_zero, List.set_cons_succ, i64_w, i32_w]
                        rfl
                      refine pure_ (i := 10) (N := some 238) (v := ?_) (a' := ?_) #[true, true, true, true, true, true, true, true, true, true, true, false, false, false, false, false] rfl rfl (by kernel_rfl) (fun _ _ _ h => h) (Or.inl ⟨by rfl, ?_⟩) ?_ ?_
                      rotate_left
                      · intro w'
                        go_simp
                        with_reducible rfl
                      rotate_left
                      · simp only [Act.put, List.setIfInBounds_toArray, List.set_cons_zero, List.set_cons_succ, i64_w, i32_w]
                        rfl
                      refine pure_ (i := 11) (N := some 239) (v := ?_) (a' := ?_) #[true, true, true, true, true, true, true, true, true, true, true, true, false, false, false, false] rfl rfl (by kernel_rfl) (fun _ _ _ h => h) (Or.inl ⟨by rfl, ?_⟩) ?_ ?_
                      rotate_left
                      · intro w'
                        go_simp
                        with_reducible rfl
                      rotate_left
                      · simp only [Act.put, List.setIfInBounds_toArray, List.set_cons_zero, List.set_cons_succ, i64_w, i32_w]
                        rfl
                      refine take_ (i := 12) (N := some 240) (v := ?_) (a' := ?_) #[true, true, true, true, true, true, true, true, true, true, true, true, true, false, false, false] rfl rfl (by kernel_rfl) (fun _ _ _ h => h) (Or.inl ⟨by rfl, ?_⟩) hHeld ?_ ?_
                      rotate_left
                      · rintro w' ⟨s0, s1, s2⟩
                        go_simp
                        with_reducible rfl
                      rotate_left
                      · simp only [Act.put, List.setIfInBounds_toArray, List.set_cons_zero, List.set_cons_succ, i64_w, i32_w]
                        rfl
                      refine pure_ (i := 13) (N := some 241) (v := ?_) (a' := ?_) #[true, true, true, true, true, true, true, true, true, true, true, true, true, true, false, false] rfl rfl (by kernel_rfl) (fun _ _ _ h => h) (Or.inl ⟨by rfl, ?_⟩) ?_ ?_
                      rotate_left
                      · intro w'
                        go_simp
                        with_reducible rfl
                      rotate_left
                      · simp only [Act.put, List.setIfInBounds_toArray, List.set_cons_zero, List.set_cons_succ, i64_w, i32_w]
                        rfl
                      refine pure_ (i := 14) (N := some 242) (v := ?_) (a' := ?_) #[true, true, true, true, true, true, true, true, true, true, true, true, true, true, true, false] rfl rfl (by kernel_rfl) (fun _ _ _ h => h) (Or.inl ⟨by rfl, ?_⟩) ?_ ?_
                      rotate_left
                      · intro w'
                        go_simp
                        with_reducible rfl
                      rotate_left
                      · simp only [Act.put, List.setIfInBounds_toArray, List.set_cons_zero, List.set_cons_succ, i64_w, i32_w]
                        rfl
                      refine pure_ (i := 15) (N := some 28) (v := ?_) (a' := ?_) #[true, true, true, true, true, true, true, true, true, true, true, true, true, true, true, true] rfl rfl (by kernel_rfl) (fun _ _ _ h => h) (Or.inl ⟨by rfl, ?_⟩) ?_ ?_
                      rotate_left
                      · intro w'
                        go_simp
                        with_reducible rfl
                      rotate_left
                      · simp only [Act.put, List.setIfInBounds_toArray, List.set_cons_zero, List.set_cons_succ, i64_w, i32_w]
                        rfl
                      refine done_ (by kernel_rfl) ?_
                      go_wp2
                      refine ⟨⟨k + 1, (yy == x), ⟨by omega⟩, by go_num, rfl, ⟨by rw [HN.out]; rfl⟩, ⟨below_drew1 HBR.out⟩⟩, ?_⟩
                      simp [intOf]; omega
                    · skip
                      refine start_ (n := 16) (S := fun _ => True) (ds := []) #[false, false, false, false, false, false, false, false, false, false, false, false, false, false, false, false] (by kernel_rfl) rfl rfl trivial (fun hHeld => ?_)
                      refine pure_ (i := 0) (N := some 228) (v := ?_) (a' := ?_) #[true, false, false, false, false, false, false, false, false, false, false, false, false, false, false, false] rfl rfl (by kernel_rfl) (fun _ _ _ h => h) (Or.inl ⟨by rfl, ?_⟩) ?_ ?_
                      rotate_left
                      · intro w'
                        go_simp
                        with_reducible rfl
                      rotate_left
                      · simp only [Act.put, List.setIfInBounds_toArray, List.set_cons_zero, List.set_cons_succ, i64_w, i32_w]
                        rfl
                      refine pure_ (i := 1) (N := some 229) (v := ?_) (a' := ?_) #[true, true, false, false, false, false, false, false, false, false, false, false, false, false, false, false] rfl rfl (by kernel_rfl) (fun _ _ _ h => h) (Or.inl ⟨by rfl, ?_⟩) ?_ ?_
                      rotate_left
                      · intro w'
                        go_simp
                        with_reducible rfl
                      rotate_left
                      · simp only [Act.put, List.setIfInBounds_toArray, List.set_cons_zero, List.set_cons_succ, i64_w, i32_w]
                        rfl
                      refine pure_ (i := 2) (N := some 230) (v := undef) (a' := ?_) #[true, true, true, false, false, false, false, false, false, false, false, false, false, false, false, false] rfl rfl (by kernel_rfl) (fun _ _ _ h => h) (Or.inr ⟨by rfl, rfl⟩) ?_ ?_
                      rotate_left
                      · simp only [Act.put, List.setIfInBounds_toArray, List.set_cons_zero, List.set_cons_succ, i64_w, i32_w]
                        rfl
                      refine pure_ (i := 3) (N := some 231) (v := undef) (a' := ?_) #[true, true, true, true, false, false, false, false, false, false, false, false, false, false, false, false] rfl rfl (by kernel_rfl) (fun _ _ _ h => h) (Or.inr ⟨by rfl, rfl⟩) ?_ ?_
                      rotate_left
                      · simp only [Act.put, List.setIfInBounds_toArray, List.set_cons_zero, List.set_cons_succ, i64_w, i32_w]
                        rfl
                      refine pure_ (i := 4) (N := some 232) (v := undef) (a' := ?_) #[true, true, true, true, true, false, false, false, false, false, false, false, false, false, false, false] rfl rfl (by kernel_rfl) (fun _ _ _ h => h) (Or.inr ⟨by rfl, rfl⟩) ?_ ?_
                      rotate_left
                      · simp only [Act.put, List.setIfInBounds_toArray, List.set_cons_zero, List.set_cons_succ, i64_w, i32_w]
                        rfl
                      refine pure_ (i := 5) (N := some 233) (v := undef) (a' := ?_) #[true, true, true, true, true, true, false, false, false, false, false, false, false, false, false, false] rfl rfl (by kernel_rfl) (fun _ _ _ h => h) (Or.inr ⟨by rfl, rfl⟩) ?_ ?_
                      rotate_left
                      · simp only [Act.put, List.setIfInBounds_toArray, List.set_cons_zero, List.set_cons_succ, i64_w, i32_w]
                        rfl
                      refine pure_ (i := 6) (N := some 234) (v := undef) (a' := ?_) #[true, true, true, true, true, true, true, false, false, false, false, false, false, false, false, false] rfl rfl (by kernel_rfl) (fun _ _ _ h => h) (Or.inr ⟨by rfl, rfl⟩) ?_ ?_
                      rotate_left
                      · simp only [Act.put, List.setIfInBounds_toArray, List.set_cons_zero, List.set_cons_succ, i64_w, i32_w]
                        rfl
                      refine pure_ (i := 7) (N := some 235) (v := undef) (a' := ?_) #[true, true, true, true, true, true, true, true, false, false, false, false, false, false, false, false] rfl rfl (by kernel_rfl) (fun _ _ _ h => h) (Or.inr ⟨by rfl, rfl⟩) ?_ ?_
                      rotate_left
                      · simp only [Act.put, List.setIfInBounds_toArray, List.set_cons_zero, List.set_cons_succ, i64_w, i32_w]
                        rfl
                      refine pure_ (i := 8) (N := some 236) (v := undef) (a' := ?_) #[true, true, true, true, true, true, true, true, true, false, false, false, false, false, false, false] rfl rfl (by kernel_rfl) (fun _ _ _ h => h) (Or.inr ⟨by rfl, rfl⟩) ?_ ?_
                      rotate_left
                      · simp only [Act.put, List.setIfInBounds_toArray, List.set_cons_zero, List.set_cons_succ, i64_w, i32_w]
                        rfl
                      refine pure_ (i := 9) (N := some 237) (v := undef) (a' := ?_) #[true, true, true, true, true, true, true, true, true, true, false, false, false, false, false, false] rfl rfl (by kernel_rfl) (fun _ _ _ h => h) (Or.inr ⟨by rfl, rfl⟩) ?_ ?_
                      rotate_left
                      · simp only [Act.put, List.setIfInBounds_toArray, List.set_cons_zero, List.set_cons_succ, i64_w, i32_w]
                        rfl
                      refine pure_ (i := 10) (N := some 238) (v := undef) (a' := ?_) #[true, true, true, true, true, true, true, true, true, true, true, false, false, false, false, false] rfl rfl (by kernel_rfl) (fun _ _ _ h => h) (Or.inr ⟨by rfl, rfl⟩) ?_ ?_
                      rotate_left
                      · simp only [Act.put, List.setIfInBounds_toArray, List.set_cons_zero, List.set_cons_succ, i64_w, i32_w]
                        rfl
                      refine pure_ (i := 11) (N := some 239) (v := undef) (a' := ?_) #[true, true, true, true, true, true, true, true, true, true, true, true, false, false, false, false] rfl rfl (by kernel_rfl) (fun _ _ _ h => h) (Or.inr ⟨by rfl, rfl⟩) ?_ ?_
                      rotate_left
                      · simp only [Act.put, List.setIfInBounds_toArray, List.set_cons_zero, List.set_cons_succ, i64_w, i32_w]
                        rfl
                      refine pure_ (i := 12) (N := some 240) (v := undef) (a' := ?_) #[true, true, true, true, true, true, true, true, true, true, true, true, true, false, false, false] rfl rfl (by kernel_rfl) (fun _ _ _ h => h) (Or.inr ⟨by rfl, rfl⟩) ?_ ?_
                      rotate_left
                      · simp only [Act.put, List.setIfInBounds_toArray, List.set_cons_zero, List.set_cons_succ, i64_w, i32_w]
                        rfl
                      refine pure_ (i := 13) (N := some 241) (v := undef) (a' := ?_) #[true, true, true, true, true, true, true, true, true, true, true, true, true, true, false, false] rfl rfl (by kernel_rfl) (fun _ _ _ h => h) (Or.inr ⟨by rfl, rfl⟩) ?_ ?_
                      rotate_left
                      · simp only [Act.put, List.setIfInBounds_toArray, List.set_cons_zero, List.set_cons_succ, i64_w, i32_w]
                        rfl
                      refine pure_ (i := 14) (N := some 242) (v := ?_) (a' := ?_) #[true, true, true, true, true, true, true, true, true, true, true, true, true, true, true, false] rfl rfl (by kernel_rfl) (fun _ _ _ h => h) (Or.inl ⟨by rfl, ?_⟩) ?_ ?_
                      rotate_left
                      · intro w'
                        go_simp
                        with_reducible rfl
                      rotate_left
                      · simp only [Act.put, List.setIfInBounds_toArray, List.set_cons_zero, List.set_cons_succ, i64_w, i32_w]
                        rfl
                      refine pure_ (i := 15) (N := some 28) (v := ?_) (a' := ?_) #[true, true, true, true, true, true, true, true, true, true, true, true, true, true, true, true] rfl rfl (by kernel_rfl) (fun _ _ _ h => h) (Or.inl ⟨by rfl, ?_⟩) ?_ ?_
                      rotate_left
                      · intro w'
                        go_simp
                        with_reducible rfl
                      rotate_left
                      · simp only [Act.put, List.setIfInBounds_toArray, List.set_cons_zero, List.set_cons_succ, i64_w, i32_w]
                        rfl
                      refine done_ (by kernel_rfl) ?_
                      go_wp2
                      refine ⟨⟨k + 1, true, ⟨by omega⟩, by go_num, rfl, ⟨by rw [HN.out]; rfl⟩, ⟨below_drew1 HBR.out⟩⟩, ?_⟩
                      simp [intOf]; omega
                  · have hke : k = yl := by have := hk.out; omega
                    have hbt := HBI.out
                    rw [hke, HYE.out, List.take_length, decide_eq_true HXM.out] at hbt
                    subst hke
                    subst hbt
                    clear HBI
                    go_wp2
                    refine ⟨⟨i + 1, ⟨by omega⟩, by go_num, HBR⟩, ?_⟩
                    simp [intOf]; omega
              · have hie : n = i := by have := hi.out; omega
                subst hie
                have HBW := Aside0.mk (below_then HBk.out HBk.out.size HBR.out)
                obtain ⟨hf1, hf2, hf3⟩ := one_first HCM.out
                rw [← HT1.out] at hf1 hf2
                rw [← HN1.out] at hf3
                obtain ⟨f0, hf0⟩ : ∃ f0, f0 = al.getD 0 [] := ⟨_, rfl⟩
                rw [← hf0] at hf2 hf3
                obtain ⟨bs, hbs⟩ : ∃ bs, bs = decide (f0 = cd) := ⟨_, rfl⟩
                rw [← hbs] at hf3
                have hfl : f0.length ≤ 9223372036854775807 := by
                  rw [hf0]
                  exact ex_len _ n hw4 (isCodeB_iff.1 (HALL.out _ (by
                    have h0 := List.length_pos_of_mem HCM.out
                    rw [show al.getD 0 [] = al[0] by simp [List.getD_eq_getElem?_getD, List.getElem?_eq_getElem h0]]
                    exact List.getElem_mem _))).1
                obtain ⟨ks, hks⟩ := (SameInts_ev f0 cd hfl).rounds
                rw [← hbs] at hks
                have H21 := Aside0.mk fun A c w1 (h1 : Below w.heap.size w w1) hC hle => padlockref01_SameInts.calls ks A c f0 A2 c2 cd bs w1 hC hle (Kd.C_below G2.out h1) e2 hks
                have HF1 := Aside0.mk hf1
                have HF2 := Aside0.mk hf2
                clear hf1 hf2 hf0 hbs hfl hks
                cases bs
                all_goals
                  first
                    | (exfalso; rw [d8n] at hf3; exact absurd hf3 (by decide))
                    | (clear hf3
                       go_wp2_with (first
                         | (go_at_call 36; refine (H36.out _ HBW.out).mono ?_; rintro e wv ⟨v, rfl, ho, hb⟩; obtain ⟨Av, cv, rfl, hlv, hcv⟩ := Kd.R_reads ho; rw [HF1.out] at hlv hcv ⊢; have HBv := Aside0.mk (below_then HBW.out HBW.out.size hb); obtain ⟨adf, Af, cf, ef, hcf, hlf, hif⟩ := at_L2 hcv ((0 : Nat) : Int) (by omega) (by omega); subst ef; rw [HF2.out] at hcf hlf hif; replace hcf : wv.cell? adf = some (.slice Af f0.length cf) := hcf; have HLF := Aside0.mk hlf; have HIF := Aside0.mk hif; clear ho hb hlv hcv hlf hif)
                         | (go_at_call 21; refine (H21.out _ _ _ HBv.out HIF.out HLF.out).mono ?_; rintro e wu ⟨rfl, ⟨⟨mu, rfl⟩⟩⟩; have HBu := Aside0.mk (pw_below_drewN HBv.out mu))
                         | (go_at_call 20; refine (padlocklaw01_works.calls true _ rfl).mono ?_; rintro e wz ⟨rfl, hb4⟩))
                       go_ret
                       first
                         | exact ⟨rfl, below_then HBu.out HBu.out.size hb4⟩
                         | exact ⟨rfl, below_then HBv.out HBv.out.size hb4⟩)
  · rw [if_neg h2] at hpairS
    obtain ⟨hpa, hpb, hlx⟩ := one_pair HSORT.out (by rw [hN1] at h2; omega)
    rw [← hN1] at hpb hlx
    obtain ⟨pa, hpa_⟩ : ∃ pa, pa = al.getD 0 [] := ⟨_, rfl⟩
    obtain ⟨pb, hpb_⟩ : ∃ pb, pb = al.getD (N1 - 1) [] := ⟨_, rfl⟩
    rw [← hpa_, ← hpb_] at hpairS
    rw [← hpa_] at hpa hlx
    rw [← hpb_] at hpb hlx
    have hzl : pa.length ≤ 9223372036854775807 := ex_len pa n hw4 (isCodeB_iff.1 (HALL.out pa hpa)).1
    obtain ⟨kb, hkb⟩ := (before_ev pa pb hzl).rounds
    rw [hlx] at hkb
    have H53 := Aside0.mk fun w1 (h1 : Below w.heap.size w w1) => codes_Pair.calls n s A1 c1 l pa pb 0 w1 (Kd.C_below G1.out h1) e1 hpairS
    have H37 := Aside0.mk fun A c A' c' w1 h1 h2 h3 h4 => padlocklaw01_before.calls kb A c pa A' c' pb true w1 h1 h2 h3 h4 hkb
    have H22p := Aside0.mk (H22a.out pa hpa)
    have H22q := Aside0.mk (H22a.out pb hpb)
    have d8 : decide ((1 : Int) < (N1 : Int)) = true := decide_eq_true (by omega)
    have d8n : decide (1 < N1) = true := decide_eq_true (by omega)
    clear hpairS hN1 hpa hpb hlx hpa_ hpb_ hzl hkb
    go_enter Try.func17, Try.ntmps17
    go_wp2_with (first
      | (go_at_call 34; refine H34.out.mono ?_; rintro e wa ⟨rfl, hb⟩; have HBa := Aside0.mk (below_then HB.out HB.out.size hb); have Ka := Aside0.mk (blk_below K0.out hb); obtain ⟨a0, a1⟩ := cells2 Ka.out; clear hb)
      | (go_at_call 35; refine (H35.out _ HBa.out).mono ?_; rintro e wb ⟨rfl, hb⟩; have HBb := Aside0.mk (below_then HBa.out HBa.out.size hb); have Kb := Aside0.mk (blk_below Ka.out hb); clear a0 a1; obtain ⟨a0, a1⟩ := cells2 Kb.out; clear hb)
      | (go_at_call 47; refine (H47.out _ HBb.out).mono ?_; rintro e wc ⟨v, rfl, ho, hb⟩; obtain ⟨As, cs, rfl⟩ := Kd.S_slice ho; obtain ⟨hls, hcs⟩ := (Kd.S_reads' ho).2; rw [HRL.out] at hls hcs ⊢; have HCS := Aside0.mk hcs; have HBc := Aside0.mk (below_then HBb.out HBb.out.size hb); have Kc := Aside0.mk (blk_below Kb.out hb); clear a0 a1; obtain ⟨a0, a1⟩ := cells2 Kc.out; clear hb ho hls hcs)
      | (go_at_call 53; refine (H53.out _ HBc.out).mono ?_; rintro e wd ⟨Aa, ca, Ab, cb, rfl, hla, hca, hlb, hcb, hb⟩; have HLA := Aside0.mk hla; have HCA := Aside0.mk hca; have HLB := Aside0.mk hlb; have HCB := Aside0.mk hcb; have HBd := Aside0.mk (below_then HBc.out HBc.out.size hb); have HCS2 := Aside0.mk (Kd.C_below HCS.out hb); have Kd_ := Aside0.mk (blk_below Kc.out hb); clear a0 a1; obtain ⟨a0, a1⟩ := cells2 Kd_.out; clear hb hla hca hlb hcb)
      | (go_at_call 22; refine (H22q.out _ _ _ HBe.out HCB2.out HLB.out).mono ?_; rintro e wf ⟨rfl, hb⟩; have HBf := Aside0.mk (below_then HBe.out HBe.out.size hb); have HCS4 := Aside0.mk (Kd.C_below HCS3.out hb); have HCA3 := Aside0.mk (Kd.C_below HCA2.out hb); have HCB3 := Aside0.mk (Kd.C_below HCB2.out hb); have Kf := Aside0.mk (blk_below Ke.out hb); clear hb a0 a1)
      | (go_at_call 22; refine (H22p.out _ _ _ HBd.out HCA.out HLA.out).mono ?_; rintro e we ⟨rfl, hb⟩; have HBe := Aside0.mk (below_then HBd.out HBd.out.size hb); have HCS3 := Aside0.mk (Kd.C_below HCS2.out hb); have HCA2 := Aside0.mk (Kd.C_below HCA.out hb); have HCB2 := Aside0.mk (Kd.C_below HCB.out hb); have Ke := Aside0.mk (blk_below Kd_.out hb); clear a0 a1; obtain ⟨a0, a1⟩ := cells2 Ke.out; clear hb)
      | (go_at_call 37; refine (H37.out _ _ _ _ _ HCA3.out HLA.out HCB3.out HLB.out).mono ?_; rintro e wg ⟨rfl, ⟨⟨m, rfl⟩⟩⟩))
    have HBz := Aside0.mk (pw_below_drewN HBf.out m)
    have HCz := Aside0.mk (Kd.C_drewN HCS4.out m)
    have Kz := Aside0.mk (blk_drewN Kf.out m)
    clear HBa HBb HBc HBd HBe HBf HCS HCS2 HCS3 HCS4 Ka Kb Kc Kd_ Ke Kf HCA HCA2 HCA3 HCB HCB2 HCB3
    generalize wf.drewN m = wz at HBz HCz Kz ⊢
    go_loopw [20] (fun v20 wr => ∃ i : Nat, Aside0 (i ≤ n) ∧ v20 = .int .i64 i ∧ Aside0 (Below wz.heap.size wz wr)) (fun v20 _ => n - (intOf v20).toNat)
    case atStart => exact ⟨0, ⟨Nat.zero_le _⟩, rfl, ⟨Below.refl _ _⟩⟩
    case round =>
      obtain ⟨i, hi, rfl, HBR⟩ := hrel
      obtain ⟨a0, a1⟩ := cells2 (blk_below Kz.out HBR.out)
      obtain ⟨wo, hwo⟩ : ∃ wo, wo = wr := ⟨_, rfl⟩
      subst hwo
      by_cases hlt : i < n
      · obtain ⟨ad, Ay, cy, e0, hcy, hly, hiy⟩ := at_L2 HCz.out (i : Int) (by omega) (by omega)
        subst e0
        rw [HROW.out i hlt] at hcy hly hiy
        rw [Int.toNat_natCast] at hcy
        have hcr := (HBR.out.cell (World.block_lt_of_cell? wz _ hcy)).trans hcy
        have HCY := Aside0.mk hcy
        have HIY := Aside0.mk hiy
        have hq := hlen1.out i hlt
        rw [← HN1.out] at hq
        have hyl10 := HYL.out i
        obtain ⟨yl, hyl⟩ : ∃ yl, yl = (Y i).length := ⟨_, rfl⟩
        have HYE := Aside0.mk hyl
        rw [← hyl] at hcr hly hq hyl10
        obtain ⟨bq, hbq⟩ : ∃ bq, bq = decide (0 < N1) := ⟨_, rfl⟩
        rw [← hbq] at hq
        replace hbq := hbq.symm
        clear hyl hcy hiy
        go_wp2
        clear hbq hq a0 a1 hcr
        go_loopw [21] (fun v21 wr => ∃ k : Nat, Aside0 (k ≤ yl) ∧ v21 = .int .i64 k ∧ Aside0 (Below wz.heap.size wz wr)) (fun v21 _ => yl - (intOf v21).toNat)
        case atStart => exact ⟨0, ⟨Nat.zero_le _⟩, rfl, HBR⟩
        case round =>
          clear HBR
          obtain ⟨k, hk, rfl, HBR⟩ := hrel
          obtain ⟨a0, a1⟩ := cells2 (blk_below Kz.out HBR.out)
          have hcr : wr.cell? (ad.add i) = some (.slice Ay yl cy) := by rw [HYE.out]; exact (HBR.out.cell (World.block_lt_of_cell? wz _ HCY.out)).trans HCY.out
          by_cases hlt2 : k < yl
          · have hkY : k < (Y i).length := by rw [← HYE.out]; exact hlt2
            obtain ⟨ady, e1, hce⟩ := Kd.at_int HIY.out (k : Int) (by omega) (by omega)
            subst e1
            rw [Int.toNat_natCast, rd_get _ k hkY] at hce
            replace hce := (HBR.out.cell (World.block_lt_of_cell? wz _ hce)).trans hce
            obtain ⟨rc, hrc⟩ := H32.out i hlt _ (List.getElem_mem hkY)
            obtain ⟨yy, hyy⟩ : ∃ yy, yy = (Y i)[k] := ⟨_, rfl⟩
            rw [← hyy] at hce hrc
            have HYY := Aside0.mk hyy
            have HBW := Aside0.mk (below_then HBz.out HBz.out.size HBR.out)
            have CI := Aside0.mk (hrc wr.drew (below_drew1 HBW.out))
            clear hyy hrc
            go_wp2
            refine start_ (n := 19) (S := fun w' => w'.cell? ⟨w.heap.size, 0, none⟩ = some (.int .i64 (n : Int)) ∧ w'.cell? ⟨w.heap.size, 1, none⟩ = some (.int .i64 (s : Int)) ∧ w'.cell? (ad.add i) = some (.slice (some ady) yl cy) ∧ w'.cell? (ady.add k) = some (.int .i64 yy)) (ds := []) #[false, false, false, false, false, false, false, false, false, false, false, false, false, false, false, false, false, false, false] (by kernel_rfl) rfl rfl ⟨a0, a1, hcr, hce⟩ (fun hHeld => ?_)
            refine take_ (i := 0) (N := some 150) (v := ?_) (a' := ?_) #[true, false, false, false, false, false, false, false, false, false, false, false, false, false, false, false, false, false, false] rfl rfl (by kernel_rfl) (fun _ _ _ h => h) (Or.inl ⟨by rfl, ?_⟩) hHeld ?_ ?_
            rotate_left
            · rintro w' ⟨s0, s1, s2, s3⟩
              go_simp
              with_reducible rfl
            rotate_left
            · simp only [Act.put, List.setIfInBounds_toArray, List.set_cons_zero, List.set_cons_succ, i64_w, i32_w]
              rfl
            refine pure_ (i := 1) (N := some 151) (v := ?_) (a' := ?_) #[true, true, false, false, false, false, false, false, false, false, false, false, false, false, false, false, false, false, false] rfl rfl (by kernel_rfl) (fun _ _ _ h => h) (Or.inl ⟨by rfl, ?_⟩) ?_ ?_
            rotate_left
            · intro w'
              go_simp
              with_reducible rfl
            rotate_left
            · simp only [Act.put, List.setIfInBounds_toArray, List.set_cons_zero, List.set_cons_succ, i64_w, i32_w]
              rfl
            refine pure_ (i := 2) (N := some 152) (v := ?_) (a' := ?_) #[true, true, true, false, false, false, false, false, false, false, false, false, false, false, false, false, false, false, false] rfl rfl (by kernel_rfl) (fun _ _ _ h => h) (Or.inl ⟨by rfl, ?_⟩) ?_ ?_
            rotate_left
            · intro w'
              go_simp
              with_reducible rfl
            rotate_left
            · simp only [Act.put, List.setIfInBounds_toArray, List.set_cons_zero, List.set_cons_succ, i64_w, i32_w]
              rfl
            refine pure_ (i := 3) (N := some 153) (v := ?_) (a' := ?_) #[true, true, true, true, false, false, false, false, false, false, false, false, false, false, false, false, false, false, false] rfl rfl (by kernel_rfl) (fun _ _ _ h => h) (Or.inl ⟨by rfl, ?_⟩) ?_ ?_
            rotate_left
            · intro w'
              go_simp
              with_reducible rfl
            rotate_left
            · simp only [Act.put, List.setIfInBounds_toArray, List.set_cons_zero, List.set_cons_succ, i64_w, i32_w]
              rfl
            refine pure_ (i := 4) (N := some 154) (v := ?_) (a' := ?_) #[true, true, true, true, true, false, false, false, false, false, false, false, false, false, false, false, false, false, false] rfl rfl (by kernel_rfl) (fun _ _ _ h => h) (Or.inl ⟨by rfl, ?_⟩) ?_ ?_
            rotate_left
            · intro w'
              go_simp
              with_reducible rfl
            rotate_left
            · simp only [Act.put, List.setIfInBounds_toArray, List.set_cons_zero, List.set_cons_succ, i64_w, i32_w]
              rfl
            refine pure_ (i := 5) (N := some 155) (v := ?_) (a' := ?_) #[true, true, true, true, true, true, false, false, false, false, false, false, false, false, false, false, false, false, false] rfl rfl (by kernel_rfl) (fun _ _ _ h => h) (Or.inl ⟨by rfl, ?_⟩) ?_ ?_
            rotate_left
            · intro w'
              go_simp
              with_reducible rfl
            rotate_left
            · simp only [Act.put, List.setIfInBounds_toArray, List.set_cons_zero, List.set_cons_succ, i64_w, i32_w]
              rfl
            refine take_ (i := 6) (N := some 156) (v := ?_) (a' := ?_) #[true, true, true, true, true, true, true, false, false, false, false, false, false, false, false, false, false, false, false] rfl rfl (by kernel_rfl) (fun _ _ _ h => h) (Or.inl ⟨by rfl, ?_⟩) hHeld ?_ ?_
            rotate_left
            · rintro w' ⟨s0, s1, s2, s3⟩
              go_simp
              with_reducible rfl
            rotate_left
            · simp only [Act.put, List.setIfInBounds_toArray, List.set_cons_zero, List.set_cons_succ, i64_w, i32_w]
              rfl
            refine pure_ (i := 7) (N := some 157) (v := ?_) (a' := ?_) #[true, true, true, true, true, true, true, true, false, false, false, false, false, false, false, false, false, false, false] rfl rfl (by kernel_rfl) (fun _ _ _ h => h) (Or.inl ⟨by rfl, ?_⟩) ?_ ?_
            rotate_left
            · intro w'
              go_simp
              with_reducible rfl
            rotate_left
            · simp only [Act.put, List.setIfInBounds_toArray, List.set_cons_zero, List.set_cons_succ, i64_w, i32_w]
              rfl
            refine pure_ (i := 8) (N := some 158) (v := ?_) (a' := ?_) #[true, true, true, true, true, true, true, true, true, false, false, false, false, false, false, false, false, false, false] rfl rfl (by kernel_rfl) (fun _ _ _ h => h) (Or.inl ⟨by rfl, ?_⟩) ?_ ?_
            rotate_left
            · intro w'
              go_simp
              with_reducible rfl
            rotate_left
            · simp only [Act.put, List.setIfInBounds_toArray, List.set_cons_zero, List.set_cons_succ, i64_w, i32_w]
              rfl
            refine take_ (i := 9) (N := some 159) (v := ?_) (a' := ?_) #[true, true, true, true, true, true, true, true, true, true, false, false, false, false, false, false, false, false, false] rfl rfl (by kernel_rfl) (fun _ _ _ h => h) (Or.inl ⟨by rfl, ?_⟩) hHeld ?_ ?_
            rotate_left
            · rintro w' ⟨s0, s1, s2, s3⟩
              go_simp
              with_reducible rfl
            rotate_left
            · simp only [Act.put, List.setIfInBounds_toArray, List.set_cons_zero, List.set_cons_succ, i64_w, i32_w]
              rfl
            refine pure_ (i := 10) (N := some 160) (v := ?_) (a' := ?_) #[true, true, true, true, true, true, true, true, true, true, true, false, false, false, false, false, false, false, false] rfl rfl (by kernel_rfl) (fun _ _ _ h => h) (Or.inl ⟨by rfl, ?_⟩) ?_ ?_
            rotate_left
            · intro w'
              go_simp
              with_reducible rfl
            rotate_left
            · simp only [Act.put, List.setIfInBounds_toArray, List.set_cons_zero, List.set_cons_succ, i64_w, i32_w]
              rfl
            refine one_ (i := 11) (N := some 161) #[true, true, true, true, true, true, true, true, true, true, true, true, false, false, false, false, false, false, false] rfl rfl (by kernel_rfl) (by decide) (fun K hK => ?_)
            refine goes_ Try.func32 (by kernel_rfl) rfl #[.agg #[.int .i64 (n : Int), .int .i64 (s : Int)], .slice A1 l.length c1, .agg #[.int .i64 1, .int .i64 (i : Int), .int .i64 0, .int .i64 yy, .int .i64 0, .slice none 0 0, .bool true]] (by rfl) rfl rfl (by (try simp only [List.map_toArray, List.map_cons, List.map_nil]); first | done | rfl) ?_
            refine CI.out.mono ?_
            rintro e wi ⟨v, rfl, ho, hb⟩
            obtain ⟨Ai, ci, rfl, hli_, hci_⟩ := Kd.R_reads ho
            refine ⟨_, rfl, ?_⟩
            have HBi := Aside0.mk (below_then (below_drew1 HBR.out) (by have := HBR.out.size; simp; omega) hb)
            refine hK.out _ _ ⟨(hb.cell (World.block_lt_of_cell? _ _ hHeld.1)).trans hHeld.1, (hb.cell (World.block_lt_of_cell? _ _ hHeld.2.1)).trans hHeld.2.1, (hb.cell (World.block_lt_of_cell? _ _ hHeld.2.2.1)).trans hHeld.2.2.1, (hb.cell (World.block_lt_of_cell? _ _ hHeld.2.2.2)).trans hHeld.2.2.2⟩ (fun hHeld => ?_)
            clear hK K ho hli_ hci_ hb
            refine norm_ (a' := ?_) ?_ ?_
            rotate_left
            · show Act.put _ (some 161) _ = _
              simp only [Act.put, List.setIfInBounds_toArray, List.set_cons_zero, List.set_cons_succ, i64_w, i32_w]
              rfl
            refine pure_ (i := 12) (N := some 149) (v := ?_) (a' := ?_) #[true, true, true, true, true, true, true, true, true, true, true, true, true, false, false, false, false, false, false] rfl rfl (by kernel_rfl) (fun _ _ _ h => h) (Or.inl ⟨by rfl, ?_⟩) ?_ ?_
            rotate_left
            · intro w'
              go_simp
              with_reducible rfl
            rotate_left
            · simp only [Act.put, List.setIfInBounds_toArray, List.set_cons_zero, List.set_cons_succ, i64_w, i32_w]
              rfl
            refine pure_ (i := 13) (N := some 162) (v := ?_) (a' := ?_) #[true, true, true, true, true, true, true, true, true, true, true, true, true, true, false, false, false, false, false] rfl rfl (by kernel_rfl) (fun _ _ _ h => h) (Or.inl ⟨by rfl, ?_⟩) ?_ ?_
            rotate_left
            · intro w'
              go_simp
              with_reducible rfl
            rotate_left
            · simp only [Act.put, List.setIfInBounds_toArray, List.set_cons_zero, List.set_cons_succ, i64_w, i32_w]
              rfl
            refine pure_ (i := 14) (N := some 163) (v := ?_) (a' := ?_) #[true, true, true, true, true, true, true, true, true, true, true, true, true, true, true, false, false, false, false] rfl rfl (by kernel_rfl) (fun _ _ _ h => h) (Or.inl ⟨by rfl, ?_⟩) ?_ ?_
            rotate_left
            · intro w'
              go_simp
              with_reducible rfl
            rotate_left
            · simp only [Act.put, List.setIfInBounds_toArray, List.set_cons_zero, List.set_cons_succ, i64_w, i32_w]
              rfl
            refine pure_ (i := 15) (N := some 164) (v := ?_) (a' := ?_) #[true, true, true, true, true, true, true, true, true, true, true, true, true, true, true, true, false, false, false] rfl rfl (by kernel_rfl) (fun _ _ _ h => h) (Or.inl ⟨by rfl, ?_⟩) ?_ ?_
            rotate_left
            · intro w'
              go_simp
              with_reducible rfl
            rotate_left
            · simp only [Act.put, List.setIfInBounds_toArray, List.set_cons_zero, List.set_cons_succ, i64_w, i32_w]
              rfl
            refine pure_ (i := 16) (N := some 22) (v := ?_) (a' := ?_) #[true, true, true, true, true, true, true, true, true, true, true, true, true, true, true, true, true, false, false] rfl rfl (by kernel_rfl) (fun _ _ _ h => h) (Or.inl ⟨by rfl, ?_⟩) ?_ ?_
            rotate_left
            · intro w'
              go_simp
              with_reducible rfl
            rotate_left
            · simp only [Act.put, List.setIfInBounds_toArray, List.set_cons_zero, List.set_cons_succ, i64_w, i32_w]
              rfl
            refine pure_ (i := 17) (N := some 23) (v := ?_) (a' := ?_) #[true, true, true, true, true, true, true, true, true, true, true, true, true, true, true, true, true, true, false] rfl rfl (by kernel_rfl) (fun _ _ _ h => h) (Or.inl ⟨by rfl, ?_⟩) ?_ ?_
            rotate_left
            · intro w'
              go_simp
              with_reducible rfl
            rotate_left
            · simp only [Act.put, List.setIfInBounds_toArray, List.set_cons_zero, List.set_cons_succ, i64_w, i32_w]
              rfl
            refine pure_ (i := 18) (N := some 24) (v := ?_) (a' := ?_) #[true, true, true, true, true, true, true, true, true, true, true, true, true, true, true, true, true, true, true] rfl rfl (by kernel_rfl) (fun _ _ _ h => h) (Or.inl ⟨by rfl, ?_⟩) ?_ ?_
            rotate_left
            · intro w'
              go_simp
              with_reducible rfl
            rotate_left
            · simp only [Act.put, List.setIfInBounds_toArray, List.set_cons_zero, List.set_cons_succ, i64_w, i32_w]
              rfl
            refine done_ (by kernel_rfl) ?_
            have hcs := hHeld.2.2.1
            have hcf := hHeld.2.2.2
            clear hHeld a0 a1 hcr hce
            go_wp2
            rcases Nat.eq_zero_or_pos k with hk0 | hk0
            · subst hk0
              refine start_ (n := 27) (S := fun _ => True) (ds := []) #[false, false, false, false, false, false, false, false, false, false, false, false, false, false, false, false, false, false, false, false, false, false, false, false, false, false, false] (by kernel_rfl) rfl rfl trivial (fun hHeld => ?_)
              refine pure_ (i := 0) (N := some 165) (v := ?_) (a' := ?_) #[true, false, false, false, false, false, false, false, false, false, false, false, false, false, false, false, false, false, false, false, false, false, false, false, false, false, false] rfl rfl (by kernel_rfl) (fun _ _ _ h => h) (Or.inl ⟨by rfl, ?_⟩) ?_ ?_
              rotate_left
              · intro w'
                go_simp
                with_reducible rfl
              rotate_left
              · simp only [Act.put, List.setIfInBounds_toArray, List.set_cons_zero, List.set_cons_succ, i64_w, i32_w]
                rfl
              refine pure_ (i := 1) (N := some 166) (v := ?_) (a' := ?_) #[true, true, false, false, false, false, false, false, false, false, false, false, false, false, false, false, false, false, false, false, false, false, false, false, false, false, false] rfl rfl (by kernel_rfl) (fun _ _ _ h => h) (Or.inl ⟨by rfl, ?_⟩) ?_ ?_
              rotate_left
              · intro w'
                go_simp
                with_reducible rfl
              rotate_left
              · simp only [Act.put, List.setIfInBounds_toArray, List.set_cons_zero, List.set_cons_succ, i64_w, i32_w]
                rfl
              refine pure_ (i := 2) (N := some 167) (v := ?_) (a' := ?_) #[true, true, true, false, false, false, false, false, false, false, false, false, false, false, false, false, false, false, false, false, false, false, false, false, false, false, false] rfl rfl (by kernel_rfl) (fun _ _ _ h => h) (Or.inl ⟨by rfl, ?_⟩) ?_ ?_
              rotate_left
              · intro w'
                go_simp
                with_reducible rfl
              rotate_left
              · simp only [Act.put, List.setIfInBounds_toArray, List.set_cons_zero, List.set_cons_succ, i64_w, i32_w]
                rfl
              refine pure_ (i := 3) (N := some 168) (v := ?_) (a' := ?_) #[true, true, true, true, false, false, false, false, false, false, false, false, false, false, false, false, false, false, false, false, false, false, false, false, false, false, false] rfl rfl (by kernel_rfl) (fun _ _ _ h => h) (Or.inl ⟨by rfl, ?_⟩) ?_ ?_
              rotate_left
              · intro w'
                go_simp
                with_reducible rfl
              rotate_left
              · simp only [Act.put, List.setIfInBounds_toArray, List.set_cons_zero, List.set_cons_succ, i64_w, i32_w]
                rfl
              refine pure_ (i := 4) (N := some 169) (v := ?_) (a' := ?_) #[true, true, true, true, true, false, false, false, false, false, false, false, false, false, false, false, false, false, false, false, false, false, false, false, false, false, false] rfl rfl (by kernel_rfl) (fun _ _ _ h => h) (Or.inl ⟨by rfl, ?_⟩) ?_ ?_
              rotate_left
              · intro w'
                go_simp
                with_reducible rfl
              rotate_left
              · simp only [Act.put, List.setIfInBounds_toArray, List.set_cons_zero, List.set_cons_succ, i64_w, i32_w]
                rfl
              refine pure_ (i := 5) (N := some 170) (v := ?_) (a' := ?_) #[true, true, true, true, true, true, false, false, false, false, false, false, false, false, false, false, false, false, false, false, false, false, false, false, false, false, false] rfl rfl (by kernel_rfl) (fun _ _ _ h => h) (Or.inl ⟨by rfl, ?_⟩) ?_ ?_
              rotate_left
              · intro w'
                go_simp
                with_reducible rfl
              rotate_left
              · simp only [Act.put, List.setIfInBounds_toArray, List.set_cons_zero, List.set_cons_succ, i64_w, i32_w]
                rfl
              refine pure_ (i := 6) (N := some 171) (v := ?_) (a' := ?_) #[true, true, true, true, true, true, true, false, false, false, false, false, false, false, false, false, false, false, false, false, false, false, false, false, false, false, false] rfl rfl (by kernel_rfl) (fun _ _ _ h => h) (Or.inl ⟨by rfl, ?_⟩) ?_ ?_
              rotate_left
              · intro w'
                go_simp
                with_reducible rfl
              rotate_left
              · simp only [Act.put, List.setIfInBounds_toArray, List.set_cons_zero, List.set_cons_succ, i64_w, i32_w]
                rfl
              refine pure_ (i := 7) (N := some 172) (v := ?_) (a' := ?_) #[true, true, true, true, true, true, true, true, false, false, false, false, false, false, false, false, false, false, false, false, false, false, false, false, false, false, false] rfl rfl (by kernel_rfl) (fun _ _ _ h => h) (Or.inl ⟨by rfl, ?_⟩) ?_ ?_
              rotate_left
              · intro w'
                go_simp
                with_reducible rfl
              rotate_left
              · simp only [Act.put, List.setIfInBounds_toArray, List.set_cons_zero, List.set_cons_succ, i64_w, i32_w]
                rfl
              refine pure_ (i := 8) (N := some 173) (v := ?_) (a' := ?_) #[true, true, true, true, true, true, true, true, true, false, false, false, false, false, false, false, false, false, false, false, false, false, false, false, false, false, false] rfl rfl (by kernel_rfl) (fun _ _ _ h => h) (Or.inl ⟨by rfl, ?_⟩) ?_ ?_
              rotate_left
              · intro w'
                go_simp
                with_reducible rfl
              rotate_left
              · simp only [Act.put, List.setIfInBounds_toArray, List.set_cons_zero, List.set_cons_succ, i64_w, i32_w]
                rfl
              refine pure_ (i := 9) (N := some 174) (v := undef) (a' := ?_) #[true, true, true, true, true, true, true, true, true, true, false, false, false, false, false, false, false, false, false, false, false, false, false, false, false, false, false] rfl rfl (by kernel_rfl) (fun _ _ _ h => h) (Or.inr ⟨by rfl, rfl⟩) ?_ ?_
              rotate_left
              · simp only [Act.put, List.setIfInBounds_toArray, List.set_cons_zero, List.set_cons_succ, i64_w, i32_w]
                rfl
              refine pure_ (i := 10) (N := some 175) (v := undef) (a' := ?_) #[true, true, true, true, true, true, true, true, true, true, true, false, false, false, false, false, false, false, false, false, false, false, false, false, false, false, false] rfl rfl (by kernel_rfl) (fun _ _ _ h => h) (Or.inr ⟨by rfl, rfl⟩) ?_ ?_
              rotate_left
              · simp only [Act.put, List.setIfInBounds_toArray, List.set_cons_zero, List.set_cons_succ, i64_w, i32_w]
                rfl
              refine pure_ (i := 11) (N := some 176) (v := undef) (a' := ?_) #[true, true, true, true, true, true, true, true, true, true, true, true, false, false, false, false, false, false, false, false, false, false, false, false, false, false, false] rfl rfl (by kernel_rfl) (fun _ _ _ h => h) (Or.inr ⟨by rfl, rfl⟩) ?_ ?_
              rotate_left
              · simp only [Act.put, List.setIfInBounds_toArray, List.set_cons_zero, List.set_cons_succ, i64_w, i32_w]
                rfl
              refine pure_ (i := 12) (N := some 177) (v := undef) (a' := ?_) #[true, true, true, true, true, true, true, true, true, true, true, true, true, false, false, false, false, false, false, false, false, false, false, false, false, false, false] rfl rfl (by kernel_rfl) (fun _ _ _ h => h) (Or.inr ⟨by rfl, rfl⟩) ?_ ?_
              rotate_left
              · simp only [Act.put, List.setIfInBounds_toArray, List.set_cons_zero, List.set_cons_succ, i64_w, i32_w]
                rfl
              refine pure_ (i := 13) (N := some 178) (v := undef) (a' := ?_) #[true, true, true, true, true, true, true, true, true, true, true, true, true, true, false, false, false, false, false, false, false, false, false, false, false, false, false] rfl rfl (by kernel_rfl) (fun _ _ _ h => h) (Or.inr ⟨by rfl, rfl⟩) ?_ ?_
              rotate_left
              · simp only [Act.put, List.setIfInBounds_toArray, List.set_cons_zero, List.set_cons_succ, i64_w, i32_w]
                rfl
              refine pure_ (i := 14) (N := some 179) (v := undef) (a' := ?_) #[true, true, true, true, true, true, true, true, true, true, true, true, true, true, true, false, false, false, false, false, false, false, false, false, false, false, false] rfl rfl (by kernel_rfl) (fun _ _ _ h => h) (Or.inr ⟨by rfl, rfl⟩) ?_ ?_
              rotate_left
              · simp only [Act.put, List.setIfInBounds_toArray, List.set_cons_zero, List.set_cons_succ, i64_w, i32_w]
                rfl
              refine pure_ (i := 15) (N := some 180) (v := undef) (a' := ?_) #[true, true, true, true, true, true, true, true, true, true, true, true, true, true, true, true, false, false, false, false, false, false, false, false, false, false, false] rfl rfl (by kernel_rfl) (fun _ _ _ h => h) (Or.inr ⟨by rfl, rfl⟩) ?_ ?_
              rotate_left
              · simp only [Act.put, List.setIfInBounds_toArray, List.set_cons_zero, List.set_cons_succ, i64_w, i32_w]
                rfl
              refine pure_ (i := 16) (N := some 181) (v := undef) (a' := ?_) #[true, true, true, true, true, true, true, true, true, true, true, true, true, true, true, true, true, false, false, false, false, false, false, false, false, false, false] rfl rfl (by kernel_rfl) (fun _ _ _ h => h) (Or.inr ⟨by rfl, rfl⟩) ?_ ?_
              rotate_left
              · simp only [Act.put, List.setIfInBounds_toArray, List.set_cons_zero, List.set_cons_succ, i64_w, i32_w]
                rfl
              refine pure_ (i := 17) (N := some 182) (v := undef) (a' := ?_) #[true, true, true, true, true, true, true, true, true, true, true, true, true, true, true, true, true, true, false, false, false, false, false, false, false, false, false] rfl rfl (by kernel_rfl) (fun _ _ _ h => h) (Or.inr ⟨by rfl, rfl⟩) ?_ ?_
              rotate_left
              · simp only [Act.put, List.setIfInBounds_toArray, List.set_cons_zero, List.set_cons_succ, i64_w, i32_w]
                rfl
              refine pure_ (i := 18) (N := some 183) (v := undef) (a' := ?_) #[true, true, true, true, true, true, true, true, true, true, true, true, true, true, true, true, true, true, true, false, false, false, false, false, false, false, false] rfl rfl (by kernel_rfl) (fun _ _ _ h => h) (Or.inr ⟨by rfl, rfl⟩) ?_ ?_
              rotate_left
              · simp only [Act.put, List.setIfInBounds_toArray, List.set_cons_zero, List.set_cons_succ, i64_w, i32_w]
                rfl
              refine pure_ (i := 19) (N := some 184) (v := undef) (a' := ?_) #[true, true, true, true, true, true, true, true, true, true, true, true, true, true, true, true, true, true, true, true, false, false, false, false, false, false, false] rfl rfl (by kernel_rfl) (fun _ _ _ h => h) (Or.inr ⟨by rfl, rfl⟩) ?_ ?_
              rotate_left
              · simp only [Act.put, List.setIfInBounds_toArray, List.set_cons_zero, List.set_cons_succ, i64_w, i32_w]
                rfl
              refine pure_ (i := 20) (N := some 185) (v := undef) (a' := ?_) #[true, true, true, true, true, true, true, true, true, true, true, true, true, true, true, true, true, true, true, true, true, false, false, false, false, false, false] rfl rfl (by kernel_rfl) (fun _ _ _ h => h) (Or.inr ⟨by rfl, rfl⟩) ?_ ?_
              rotate_left
              · simp only [Act.put, List.setIfInBounds_toArray, List.set_cons_zero, List.set_cons_succ, i64_w, i32_w]
                rfl
              refine pure_ (i := 21) (N := some 186) (v := undef) (a' := ?_) #[true, true, true, true, true, true, true, true, true, true, true, true, true, true, true, true, true, true, true, true, true, true, false, false, false, false, false] rfl rfl (by kernel_rfl) (fun _ _ _ h => h) (Or.inr ⟨by rfl, rfl⟩) ?_ ?_
              rotate_left
              · simp only [Act.put, List.setIfInBounds_toArray, List.set_cons_zero, List.set_cons_succ, i64_w, i32_w]
                rfl
              refine pure_ (i := 22) (N := some 187) (v := undef) (a' := ?_) #[true, true, true, true, true, true, true, true, true, true, true, true, true, true, true, true, true, true, true, true, true, true, true, false, false, false, false] rfl rfl (by kernel_rfl) (fun _ _ _ h => h) (Or.inr ⟨by rfl, rfl⟩) ?_ ?_
              rotate_left
              · simp only [Act.put, List.setIfInBounds_toArray, List.set_cons_zero, List.set_cons_succ, i64_w, i32_w]
                rfl
              refine pure_ (i := 23) (N := some 188) (v := undef) (a' := ?_) #[true, true, true, true, true, true, true, true, true, true, true, true, true, true, true, true, true, true, true, true, true, true, true, true, false, false, false] rfl rfl (by kernel_rfl) (fun _ _ _ h => h) (Or.inr ⟨by rfl, rfl⟩) ?_ ?_
              rotate_left
              · simp only [Act.put, List.setIfInBounds_toArray, List.set_cons_zero, List.set_cons_succ, i64_w, i32_w]
                rfl
              refine pure_ (i := 24) (N := some 189) (v := undef) (a' := ?_) #[true, true, true, true, true, true, true, true, true, true, true, true, true, true, true, true, true, true, true, true, true, true, true, true, true, false, false] rfl rfl (by kernel_rfl) (fun _ _ _ h => h) (Or.inr ⟨by rfl, rfl⟩) ?_ ?_
              rotate_left
              · simp only [Act.put, List.setIfInBounds_toArray, List.set_cons_zero, List.set_cons_succ, i64_w, i32_w]
                rfl
              refine pure_ (i := 25) (N := some 190) (v := ?_) (a' := ?_) #[true, true, true, true, true, true, true, true, true, true, true, true, true, true, true, true, true, true, true, true, true, true, true, true, true, true, false] rfl rfl (by kernel_rfl) (fun _ _ _ h => h) (Or.inl ⟨by rfl, ?_⟩) ?_ ?_
              rotate_left
              · intro w'
                go_simp
                with_reducible rfl
              rotate_left
              · simp only [Act.put, List.setIfInBounds_toArray, List.set_cons_zero, List.set_cons_succ, i64_w, i32_w]
                rfl
              refine pure_ (i := 26) (N := some 191) (v := ?_) (a' := ?_) #[true, true, true, true, true, true, true, true, true, true, true, true, true, true, true, true, true, true, true, true, true, true, true, true, true, true, true] rfl rfl (by kernel_rfl) (fun _ _ _ h => h) (Or.inl ⟨by rfl, ?_⟩) ?_ ?_
              rotate_left
              · intro w'
                go_simp
                with_reducible rfl
              rotate_left
              · simp only [Act.put, List.setIfInBounds_toArray, List.set_cons_zero, List.set_cons_succ, i64_w, i32_w]
                rfl
              refine done_ (by kernel_rfl) ?_
              go_wp2
              refine ⟨⟨0 + 1, ⟨by omega⟩, by go_num, ⟨below_drew1 HBi.out⟩⟩, ?_⟩
              simp [intOf]; omega
            · obtain ⟨j, hj⟩ : ∃ j, j = k - 1 := ⟨_, rfl⟩
              have hjY : j < (Y i).length := by omega
              have hjl : j < yl := by omega
              obtain ⟨adz, e2, hcz⟩ := Kd.at_int HIY.out (j : Int) (by omega) (by omega)
              obtain rfl : ady = adz := by injection e2
              rw [Int.toNat_natCast, rd_get _ j hjY] at hcz
              replace hcz := (HBi.out.cell (World.block_lt_of_cell? wz _ hcz)).trans hcz
              have hlt3 : (Y i)[j] < yy := by
                have := List.pairwise_iff_getElem.1 (HY.out i) j k hjY hkY (by omega)
                rw [HYY.out]; exact this
              obtain ⟨yz, hyz⟩ : ∃ yz, yz = (Y i)[j] := ⟨_, rfl⟩
              rw [← hyz] at hcz hlt3
              have hle : decide (yy ≤ yz) = false := decide_eq_false (by omega)
              have hsub := ex_sub k j hj hk0 (by omega)
              clear hj hyz hjY hlt3
              refine start_ (n := 27) (S := fun w' => w'.cell? (ad.add i) = some (.slice (some ady) yl cy) ∧ w'.cell? (ady.add k) = some (.int .i64 yy) ∧ w'.cell? (ady.add j) = some (.int .i64 yz)) (ds := []) #[false, false, false, false, false, false, false, false, false, false, false, false, false, false, false, false, false, false, false, false, false, false, false, false, false, false, false] (by kernel_rfl) rfl rfl ⟨hcs, hcf, hcz⟩ (fun hHeld => ?_)
              refine pure_ (i := 0) (N := some 165) (v := ?_) (a' := ?_) #[true, false, false, false, false, false, false, false, false, false, false, false, false, false, false, false, false, false, false, false, false, false, false, false, false, false, false] rfl rfl (by kernel_rfl) (fun _ _ _ h => h) (Or.inl ⟨by rfl, ?_⟩) ?_ ?_
              rotate_left
              · intro w'
                go_simp
                with_reducible rfl
              rotate_left
              · simp only [Act.put, List.setIfInBounds_toArray, List.set_cons_zero, List.set_cons_succ, i64_w, i32_w]
                rfl
              refine pure_ (i := 1) (N := some 166) (v := ?_) (a' := ?_) #[true, true, false, false, false, false, false, false, false, false, false, false, false, false, false, false, false, false, false, false, false, false, false, false, false, false, false] rfl rfl (by kernel_rfl) (fun _ _ _ h => h) (Or.inl ⟨by rfl, ?_⟩) ?_ ?_
              rotate_left
              · intro w'
                go_simp
                with_reducible rfl
              rotate_left
              · simp only [Act.put, List.setIfInBounds_toArray, List.set_cons_zero, List.set_cons_succ, i64_w, i32_w]
                rfl
              refine pure_ (i := 2) (N := some 167) (v := ?_) (a' := ?_) #[true, true, true, false, false, false, false, false, false, false, false, false, false, false, false, false, false, false, false, false, false, false, false, false, false, false, false] rfl rfl (by kernel_rfl) (fun _ _ _ h => h) (Or.inl ⟨by rfl, ?_⟩) ?_ ?_
              rotate_left
              · intro w'
                go_simp
                with_reducible rfl
              rotate_left
              · simp only [Act.put, List.setIfInBounds_toArray, List.set_cons_zero, List.set_cons_succ, i64_w, i32_w]
                rfl
              refine pure_ (i := 3) (N := some 168) (v := ?_) (a' := ?_) #[true, true, true, true, false, false, false, false, false, false, false, false, false, false, false, false, false, false, false, false, false, false, false, false, false, false, false] rfl rfl (by kernel_rfl) (fun _ _ _ h => h) (Or.inl ⟨by rfl, ?_⟩) ?_ ?_
              rotate_left
              · intro w'
                go_simp
                with_reducible rfl
              rotate_left
              · simp only [Act.put, List.setIfInBounds_toArray, List.set_cons_zero, List.set_cons_succ, i64_w, i32_w]
                rfl
              refine pure_ (i := 4) (N := some 169) (v := ?_) (a' := ?_) #[true, true, true, true, true, false, false, false, false, false, false, false, false, false, false, false, false, false, false, false, false, false, false, false, false, false, false] rfl rfl (by kernel_rfl) (fun _ _ _ h => h) (Or.inl ⟨by rfl, ?_⟩) ?_ ?_
              rotate_left
              · intro w'
                go_simp
                with_reducible rfl
              rotate_left
              · simp only [Act.put, List.setIfInBounds_toArray, List.set_cons_zero, List.set_cons_succ, i64_w, i32_w]
                rfl
              refine pure_ (i := 5) (N := some 170) (v := ?_) (a' := ?_) #[true, true, true, true, true, true, false, false, false, false, false, false, false, false, false, false, false, false, false, false, false, false, false, false, false, false, false] rfl rfl (by kernel_rfl) (fun _ _ _ h => h) (Or.inl ⟨by rfl, ?_⟩) ?_ ?_
              rotate_left
              · intro w'
                go_simp
                with_reducible rfl
              rotate_left
              · simp only [Act.put, List.setIfInBounds_toArray, List.set_cons_zero, List.set_cons_succ, i64_w, i32_w]
                rfl
              refine pure_ (i := 6) (N := some 171) (v := ?_) (a' := ?_) #[true, true, true, true, true, true, true, false, false, false, false, false, false, false, false, false, false, false, false, false, false, false, false, false, false, false, false] rfl rfl (by kernel_rfl) (fun _ _ _ h => h) (Or.inl ⟨by rfl, ?_⟩) ?_ ?_
              rotate_left
              · intro w'
                go_simp
                with_reducible rfl
              rotate_left
              · simp only [Act.put, List.setIfInBounds_toArray, List.set_cons_zero, List.set_cons_succ, i64_w, i32_w]
                rfl
              refine pure_ (i := 7) (N := some 172) (v := ?_) (a' := ?_) #[true, true, true, true, true, true, true, true, false, false, false, false, false, false, false, false, false, false, false, false, false, false, false, false, false, false, false] rfl rfl (by kernel_rfl) (fun _ _ _ h => h) (Or.inl ⟨by rfl, ?_⟩) ?_ ?_
              rotate_left
              · intro w'
                go_simp
                with_reducible rfl
              rotate_left
              · simp only [Act.put, List.setIfInBounds_toArray, List.set_cons_zero, List.set_cons_succ, i64_w, i32_w]
                rfl
              refine pure_ (i := 8) (N := some 173) (v := ?_) (a' := ?_) #[true, true, true, true, true, true, true, true, true, false, false, false, false, false, false, false, false, false, false, false, false, false, false, false, false, false, false] rfl rfl (by kernel_rfl) (fun _ _ _ h => h) (Or.inl ⟨by rfl, ?_⟩) ?_ ?_
              rotate_left
              · intro w'
                go_simp
                with_reducible rfl
              rotate_left
              · simp only [Act.put, List.setIfInBounds_toArray, List.set_cons_zero, List.set_cons_succ, i64_w, i32_w]
                rfl
              refine pure_ (i := 9) (N := some 174) (v := ?_) (a' := ?_) #[true, true, true, true, true, true, true, true, true, true, false, false, false, false, false, false, false, false, false, false, false, false, false, false, false, false, false] rfl rfl (by kernel_rfl) (fun _ _ _ h => h) (Or.inl ⟨by rfl, ?_⟩) ?_ ?_
              rotate_left
              · intro w'
                go_simp
                with_reducible rfl
              rotate_left
              · simp only [Act.put, List.setIfInBounds_toArray, List.set_cons_zero, List.set_cons_succ, i64_w, i32_w]
                rfl
              refine pure_ (i := 10) (N := some 175) (v := ?_) (a' := ?_) #[true, true, true, true, true, true, true, true, true, true, true, false, false, false, false, false, false, false, false, false, false, false, false, false, false, false, false] rfl rfl (by kernel_rfl) (fun _ _ _ h => h) (Or.inl ⟨by rfl, ?_⟩) ?_ ?_
              rotate_left
              · intro w'
                go_simp
                with_reducible rfl
              rotate_left
              · simp only [Act.put, List.setIfInBounds_toArray, List.set_cons_zero, List.set_cons_succ, i64_w, i32_w]
                rfl
              refine pure_ (i := 11) (N := some 176) (v := ?_) (a' := ?_) #[true, true, true, true, true, true, true, true, true, true, true, true, false, false, false, false, false, false, false, false, false, false, false, false, false, false, false] rfl rfl (by kernel_rfl) (fun _ _ _ h => h) (Or.inl ⟨by rfl, ?_⟩) ?_ ?_
              rotate_left
              · intro w'
                go_simp
                with_reducible rfl
              rotate_left
              · simp only [Act.put, List.setIfInBounds_toArray, List.set_cons_zero, List.set_cons_succ, i64_w, i32_w]
                rfl
              refine take_ (i := 12) (N := some 177) (v := ?_) (a' := ?_) #[true, true, true, true, true, true, true, true, true, true, true, true, true, false, false, false, false, false, false, false, false, false, false, false, false, false, false] rfl rfl (by kernel_rfl) (fun _ _ _ h => h) (Or.inl ⟨by rfl, ?_⟩) hHeld ?_ ?_
              rotate_left
              · rintro w' ⟨s0, s1, s2⟩
                go_simp
                with_reducible rfl
              rotate_left
              · simp only [Act.put, List.setIfInBounds_toArray, List.set_cons_zero, List.set_cons_succ, i64_w, i32_w]
                rfl
              refine pure_ (i := 13) (N := some 178) (v := ?_) (a' := ?_) #[true, true, true, true, true, true, true, true, true, true, true, true, true, true, false, false, false, false, false, false, false, false, false, false, false, false, false] rfl rfl (by kernel_rfl) (fun _ _ _ h => h) (Or.inl ⟨by rfl, ?_⟩) ?_ ?_
              rotate_left
              · intro w'
                go_simp
                with_reducible rfl
              rotate_left
              · simp only [Act.put, List.setIfInBounds_toArray, List.set_cons_zero, List.set_cons_succ, i64_w, i32_w]
                rfl
              refine pure_ (i := 14) (N := some 179) (v := ?_) (a' := ?_) #[true, true, true, true, true, true, true, true, true, true, true, true, true, true, true, false, false, false, false, false, false, false, false, false, false, false, false] rfl rfl (by kernel_rfl) (fun _ _ _ h => h) (Or.inl ⟨by rfl, ?_⟩) ?_ ?_
              rotate_left
              · intro w'
                go_simp
                with_reducible rfl
              rotate_left
              · simp only [Act.put, List.setIfInBounds_toArray, List.set_cons_zero, List.set_cons_succ, i64_w, i32_w]
                rfl
              refine take_ (i := 15) (N := some 180) (v := ?_) (a' := ?_) #[true, true, true, true, true, true, true, true, true, true, true, true, true, true, true, true, false, false, false, false, false, false, false, false, false, false, false] rfl rfl (by kernel_rfl) (fun _ _ _ h => h) (Or.inl ⟨by rfl, ?_⟩) hHeld ?_ ?_
              rotate_left
              · rintro w' ⟨s0, s1, s2⟩
                go_simp
                with_reducible rfl
              rotate_left
              · simp only [Act.put, List.setIfInBounds_toArray, List.set_cons_zero, List.set_cons_succ, i64_w, i32_w]
                rfl
              refine pure_ (i := 16) (N := some 181) (v := ?_) (a' := ?_) #[true, true, true, true, true, true, true, true, true, true, true, true, true, true, true, true, true, false, false, false, false, false, false, false, false, false, false] rfl rfl (by kernel_rfl) (fun _ _ _ h => h) (Or.inl ⟨by rfl, ?_⟩) ?_ ?_
              rotate_left
              · intro w'
                go_simp
                with_reducible rfl
              rotate_left
              · simp only [Act.put, List.setIfInBounds_toArray, List.set_cons_zero, List.set_cons_succ, i64_w, i32_w]
                rfl
              refine pure_ (i := 17) (N := some 182) (v := ?_) (a' := ?_) #[true, true, true, true, true, true, true, true, true, true, true, true, true, true, true, true, true, true, false, false, false, false, false, false, false, false, false] rfl rfl (by kernel_rfl) (fun _ _ _ h => h) (Or.inl ⟨by rfl, ?_⟩) ?_ ?_
              rotate_left
              · intro w'
                go_simp
                with_reducible rfl
              rotate_left
              · simp only [Act.put, List.setIfInBounds_toArray, List.set_cons_zero, List.set_cons_succ, i64_w, i32_w]
                rfl
              refine pure_ (i := 18) (N := some 183) (v := ?_) (a' := ?_) #[true, true, true, true, true, true, true, true, true, true, true, true, true, true, true, true, true, true, true, false, false, false, false, false, false, false, false] rfl rfl (by kernel_rfl) (fun _ _ _ h => h) (Or.inl ⟨by rfl, ?_⟩) ?_ ?_
              rotate_left
              · intro w'
                go_simp
                with_reducible rfl
              rotate_left
              · simp only [Act.put, List.setIfInBounds_toArray, List.set_cons_zero, List.set_cons_succ, i64_w, i32_w]
                rfl
              refine take_ (i := 19) (N := some 184) (v := ?_) (a' := ?_) #[true, true, true, true, true, true, true, true, true, true, true, true, true, true, true, true, true, true, true, true, false, false, false, false, false, false, false] rfl rfl (by kernel_rfl) (fun _ _ _ h => h) (Or.inl ⟨by rfl, ?_⟩) hHeld ?_ ?_
              rotate_left
              · rintro w' ⟨s0, s1, s2⟩
                go_simp
                with_reducible rfl
              rotate_left
              · simp only [Act.put, List.setIfInBounds_toArray, List.set_cons_zero, List.set_cons_succ, i64_w, i32_w]
                rfl
              refine pure_ (i := 20) (N := some 185) (v := ?_) (a' := ?_) #[true, true, true, true, true, true, true, true, true, true, true, true, true, true, true, true, true, true, true, true, true, false, false, false, false, false, false] rfl rfl (by kernel_rfl) (fun _ _ _ h => h) (Or.inl ⟨by rfl, ?_⟩) ?_ ?_
              rotate_left
              · intro w'
                go_simp
                with_reducible rfl
              rotate_left
              · simp only [Act.put, List.setIfInBounds_toArray, List.set_cons_zero, List.set_cons_succ, i64_w, i32_w]
                rfl
              refine pure_ (i := 21) (N := some 186) (v := ?_) (a' := ?_) #[true, true, true, true, true, true, true, true, true, true, true, true, true, true, true, true, true, true, true, true, true, true, false, false, false, false, false] rfl rfl (by kernel_rfl) (fun _ _ _ h => h) (Or.inl ⟨by rfl, ?_⟩) ?_ ?_
              rotate_left
              · intro w'
                go_simp
                with_reducible rfl
              rotate_left
              · simp only [Act.put, List.setIfInBounds_toArray, List.set_cons_zero, List.set_cons_succ, i64_w, i32_w]
                rfl
              refine pure_ (i := 22) (N := some 187) (v := ?_) (a' := ?_) #[true, true, true, true, true, true, true, true, true, true, true, true, true, true, true, true, true, true, true, true, true, true, true, false, false, false, false] rfl rfl (by kernel_rfl) (fun _ _ _ h => h) (Or.inl ⟨by rfl, ?_⟩) ?_ ?_
              rotate_left
              · intro w'
                go_simp
                with_reducible rfl
              rotate_left
              · simp only [Act.put, List.setIfInBounds_toArray, List.set_cons_zero, List.set_cons_succ, i64_w, i32_w]
                rfl
              refine take_ (i := 23) (N := some 188) (v := ?_) (a' := ?_) #[true, true, true, true, true, true, true, true, true, true, true, true, true, true, true, true, true, true, true, true, true, true, true, true, false, false, false] rfl rfl (by kernel_rfl) (fun _ _ _ h => h) (Or.inl ⟨by rfl, ?_⟩) hHeld ?_ ?_
              rotate_left
              · rintro w' ⟨s0, s1, s2⟩
                go_simp
                with_reducible rfl
              rotate_left
              · simp only [Act.put, List.setIfInBounds_toArray, List.set_cons_zero, List.set_cons_succ, i64_w, i32_w]
                rfl
              refine pure_ (i := 24) (N := some 189) (v := ?_) (a' := ?_) #[true, true, true, true, true, true, true, true, true, true, true, true, true, true, true, true, true, true, true, true, true, true, true, true, true, false, false] rfl rfl (by kernel_rfl) (fun _ _ _ h => h) (Or.inl ⟨by rfl, ?_⟩) ?_ ?_
              rotate_left
              · intro w'
                go_simp
                with_reducible rfl
              rotate_left
              · simp only [Act.put, List.setIfInBounds_toArray, List.set_cons_zero, List.set_cons_succ, i64_w, i32_w]
                rfl
              refine pure_ (i := 25) (N := some 190) (v := ?_) (a' := ?_) #[true, true, true, true, true, true, true, true, true, true, true, true, true, true, true, true, true, true, true, true, true, true, true, true, true, true, false] rfl rfl (by kernel_rfl) (fun _ _ _ h => h) (Or.inl ⟨by rfl, ?_⟩) ?_ ?_
              rotate_left
              · intro w'
                go_simp
                with_reducible rfl
              rotate_left
              · simp only [Act.put, List.setIfInBounds_toArray, List.set_cons_zero, List.set_cons_succ, i64_w, i32_w]
                rfl
              refine pure_ (i := 26) (N := some 191) (v := ?_) (a' := ?_) #[true, true, true, true, true, true, true, true, true, true, true, true, true, true, true, true, true, true, true, true, true, true, true, true, true, true, true] rfl rfl (by kernel_rfl) (fun _ _ _ h => h) (Or.inl ⟨by rfl, ?_⟩) ?_ ?_
              rotate_left
              · intro w'
                go_simp
                with_reducible rfl
              rotate_left
              · simp only [Act.put, List.setIfInBounds_toArray, List.set_cons_zero, List.set_cons_succ, i64_w, i32_w]
                rfl
              refine done_ (by kernel_rfl) ?_
              go_wp2
              refine ⟨⟨k + 1, ⟨by omega⟩, by go_num, ⟨below_drew1 HBi.out⟩⟩, ?_⟩
              simp [intOf]; omega
          · have hke : k = yl := by have := hk.out; omega
            subst hke
            go_wp2
            refine ⟨⟨i + 1, ⟨by omega⟩, by go_num, HBR⟩, ?_⟩
            simp [intOf]; omega
      · have hie : n = i := by have := hi.out; omega
        subst hie
        have HBW := Aside0.mk (below_then HBz.out HBz.out.size HBR.out)
        have HCw := Aside0.mk (Kd.C_below HCz.out HBR.out)
        have Kw := Aside0.mk (blk_below Kz.out HBR.out)
        by_cases hcd : isCodeB (n : Int) (s : Int) cd = true
        case neg =>
          have H22c := Aside0.mk fun w1 (h1 : Below w.heap.size w w1) => codes_Fits.calls n s A1 c1 l A2 c2 cd 0 false 12 w1 (Kd.C_below G1.out h1) e1 (Kd.C_below G2.out h1) e2 (by rw [Fits_eq, HFIT0.out cd hcd])
          clear hcd
          go_wp2_with (first
            | (go_at_call 22; refine (H22c.out _ HBW.out).mono ?_; rintro e wh ⟨rfl, hb⟩; have HBh := Aside0.mk (below_then HBW.out HBW.out.size hb); clear hb)
            | (go_at_call 20; refine (padlocklaw01_works.calls true _ rfl).mono ?_; rintro e wz ⟨rfl, hb4⟩))
          go_ret
          exact ⟨rfl, below_then HBh.out HBh.out.size hb4⟩
        case pos =>
          have hfc := HFIT.out cd hcd
          obtain ⟨ix, hix⟩ : ∃ ix, ix = idxI (fun q => !holdsC q cd) l := ⟨_, rfl⟩
          rw [← hix] at hfc
          by_cases hfa : fitsAll l cd = true
          case neg =>
            rw [Bool.eq_false_iff.mpr hfa] at hfc
            have H22c := Aside0.mk fun w1 (h1 : Below w.heap.size w w1) => codes_Fits.calls n s A1 c1 l A2 c2 cd ix false 0 w1 (Kd.C_below G1.out h1) e1 (Kd.C_below G2.out h1) e2 (by rw [Fits_eq, hfc])
            clear hcd hfc hix hfa
            go_wp2_with (first
              | (go_at_call 22; refine (H22c.out _ HBW.out).mono ?_; rintro e wh ⟨rfl, hb⟩; have HBh := Aside0.mk (below_then HBW.out HBW.out.size hb); clear hb)
              | (go_at_call 20; refine (padlocklaw01_works.calls true _ rfl).mono ?_; rintro e wz ⟨rfl, hb4⟩))
            go_ret
            exact ⟨rfl, below_then HBh.out HBh.out.size hb4⟩
          case pos =>
            rw [hfa] at hfc
            have HCM := Aside0.mk ((HMEM.out cd hcd).1 hfa)
            have HCL := Aside0.mk (isCodeB_iff.1 hcd).1
            have H22c := Aside0.mk fun w1 (h1 : Below w.heap.size w w1) => codes_Fits.calls n s A1 c1 l A2 c2 cd ix true 0 w1 (Kd.C_below G1.out h1) e1 (Kd.C_below G2.out h1) e2 (by rw [Fits_eq, hfc])
            have H29' := H29.out
            simp only [if_pos HL.out, if_pos hcd] at H29'
            have H29c := Aside0.mk H29'
            clear hcd hfc hix hfa H29'
            go_wp2_with (first
              | (go_at_call 22; refine (H22c.out _ HBW.out).mono ?_; rintro e wh ⟨rfl, hb⟩; have HBh := Aside0.mk (below_then HBW.out HBW.out.size hb); have HCh := Aside0.mk (Kd.C_below HCw.out hb); have Kh := Aside0.mk (blk_below Kw.out hb); clear hb a0 a1; obtain ⟨a0, a1⟩ := cells2 Kh.out)
              | (go_at_call 29; refine (H29c.out _ HBh.out).mono ?_; rintro e wk ⟨rfl, hb⟩; have HBk := Aside0.mk (below_then HBh.out HBh.out.size hb); have HCk := Aside0.mk (Kd.C_below HCh.out hb); have Kk := Aside0.mk (blk_below Kh.out hb); clear hb a0 a1))
            clear HBh HCh Kh HBW HCw Kw HBR hi hlt
            go_loopw [27] (fun v27 wr => ∃ i : Nat, Aside0 (i ≤ n) ∧ v27 = .int .i64 i ∧ Aside0 (Below wk.heap.size wk wr)) (fun v27 _ => n - (intOf v27).toNat)
            case atStart => exact ⟨0, ⟨Nat.zero_le _⟩, rfl, ⟨Below.refl _ _⟩⟩
            case round =>
              obtain ⟨i, hi, rfl, HBR⟩ := hrel
              obtain ⟨a0, a1⟩ := cells2 (blk_below Kk.out HBR.out)
              obtain ⟨wo2, hwo2⟩ : ∃ wo2, wo2 = wr := ⟨_, rfl⟩
              subst hwo2
              by_cases hlt : i < n
              · obtain ⟨ad, Ay, cy, e0, hcy, hly, hiy⟩ := at_L2 HCk.out (i : Int) (by omega) (by omega)
                subst e0
                rw [HROW.out i hlt] at hcy hly hiy
                rw [Int.toNat_natCast] at hcy
                obtain ⟨adc, ec, hcc⟩ := Kd.at_int G2.out (i : Int) (by omega) (by have := HCL.out; omega)
                subst ec
                rw [Int.toNat_natCast] at hcc
                have HXM := Aside0.mk (hone.out cd HCM.out i hlt)
                obtain ⟨x, hx⟩ : ∃ x, x = rd cd (i : Int) := ⟨_, rfl⟩
                rw [← hx] at hcc HXM
                have HCC := Aside0.mk hcc
                have hcr := (HBR.out.cell (World.block_lt_of_cell? wk _ hcy)).trans hcy
                have HCY := Aside0.mk hcy
                have HIY := Aside0.mk hiy
                have hyl10 := HYL.out i
                obtain ⟨yl, hyl⟩ : ∃ yl, yl = (Y i).length := ⟨_, rfl⟩
                have HYE := Aside0.mk hyl
                rw [← hyl] at hcr hly hyl10
                clear hyl hcy hiy hcc hx
                go_wp2
                clear a0 a1 hcr
                go_loopw [28, 29] (fun v28 v29 wr => ∃ (k : Nat) (b : Bool), Aside0 (k ≤ yl) ∧ v29 = .int .i64 k ∧ v28 = .bool b ∧ Aside0 (b = decide (x ∈ (Y i).take k)) ∧ Aside0 (Below wk.heap.size wk wr)) (fun _ v29 _ => yl - (intOf v29).toNat)
                case atStart => exact ⟨0, false, ⟨Nat.zero_le _⟩, rfl, rfl, ⟨by simp⟩, HBR⟩
                case round =>
                  clear HBR
                  obtain ⟨k, b, hk, rfl, rfl, HBI, HBR⟩ := hrel
                  have hcr : wr.cell? (ad.add i) = some (.slice Ay yl cy) := by rw [HYE.out]; exact (HBR.out.cell (World.block_lt_of_cell? wk _ HCY.out)).trans HCY.out
                  by_cases hlt2 : k < yl
                  · have hkY : k < (Y i).length := by rw [← HYE.out]; exact hlt2
                    obtain ⟨ady, e1, hce⟩ := Kd.at_int HIY.out (k : Int) (by omega) (by omega)
                    subst e1
                    rw [Int.toNat_natCast, rd_get _ k hkY] at hce
                    replace hce := (HBR.out.cell (World.block_lt_of_cell? wk _ hce)).trans hce
                    have hnext := one_next (Y i) x k hkY
                    rw [← HBI.out] at hnext
                    obtain ⟨yy, hyy⟩ : ∃ yy, yy = (Y i)[k] := ⟨_, rfl⟩
                    rw [← hyy] at hce hnext
                    have HN := Aside0.mk hnext
                    have hcx : wr.cell? (adc.add i) = some (.int .i64 x) := ((below_then HBk.out HBk.out.size HBR.out).cell (World.block_lt_of_cell? w _ HCC.out)).trans HCC.out
                    have hcdl := HCL.out
                    have hil : i < cd.length := by omega
                    clear hyy hnext hcdl
                    go_wp2
                    cases b
                    · skip
                      refine start_ (n := 16) (S := fun w' => w'.cell? (ad.add i) = some (.slice (some ady) yl cy) ∧ w'.cell? (ady.add k) = some (.int .i64 yy) ∧ w'.cell? (adc.add i) = some (.int .i64 x)) (ds := []) #[false, false, false, false, false, false, false, false, false, false, false, false, false, false, false, false] (by kernel_rfl) rfl rfl ⟨hcr, hce, hcx⟩ (fun hHeld => ?_)
                      refine pure_ (i := 0) (N := some 228) (v := ?_) (a' := ?_) #[true, false, false, false, false, false, false, false, false, false, false, false, false, false, false, false] rfl rfl (by kernel_rfl) (fun _ _ _ h => h) (Or.inl ⟨by rfl, ?_⟩) ?_ ?_
                      rotate_left
                      · intro w'
                        go_simp
                        with_reducible rfl
                      rotate_left
                      · simp only [Act.put, List.setIfInBounds_toArray, List.set_cons_zero, List.set_cons_succ, i64_w, i32_w]
                        rfl
                      refine pure_ (i := 1) (N := some 229) (v := ?_) (a' := ?_) #[true, true, false, false, false, false, false, false, false, false, false, false, false, false, false, false] rfl rfl (by kernel_rfl) (fun _ _ _ h => h) (Or.inl ⟨by rfl, ?_⟩) ?_ ?_
                      rotate_left
                      · intro w'
                        go_simp
                        with_reducible rfl
                      rotate_left
                      · simp only [Act.put, List.setIfInBounds_toArray, List.set_cons_zero, List.set_cons_succ, i64_w, i32_w]
                        rfl
                      refine pure_ (i := 2) (N := some 230) (v := ?_) (a' := ?_) #[true, true, true, false, false, false, false, false, false, false, false, false, false, false, false, false] rfl rfl (by kernel_rfl) (fun _ _ _ h => h) (Or.inl ⟨by rfl, ?_⟩) ?_ ?_
                      rotate_left
                      · intro w'
                        go_simp
                        with_reducible rfl
                      rotate_left
                      · simp only [Act.put, List.setIfInBounds_toArray, List.set_cons_zero, List.set_cons_succ, i64_w, i32_w]
                        rfl
                      refine pure_ (i := 3) (N := some 231) (v := ?_) (a' := ?_) #[true, true, true, true, false, false, false, false, false, false, false, false, false, false, false, false] rfl rfl (by kernel_rfl) (fun _ _ _ h => h) (Or.inl ⟨by rfl, ?_⟩) ?_ ?_
                      rotate_left
                      · intro w'
                        go_simp
                        with_reducible rfl
                      rotate_left
                      · simp only [Act.put, List.setIfInBounds_toArray, List.set_cons_zero, List.set_cons_succ, i64_w, i32_w]
                        rfl
                      refine pure_ (i := 4) (N := some 232) (v := ?_) (a' := ?_) #[true, true, true, true, true, false, false, false, false, false, false, false, false, false, false, false] rfl rfl (by kernel_rfl) (fun _ _ _ h => h) (Or.inl ⟨by rfl, ?_⟩) ?_ ?_
                      rotate_left
                      · intro w'
                        go_simp
                        with_reducible rfl
                      rotate_left
                      · simp only [Act.put, List.setIfInBounds_toArray, List.set_cons_zero, List.set_cons_succ, i64_w, i32_w]
                        rfl
                      refine take_ (i := 5) (N := some 233) (v := ?_) (a' := ?_) #[true, true, true, true, true, true, false, false, false, false, false, false, false, false, false, false] rfl rfl (by kernel_rfl) (fun _ _ _ h => h) (Or.inl ⟨by rfl, ?_⟩) hHeld ?_ ?_
                      rotate_left
                      · rintro w' ⟨s0, s1, s2⟩
                        go_simp
                        with_reducible rfl
                      rotate_left
                      · simp only [Act.put, List.setIfInBounds_toArray, List.set_cons_zero, List.set_cons_succ, i64_w, i32_w]
                        rfl
                      refine pure_ (i := 6) (N := some 234) (v := ?_) (a' := ?_) #[true, true, true, true, true, true, true, false, false, false, false, false, false, false, false, false] rfl rfl (by kernel_rfl) (fun _ _ _ h => h) (Or.inl ⟨by rfl, ?_⟩) ?_ ?_
                      rotate_left
                      · intro w'
                        go_simp
                        with_reducible rfl
                      rotate_left
                      · simp only [Act.put, List.setIfInBounds_toArray, List.set_cons_zero, List.set_cons_succ, i64_w, i32_w]
                        rfl
                      refine pure_ (i := 7) (N := some 235) (v := ?_) (a' := ?_) #[true, true, true, true, true, true, true, true, false, false, false, false, false, false, false, false] rfl rfl (by kernel_rfl) (fun _ _ _ h => h) (Or.inl ⟨by rfl, ?_⟩) ?_ ?_
                      rotate_left
                      · intro w'
                        go_simp
                        with_reducible rfl
                      rotate_left
                      · simp only [Act.put, List.setIfInBounds_toArray, List.set_cons_zero, List.set_cons_succ, i64_w, i32_w]
                        rfl
                      refine take_ (i := 8) (N := some 236) (v := ?_) (a' := ?_) #[true, true, true, true, true, true, true, true, true, false, false, false, false, false, false, false] rfl rfl (by kernel_rfl) (fun _ _ _ h => h) (Or.inl ⟨by rfl, ?_⟩) hHeld ?_ ?_
                      rotate_left
                      · rintro w' ⟨s0, s1, s2⟩
                        go_simp
                        with_reducible rfl
                      rotate_left
                      · simp only [Act.put, List.setIfInBounds_toArray, List.set_cons_zero, List.set_cons_succ, i64_w, i32_w]
                        rfl
                      refine pure_ (i := 9) (N := some 237) (v := ?_) (a' := ?_) #[true, true, true, true, true, true, true, true, true, true, false, false, false, false, false, false] rfl rfl (by kernel_rfl) (fun _ _ _ h => h) (Or.inl ⟨by rfl, ?_⟩) ?_ ?_
                      rotate_left
                      · intro w'
                        go_simp
                        with_reducible rfl
                      rotate_left
                      · simp only [Act.put, List.setIfInBounds_toArray, List.set_cons_zero, List.set_cons_succ, i64_w, i32_w]
                        rfl
                      refine pure_ (i := 10) (N := some 238) (v := ?_) (a' := ?_) #[true, true, true, true, true, true, true, true, true, true, true, false, false, false, false, false] rfl rfl (by kernel_rfl) (fun _ _ _ h => h) (Or.inl ⟨by rfl, ?_⟩) ?_ ?_
                      rotate_left
                      · intro w'
                        go_simp
                        with_reducible rfl
                      rotate_left
                      · simp only [Act.put, List.setIfInBounds_toArray, List.set_cons_zero, List.set_cons_succ, i64_w, i32_w]
                        rfl
                      refine pure_ (i := 11) (N := some 239) (v := ?_) (a' := ?_) #[true, true, true, true, true, true, true, true, true, true, true, true, false, false, false, false] rfl rfl (by kernel_rfl) (fun _ _ _ h => h) (Or.inl ⟨by rfl, ?_⟩) ?_ ?_
                      rotate_left
                      · intro w'
                        go_simp
                        with_reducible rfl
                      rotate_left
                      · simp only [Act.put, List.setIfInBounds_toArray, List.set_cons_zero, List.set_cons_succ, i64_w, i32_w]
                        rfl
                      refine take_ (i := 12) (N := some 240) (v := ?_) (a' := ?_) #[true, true, true, true, true, true, true, true, true, true, true, true, true, false, false, false] rfl rfl (by kernel_rfl) (fun _ _ _ h => h) (Or.inl ⟨by rfl, ?_⟩) hHeld ?_ ?_
                      rotate_left
                      · rintro w' ⟨s0, s1, s2⟩
                        go_simp
                        with_reducible rfl
                      rotate_left
                      · simp only [Act.put, List.setIfInBounds_toArray, List.set_cons_zero, List.set_cons_succ, i64_w, i32_w]
                        rfl
                      refine pure_ (i := 13) (N := some 241) (v := ?_) (a' := ?_) #[true, true, true, true, true, true, true, true, true, true, true, true, true, true, false, false] rfl rfl (by kernel_rfl) (fun _ _ _ h => h) (Or.inl ⟨by rfl, ?_⟩) ?_ ?_
                      rotate_left
                      · intro w'
                        go_simp
                        with_reducible rfl
                      rotate_left
                      · simp only [Act.put, List.setIfInBounds_toArray, List.set_cons_zero, List.set_cons_succ, i64_w, i32_w]
                        rfl
                      refine pure_ (i := 14) (N := some 242) (v := ?_) (a' := ?_) #[true, true, true, true, true, true, true, true, true, true, true, true, true, true, true, false] rfl rfl (by kernel_rfl) (fun _ _ _ h => h) (Or.inl ⟨by rfl, ?_⟩) ?_ ?_
                      rotate_left
                      · intro w'
                        go_simp
                        with_reducible rfl
                      rotate_left
                      · simp only [Act.put, List.setIfInBounds_toArray, List.set_cons_zero, List.set_cons_succ, i64_w, i32_w]
                        rfl
                      refine pure_ (i := 15) (N := some 28) (v := ?_) (a' := ?_) #[true, true, true, true, true, true, true, true, true, true, true, true, true, true, true, true] rfl rfl (by kernel_rfl) (fun _ _ _ h => h) (Or.inl ⟨by rfl, ?_⟩) ?_ ?_
                      rotate_left
                      · intro w'
                        go_simp
                        with_reducible rfl
                      rotate_left
                      · simp only [Act.put, List.setIfInBounds_toArray, List.set_cons_zero, List.set_cons_succ, i64_w, i32_w]
                        rfl
                      refine done_ (by kernel_rfl) ?_
                      go_wp2
                      refine ⟨⟨k + 1, (yy == x), ⟨by omega⟩, by go_num, rfl, ⟨by rw [HN.out]; rfl⟩, ⟨below_drew1 HBR.out⟩⟩, ?_⟩
                      simp [intOf]; omega
                    · skip
                      refine start_ (n := 16) (S := fun _ => True) (ds := []) #[false, false, false, false, false, false, false, false, false, false, false, false, false, false, false, false] (by kernel_rfl) rfl rfl trivial (fun hHeld => ?_)
                      refine pure_ (i := 0) (N := some 228) (v := ?_) (a' := ?_) #[true, false, false, false, false, false, false, false, false, false, false, false, false, false, false, false] rfl rfl (by kernel_rfl) (fun _ _ _ h => h) (Or.inl ⟨by rfl, ?_⟩) ?_ ?_
                      rotate_left
                      · intro w'
                        go_simp
                        with_reducible rfl
                      rotate_left
                      · simp only [Act.put, List.setIfInBounds_toArray, List.set_cons_zero, List.set_cons_succ, i64_w, i32_w]
                        rfl
                      refine pure_ (i := 1) (N := some 229) (v := ?_) (a' := ?_) #[true, true, false, false, false, false, false, false, false, false, false, false, false, false, false, false] rfl rfl (by kernel_rfl) (fun _ _ _ h => h) (Or.inl ⟨by rfl, ?_⟩) ?_ ?_
                      rotate_left
                      · intro w'
                        go_simp
                        with_reducible rfl
                      rotate_left
                      · simp only [Act.put, List.setIfInBounds_toArray, List.set_cons_zero, List.set_cons_succ, i64_w, i32_w]
                        rfl
                      refine pure_ (i := 2) (N := some 230) (v := undef) (a' := ?_) #[true, true, true, false, false, false, false, false, false, false, false, false, false, false, false, false] rfl rfl (by kernel_rfl) (fun _ _ _ h => h) (Or.inr ⟨by rfl, rfl⟩) ?_ ?_
                      rotate_left
                      · simp only [Act.put, List.setIfInBounds_toArray, List.set_cons_zero, List.set_cons_succ, i64_w, i32_w]
                        rfl
                      refine pure_ (i := 3) (N := some 231) (v := undef) (a' := ?_) #[true, true, true, true, false, false, false, false, false, false, false, false, false, false, false, false] rfl rfl (by kernel_rfl) (fun _ _ _ h => h) (Or.inr ⟨by rfl, rfl⟩) ?_ ?_
                      rotate_left
                      · simp only [Act.put, List.setIfInBounds_toArray, List.set_cons_zero, List.set_cons_succ, i64_w, i32_w]
                        rfl
                      refine pure_ (i := 4) (N := some 232) (v := undef) (a' := ?_) #[true, true, true, true, true, false, false, false, false, false, false, false, false, false, false, false] rfl rfl (by kernel_rfl) (fun _ _ _ h => h) (Or.inr ⟨by rfl, rfl⟩) ?_ ?_
                      rotate_left
                      · simp only [Act.put, List.setIfInBounds_toArray, List.set_cons_zero, List.set_cons_succ, i64_w, i32_w]
                        rfl
                      refine pure_ (i := 5) (N := some 233) (v := undef) (a' := ?_) #[true, true, true, true, true, true, false, false, false, false, false, false, false, false, false, false] rfl rfl (by kernel_rfl) (fun _ _ _ h => h) (Or.inr ⟨by rfl, rfl⟩) ?_ ?_
                      rotate_left
                      · simp only [Act.put, List.setIfInBounds_toArray, List.set_cons_zero, List.set_cons_succ, i64_w, i32_w]
                        rfl
                      refine pure_ (i := 6) (N := some 234) (v := undef) (a' := ?_) #[true, true, true, true, true, true, true, false, false, false, false, false, false, false, false, false] rfl rfl (by kernel_rfl) (fun _ _ _ h => h) (Or.inr ⟨by rfl, rfl⟩) ?_ ?_
                      rotate_left
                      · simp only [Act.put, List.setIfInBounds_toArray, List.set_cons_zero, List.set_cons_succ, i64_w, i32_w]
                        rfl
                      refine pure_ (i := 7) (N := some 235) (v := undef) (a' := ?_) #[true, true, true, true, true, true, true, true, false, false, false, false, false, false, false, false] rfl rfl (by kernel_rfl) (fun _ _ _ h => h) (Or.inr ⟨by rfl, rfl⟩) ?_ ?_
                      rotate_left
                      · simp only [Act.put, List.setIfInBounds_toArray, List.set_cons_zero, List.set_cons_succ, i64_w, i32_w]
                        rfl
                      refine pure_ (i := 8) (N := some 236) (v := undef) (a' := ?_) #[true, true, true, true, true, true, true, true, true, false, false, false, false, false, false, false] rfl rfl (by kernel_rfl) (fun _ _ _ h => h) (Or.inr ⟨by rfl, rfl⟩) ?_ ?_
                      rotate_left
                      · simp only [Act.put, List.setIfInBounds_toArray, List.set_cons_zero, List.set_cons_succ, i64_w, i32_w]
                        rfl
                      refine pure_ (i := 9) (N := some 237) (v := undef) (a' := ?_) #[true, true, true, true, true, true, true, true, true, true, false, false, false, false, false, false] rfl rfl (by kernel_rfl) (fun _ _ _ h => h) (Or.inr ⟨by rfl, rfl⟩) ?_ ?_
                      rotate_left
                      · simp only [Act.put, List.setIfInBounds_toArray, List.set_cons_zero, List.set_cons_succ, i64_w, i32_w]
                        rfl
                      refine pure_ (i := 10) (N := some 238) (v := undef) (a' := ?_) #[true, true, true, true, true, true, true, true, true, true, true, false, false, false, false, false] rfl rfl (by kernel_rfl) (fun _ _ _ h => h) (Or.inr ⟨by rfl, rfl⟩) ?_ ?_
                      rotate_left
                      · simp only [Act.put, List.setIfInBounds_toArray, List.set_cons_zero, List.set_cons_succ, i64_w, i32_w]
                        rfl
                      refine pure_ (i := 11) (N := some 239) (v := undef) (a' := ?_) #[true, true, true, true, true, true, true, true, true, true, true, true, false, false, false, false] rfl rfl (by kernel_rfl) (fun _ _ _ h => h) (Or.inr ⟨by rfl, rfl⟩) ?_ ?_
                      rotate_left
                      · simp only [Act.put, List.setIfInBounds_toArray, List.set_cons_zero, List.set_cons_succ, i64_w, i32_w]
                        rfl
                      refine pure_ (i := 12) (N := some 240) (v := undef) (a' := ?_) #[true, true, true, true, true, true, true, true, true, true, true, true, true, false, false, false] rfl rfl (by kernel_rfl) (fun _ _ _ h => h) (Or.inr ⟨by rfl, rfl⟩) ?_ ?_
                      rotate_left
                      · simp only [Act.put, List.setIfInBounds_toArray, List.set_cons_zero, List.set_cons_succ, i64_w, i32_w]
                        rfl
                      refine pure_ (i := 13) (N := some 241) (v := undef) (a' := ?_) #[true, true, true, true, true, true, true, true, true, true, true, true, true, true, false, false] rfl rfl (by kernel_rfl) (fun _ _ _ h => h) (Or.inr ⟨by rfl, rfl⟩) ?_ ?_
                      rotate_left
                      · simp only [Act.put, List.setIfInBounds_toArray, List.set_cons_zero, List.set_cons_succ, i64_w, i32_w]
                        rfl
                      refine pure_ (i := 14) (N := some 242) (v := ?_) (a' := ?_) #[true, true, true, true, true, true, true, true, true, true, true, true, true, true, true, false] rfl rfl (by kernel_rfl) (fun _ _ _ h => h) (Or.inl ⟨by rfl, ?_⟩) ?_ ?_
                      rotate_left
                      · intro w'
                        go_simp
                        with_reducible rfl
                      rotate_left
                      · simp only [Act.put, List.setIfInBounds_toArray, List.set_cons_zero, List.set_cons_succ, i64_w, i32_w]
                        rfl
                      refine pure_ (i := 15) (N := some 28) (v := ?_) (a' := ?_) #[true, true, true, true, true, true, true, true, true, true, true, true, true, true, true, true] rfl rfl (by kernel_rfl) (fun _ _ _ h => h) (Or.inl ⟨by rfl, ?_⟩) ?_ ?_
                      rotate_left
                      · intro w'
                        go_simp
                        with_reducible rfl
                      rotate_left
                      · simp only [Act.put, List.setIfInBounds_toArray, List.set_cons_zero, List.set_cons_succ, i64_w, i32_w]
                        rfl
                      refine done_ (by kernel_rfl) ?_
                      go_wp2
                      refine ⟨⟨k + 1, true, ⟨by omega⟩, by go_num, rfl, ⟨by rw [HN.out]; rfl⟩, ⟨below_drew1 HBR.out⟩⟩, ?_⟩
                      simp [intOf]; omega
                  · have hke : k = yl := by have := hk.out; omega
                    have hbt := HBI.out
                    rw [hke, HYE.out, List.take_length, decide_eq_true HXM.out] at hbt
                    subst hke
                    subst hbt
                    clear HBI
                    go_wp2
                    refine ⟨⟨i + 1, ⟨by omega⟩, by go_num, HBR⟩, ?_⟩
                    simp [intOf]; omega
              · have hie : n = i := by have := hi.out; omega
                subst hie
                have HBW := Aside0.mk (below_then HBk.out HBk.out.size HBR.out)
                obtain ⟨hf1, hf2, hf3⟩ := one_first HCM.out
                rw [← HT1.out] at hf1 hf2
                rw [← HN1.out] at hf3
                obtain ⟨f0, hf0⟩ : ∃ f0, f0 = al.getD 0 [] := ⟨_, rfl⟩
                rw [← hf0] at hf2 hf3
                obtain ⟨bs, hbs⟩ : ∃ bs, bs = decide (f0 = cd) := ⟨_, rfl⟩
                rw [← hbs] at hf3
                have hfl : f0.length ≤ 9223372036854775807 := by
                  rw [hf0]
                  exact ex_len _ n hw4 (isCodeB_iff.1 (HALL.out _ (by
                    have h0 := List.length_pos_of_mem HCM.out
                    rw [show al.getD 0 [] = al[0] by simp [List.getD_eq_getElem?_getD, List.getElem?_eq_getElem h0]]
                    exact List.getElem_mem _))).1
                obtain ⟨ks, hks⟩ := (SameInts_ev f0 cd hfl).rounds
                rw [← hbs] at hks
                have H21 := Aside0.mk fun A c w1 (h1 : Below w.heap.size w w1) hC hle => padlockref01_SameInts.calls ks A c f0 A2 c2 cd bs w1 hC hle (Kd.C_below G2.out h1) e2 hks
                have HF1 := Aside0.mk hf1
                have HF2 := Aside0.mk hf2
                clear hf1 hf2 hf0 hbs hfl hks
                cases bs
                all_goals
                  first
                    | (exfalso; rw [d8n] at hf3; exact absurd hf3 (by decide))
                    | (clear hf3
                       go_wp2_with (first
                         | (go_at_call 36; refine (H36.out _ HBW.out).mono ?_; rintro e wv ⟨v, rfl, ho, hb⟩; obtain ⟨Av, cv, rfl, hlv, hcv⟩ := Kd.R_reads ho; rw [HF1.out] at hlv hcv ⊢; have HBv := Aside0.mk (below_then HBW.out HBW.out.size hb); obtain ⟨adf, Af, cf, ef, hcf, hlf, hif⟩ := at_L2 hcv ((0 : Nat) : Int) (by omega) (by omega); subst ef; rw [HF2.out] at hcf hlf hif; replace hcf : wv.cell? adf = some (.slice Af f0.length cf) := hcf; have HLF := Aside0.mk hlf; have HIF := Aside0.mk hif; clear ho hb hlv hcv hlf hif)
                         | (go_at_call 21; refine (H21.out _ _ _ HBv.out HIF.out HLF.out).mono ?_; rintro e wu ⟨rfl, ⟨⟨mu, rfl⟩⟩⟩; have HBu := Aside0.mk (pw_below_drewN HBv.out mu))
                         | (go_at_call 20; refine (padlocklaw01_works.calls true _ rfl).mono ?_; rintro e wz ⟨rfl, hb4⟩))
                       go_ret
                       first
                         | exact ⟨rfl, below_then HBu.out HBu.out.size hb4⟩
                         | exact ⟨rfl, below_then HBv.out HBv.out.size hb4⟩)
end Go.Proofs.Ytimkchehdaadeaa.P
