/- codes' Next: the reading to be tried next. -/
import Derived.Test.YtimkchehdaadeaaHNext0
import Derived.Test.YtimkchehdaadeaaHAll
import Derived.Lib.SliceRun
import Derived.RegionTactic
import Derived.BigRegion
import Derived.ChangeAlike
namespace Go.Proofs.Ytimkchehdaadeaa.P
open Go.RowKit Go.Shelf Go.Proofs.YtimkchehdaadeaaW.PrintWords Go.Proofs.YtimkchehdaadeaaW.PrintLast Go.Proofs.YtimkchehdaadeaaW.PrintMore
set_option linter.unusedVariables false
set_option linter.unusedSimpArgs false

theorem ansOf_lt {n s : Nat} (hn : n ≤ 4) (hs : s ≤ 10) {c x : List Int} (hc : c ∈ allCodes s n) (hs0 : 0 < s) : (ansOf x c).1 < 5 ∧ (ansOf x c).2 < 5 := by
  have hcl := (isCodeB_iff.1 (allCodes_isCode hs0 hc)).1
  have h1 := rightTo_len c x
  have h2 := commonTo_le c x 10
  unfold ansOf
  constructor <;> simp only <;> omega

theorem rdL_get' (l : List (List Int)) (i : Nat) (h : i < l.length) : rd_L2 l i = l[i] := by simp [rd_L2, List.getD_eq_getElem?_getD, List.getElem?_eq_getElem h]

set_option maxHeartbeats 8000000 in
set_option maxRecDepth 100000 in
theorem codes_Next.calls (a0_0 : Int) (a0_1 : Int) (A1 : Option Addr) (c1 : Nat) (l1 : List S36) (r1 : List Int) (r2 r3 : Int) (w : World) (hr1 : Kd.C k36 w A1 l1.length l1) (hc1 : l1.length ≤ c1) (h : nextS a0_0 a0_1 l1 = (r1, r2, r3)) :
    Calls Try.prog 43 #[.agg #[.int .i64 a0_0, .int .i64 a0_1], .slice A1 l1.length c1] w fun e w' => ∃ (A : Option Addr) (c : Nat), e = .returned (.tuple #[.slice A r1.length c, .int .i64 r2, .int .i64 r3]) ∧ r1.length ≤ c ∧ Kd.C (Kd.int .i64) w' A r1.length r1 ∧ Below w.heap.size w w' := by
  have hu23 := Try.underlying23
  have hu24 := Try.underlying24
  have hb0 := blk_new w (.cells #[.int .i64 a0_0, .int .i64 a0_1] 23)
  have hB0 := (Below.refl w.heap.size w).alloc (Nat.le_refl _) (.cells #[.int .i64 a0_0, .int .i64 a0_1] 23)
  have C62 := Aside0.mk (codes_checkClues.calls a0_0 a0_1 A1 c1 l1 _ _ (Kd.C_below hr1 hB0) hc1 (checkClues_eq a0_0 a0_1 l1))
  have HB0 := Aside0.mk hB0
  have K0 := Aside0.mk hb0
  have H := h
  clear hb0 hB0 h
  unfold nextS at H
  by_cases he : checkCluesS a0_0 a0_1 l1 = 0
  case neg =>
    rw [if_neg he] at H
    have hne : (checkCluesS a0_0 a0_1 l1 != 0) = true := bne_iff_ne.mpr he
    obtain ⟨e1, he1⟩ : ∃ e1, e1 = checkCluesS a0_0 a0_1 l1 := ⟨_, rfl⟩
    rw [← he1] at H C62 hne
    clear he he1 hr1
    simp only [Prod.mk.injEq] at H
    obtain ⟨rfl, rfl, rfl⟩ := H
    go_enter Try.func43, Try.ntmps43
    go_wp2_with (first | (go_at_call 62; refine C62.out.mono ?_; rintro e w6 ⟨rfl, h6⟩))
    go_ret3
    exact ⟨none, 0, rfl, Nat.le_refl 0, Kd.C_nil _ _, below_then HB0.out HB0.out.size h6⟩
  obtain ⟨hl, hm, hv⟩ := checkClues_ok he
  rw [if_pos he] at H
  rw [he] at C62
  have C79 := Aside0.mk fun w1 (h1 : Below w.heap.size w w1) => codes_lock_all.calls a0_0 a0_1 A1 c1 l1 _ w1 (Kd.C_below hr1 h1) hc1 (by unfold codes_lock_all.f; rw [if_pos ⟨hl, hv⟩])
  obtain ⟨n, s, rfl, rfl, hn1, hn4, hs2, hs10⟩ := lock_nat hl
  simp only [Int.toNat_natCast] at H C79
  have hall : ∀ c ∈ readingsL s n l1, c ∈ allCodes s n := fun c hc => (List.mem_filter.1 hc).1
  obtain ⟨al, hal⟩ : ∃ al, al = readingsL s n l1 := ⟨_, rfl⟩
  rw [← hal] at H C79 hall
  have HALL := Aside0.mk hall
  clear hal hall he hl hv hr1
  by_cases h0 : al.length = 0
  · rw [if_pos h0] at H
    simp only [Prod.mk.injEq] at H
    obtain ⟨rfl, rfl, rfl⟩ := H
    have hd : ((al.length : Int) == 0) = true := by simp [h0]
    have H0 := Aside0.mk h0
    clear h0
    go_enter Try.func43, Try.ntmps43
    go_wp2_with (first | (go_at_call 62; refine C62.out.mono ?_; rintro e w6 ⟨rfl, h6⟩; obtain ⟨a0, a1⟩ := cells2 (blk_below K0.out h6); have HB6 := Aside0.mk (below_then HB0.out HB0.out.size h6); clear h6) | (go_at_call 79; refine (C79.out _ HB6.out).mono ?_; rintro e w7 ⟨v, rfl, ho, h7⟩; obtain ⟨Av, cv, rfl, hlv, hcv⟩ := Kd.R_reads ho; have HB7 := Aside0.mk (below_then HB6.out HB6.out.size h7); clear ho hcv h7))
    go_ret3
    exact ⟨none, 0, rfl, Nat.le_refl 0, Kd.C_nil _ _, HB7.out⟩
  rw [if_neg h0] at H
  have hd : ((al.length : Int) == 0) = false := beq_eq_false_iff_ne.mpr (by omega)
  by_cases h2 : 200 < al.length
  · rw [if_pos h2] at H
    simp only [Prod.mk.injEq] at H
    obtain ⟨rfl, rfl, rfl⟩ := H
    have hd2 : decide ((200 : Int) < al.length) = true := decide_eq_true (by omega)
    clear h0 h2
    go_enter Try.func43, Try.ntmps43
    go_wp2_with (first | (go_at_call 62; refine C62.out.mono ?_; rintro e w6 ⟨rfl, h6⟩; obtain ⟨a0, a1⟩ := cells2 (blk_below K0.out h6); have HB6 := Aside0.mk (below_then HB0.out HB0.out.size h6); clear h6) | (go_at_call 79; refine (C79.out _ HB6.out).mono ?_; rintro e w7 ⟨v, rfl, ho, h7⟩; obtain ⟨Av, cv, rfl, hlv, hcv⟩ := Kd.R_reads ho; have HCV := Aside0.mk hcv; have HB7 := Aside0.mk (below_then HB6.out HB6.out.size h7); clear ho hcv h7))
    go_ret3
    exact ⟨none, 0, rfl, Nat.le_refl 0, Kd.C_nil _ _, HB7.out⟩
  rw [if_neg h2] at H
  have hd2 : decide ((200 : Int) < al.length) = false := decide_eq_false (by omega)
  have hpos : 0 < al.length := by omega
  have h200 : al.length ≤ 200 := by omega
  have HH := Aside0.mk H
  clear h0 h2 H
  go_enter Try.func43, Try.ntmps43
  go_wp2_with (first | (go_at_call 62; refine C62.out.mono ?_; rintro e w6 ⟨rfl, h6⟩; obtain ⟨a0, a1⟩ := cells2 (blk_below K0.out h6); have HB6 := Aside0.mk (below_then HB0.out HB0.out.size h6); clear h6) | (go_at_call 79; refine (C79.out _ HB6.out).mono ?_; rintro e w7 ⟨v, rfl, ho, h7⟩; obtain ⟨Av, cv, rfl, hlv, hcv⟩ := Kd.R_reads ho; have HCV := Aside0.mk hcv; have HB7 := Aside0.mk (below_then HB6.out HB6.out.size h7); clear ho hcv h7))
  go_loopw [4, 5, 36] (fun v4 v5 v36 wr => ∃ k : Nat, ∃ (A : Option Addr) (c : Nat) (g : List Int) (b : Nat), Aside0 (k ≤ al.length) ∧ v36 = .int .i64 k ∧ v4 = .slice A g.length c ∧ v5 = .int .i64 b ∧ Aside0 ((k = 0 ∧ A = none ∧ g = [] ∧ b = 0 ∧ c = 0) ∨ (A ≠ none ∧ bestTo al k = some (g, b) ∧ g.length ≤ c ∧ Kd.C (Kd.int .i64) w7 A g.length g)) ∧ Aside0 (Below w7.heap.size w7 wr)) (fun _ _ v36 _ => al.length - (intOf v36).toNat)
  case atStart => exact ⟨0, none, 0, [], 0, ⟨Nat.zero_le _⟩, rfl, rfl, rfl, ⟨.inl ⟨rfl, rfl, rfl, rfl, rfl⟩⟩, ⟨Below.refl _ _⟩⟩
  case round =>
    obtain ⟨k, A, c, g, b, hk, rfl, rfl, rfl, HG, HBR⟩ := hrel
    obtain ⟨wo, hwo⟩ : ∃ wo, wo = wr := ⟨_, rfl⟩
    subst hwo
    by_cases hlt : k < al.length
    · obtain ⟨adv, Ax, cx, e0, hcx, hlx, hix⟩ := at_L2 HCV.out (k : Int) (by omega) (by omega)
      rw [Int.toNat_natCast] at hcx
      replace hcx := (HBR.out.cell (World.block_lt_of_cell? w7 _ hcx)).trans hcx
      subst e0
      rw [rdL_get' al k hlt] at hcx hlx hix
      obtain ⟨x, hx⟩ : ∃ x, x = al[k] := ⟨_, rfl⟩
      rw [← hx] at hcx hlx hix
      have hxm : x ∈ al := by rw [hx]; exact List.getElem_mem _
      have HX := Aside0.mk hx
      have HIX := Aside0.mk hix
      have HXM := Aside0.mk hxm
      clear hx hix hxm
      have hD : (wo.alloc (.cells #[.int .i64 0, .int .i64 0, .int .i64 0, .int .i64 0, .int .i64 0, .int .i64 0, .int .i64 0, .int .i64 0, .int .i64 0, .int .i64 0, .int .i64 0, .int .i64 0, .int .i64 0, .int .i64 0, .int .i64 0, .int .i64 0, .int .i64 0, .int .i64 0, .int .i64 0, .int .i64 0, .int .i64 0, .int .i64 0, .int .i64 0, .int .i64 0, .int .i64 0] 97)).heap[wo.heap.size]? = some (.cells (grid (([] : List (List Int)).map (ansOf x))) 97 (0, 0)) := by
        rw [List.map_nil, grid_nil]; exact blk_new wo _
      have HD := Aside0.mk hD
      have HBA := Aside0.mk ((Below.refl wo.heap.size wo).alloc (Nat.le_refl _) (.cells #[.int .i64 0, .int .i64 0, .int .i64 0, .int .i64 0, .int .i64 0, .int .i64 0, .int .i64 0, .int .i64 0, .int .i64 0, .int .i64 0, .int .i64 0, .int .i64 0, .int .i64 0, .int .i64 0, .int .i64 0, .int .i64 0, .int .i64 0, .int .i64 0, .int .i64 0, .int .i64 0, .int .i64 0, .int .i64 0, .int .i64 0, .int .i64 0, .int .i64 0] 97))
      clear hD
      go_wp2
      go_loopw [12, 42] (fun v12 v42 wr2 => ∃ j : Nat, Aside0 (j ≤ al.length) ∧ v42 = .int .i64 j ∧ v12 = .int .i64 (mostOf ((al.take j).map (ansOf x)) : Nat) ∧ Aside0 (wr2.heap[wo.heap.size]? = some (.cells (grid ((al.take j).map (ansOf x))) 97 (0, 0))) ∧ Aside0 (Below wo.heap.size wo wr2)) (fun _ v42 _ => al.length - (intOf v42).toNat)
      case atStart => exact ⟨0, ⟨Nat.zero_le _⟩, rfl, rfl, HD, HBA⟩
      case round =>
        clear HD HBA
        obtain ⟨j, hj, rfl, rfl, HD, HB2⟩ := hrel
        by_cases hlt2 : j < al.length
        · obtain ⟨adv2, Ac, cc, e0, hcc, hlc, hic⟩ := at_L2 HCV.out (j : Int) (by omega) (by omega)
          obtain rfl : adv = adv2 := by injection e0
          rw [Int.toNat_natCast] at hcc
          replace hcc := (HB2.out.cell (World.block_lt_of_cell? wo _ ((HBR.out.cell (World.block_lt_of_cell? w7 _ hcc)).trans hcc))).trans ((HBR.out.cell (World.block_lt_of_cell? w7 _ hcc)).trans hcc)
          rw [rdL_get' al j hlt2] at hcc hlc hic
          have hmost := mostOf_snoc ((al.take j).map (ansOf x)) (ansOf x al[j])
          rw [← List.map_singleton, ← List.map_append, ← List.take_succ_eq_append_getElem hlt2] at hmost
          have hans : codes_answer.f al[j] x = some ((((ansOf x al[j]).1 : Nat) : Int), (((ansOf x al[j]).2 : Nat) : Int)) := by
            have hm1 := HALL.out _ (List.getElem_mem hlt2)
            have hm2 := HALL.out _ HXM.out
            have i1 := allCodes_isCode (by omega) hm1
            have i2 := allCodes_isCode (by omega) hm2
            obtain ⟨e1, d1⟩ := isCode_dig (by omega) i1
            obtain ⟨e2, d2⟩ := isCode_dig (by omega) i2
            have hle := rightTo_le_common al[j] x (by omega) d1
            unfold codes_answer.f ansOf
            rw [if_pos ⟨by omega, d1, d2⟩]
            simp only
            rw [Int.ofNat_sub hle]
          have hlt5 := ansOf_lt hn4 hs10 (x := x) (HALL.out _ (List.getElem_mem hlt2)) (by omega)
          have hgrid : ∀ rr cc, al[j] = al[j] → (rr, cc) = ansOf x al[j] → rr < 5 → cc < 5 → (grid ((al.take j).map (ansOf x))).setIfInBounds (rr * 5 + cc) (.int .i64 (((((al.take j).map (ansOf x)).count (rr, cc) : Nat) : Int) + 1)) = grid ((al.take (j + 1)).map (ansOf x)) := fun rr cc _ e h1 h2 => by
            rw [grid_put _ rr cc h1 h2, e, ← List.map_singleton, ← List.map_append, ← List.take_succ_eq_append_getElem hlt2]
          obtain ⟨y, hy⟩ : ∃ y, y = al[j] := ⟨_, rfl⟩
          rw [← hy] at hcc hlc hic hmost hans hlt5 hgrid
          obtain ⟨⟨rr, rc⟩, hrr⟩ : ∃ p, p = ansOf x y := ⟨_, rfl⟩
          rw [← hrr] at hmost hans hlt5 hgrid
          simp only at hans hlt5
          obtain ⟨l1_, l2_⟩ := hlt5
          have HGRID := Aside0.mk (hgrid rr rc rfl rfl l1_ l2_)
          have hcount : ((al.take j).map (ansOf x)).count (rr, rc) ≤ j := Nat.le_trans List.count_le_length (by simp; omega)
          have hmle := mostOf_le ((al.take j).map (ansOf x))
          rw [List.length_map, List.length_take] at hmle
          have hgc := grid_get ((al.take j).map (ansOf x)) rr rc l1_ l2_
          obtain ⟨N, hN⟩ : ∃ N, N = ((al.take j).map (ansOf x)).count (rr, rc) := ⟨_, rfl⟩
          obtain ⟨Mo, hMo⟩ : ∃ Mo, Mo = mostOf ((al.take j).map (ansOf x)) := ⟨_, rfl⟩
          rw [← hN] at hgc hmost hcount HGRID
          rw [← hMo] at hmost hmle ⊢
          have HMOST := Aside0.mk hmost
          have CA := Aside0.mk (codes_answer.calls Ac cc y Ax cx x rr rc wr (Kd.C_below (Kd.C_below hic HBR.out) HB2.out) hlc (Kd.C_below (Kd.C_below HIX.out HBR.out) HB2.out) hlx hans)
          clear hy hrr hgrid hans hmost hN hMo hic hlc
          have HGET := Aside0.mk hgc
          clear hgc
          go_wp2_with (go_at_call 60; refine CA.out.mono ?_; rintro e w9 ⟨rfl, h9⟩; have HD9 := Aside0.mk (blk_below HD.out h9); have hgc9 := (blk_cell HD9.out (rr * 5 + rc)).trans HGET.out; have hgf9 := blk_frozen HD9.out (rr * 5 + rc); have HB9 := Aside0.mk (below_then HB2.out HB2.out.size h9); clear h9)
          go_region
          go_wp2
          go_roundw
          case rel =>
            refine ⟨j + 1, ⟨by omega⟩, by go_num, ?_, ⟨blk_drew (blk_put HD9.out (rr * 5 + rc) _ HGRID.out)⟩, ⟨below_drew1 (HB9.out.setCell (p := ⟨wo.heap.size, rr * 5 + rc, none⟩) (Nat.le_refl _) _)⟩⟩
            have e : (if (Mo : Int) < N + 1 then (N : Int) + 1 else Mo) = ((max Mo (N + 1) : Nat) : Int) := by split <;> omega
            rw [e, HMOST.out]
          case measure => simp [intOf]; omega
        · have hj' : j = al.length := by have := hj.out; omega
          subst hj'
          have hwst : mostOf ((al.take al.length).map (ansOf x)) = worstOf al x := by rw [List.take_length]; rfl
          rw [hwst]
          have hwle : worstOf al x ≤ 200 := by
            have := mostOf_le (ansL al x)
            unfold ansL at this
            rw [List.length_map] at this
            unfold worstOf ansL; omega
          obtain ⟨wst, hws⟩ : ∃ wst, wst = worstOf al x := ⟨_, rfl⟩
          rw [← hws] at hwle ⊢
          have HWS := Aside0.mk hws
          clear hws hwst
          have hbs := bestTo_succ al k hlt
          rw [← HX.out, ← HWS.out] at hbs
          have HBS := Aside0.mk hbs
          clear hbs
          have hAx : ∃ adx, Ax = some adx := by
            have hm2 := allCodes_isCode (by omega) (HALL.out _ HXM.out)
            have := (isCodeB_iff.1 hm2).1
            obtain ⟨adx, e, _⟩ := HIX.out.2.2 (by omega)
            exact ⟨adx, e⟩
          obtain ⟨adx, rfl⟩ := hAx
          have HBX := Aside0.mk (below_then HBR.out HBR.out.size HB2.out)
          rcases HG.out with ⟨rfl, rfl, rfl, rfl, rfl⟩ | ⟨hA, hbt, hgc, hgC⟩
          · have heq := fun (u : World) => Go.Lib.run_eql_slice_nil (P := Try.prog) u 24 3 none 0 0 0 0 hu24
            have HN := Aside0.mk (show bestTo al (0 + 1) = some (x, wst) by have := HBS.out; rw [bestTo_zero] at this; exact this)
            clear HBS HG
            go_wp2
            refine ⟨⟨0 + 1, some adx, cx, x, wst, ⟨by omega⟩, by go_num, rfl, rfl, ⟨.inr ⟨by simp, HN.out, hlx, HIX.out⟩⟩, HBX⟩, ?_⟩
            simp [intOf]; omega
          · have heq := fun (u : World) => Go.Lib.run_eql_slice_nil (P := Try.prog) u 24 3 A g.length c 0 0 hu24
            have hAn : A.isNone = false := by cases A <;> simp_all
            simp only [hAn] at heq
            have HBT := Aside0.mk hbt
            have HGC := Aside0.mk hgC
            have HA := Aside0.mk hA
            clear HG hbt hgC hA
            go_wp2
            · rename_i hw
              have HN := Aside0.mk (show bestTo al (k + 1) = some (x, wst) by have := HBS.out; rw [HBT.out] at this; simp only [nextStep] at this; rw [if_pos hw] at this; exact this)
              refine ⟨⟨k + 1, some adx, cx, x, wst, ⟨by omega⟩, by go_num, rfl, rfl, ⟨.inr ⟨by simp, HN.out, hlx, HIX.out⟩⟩, HBX⟩, ?_⟩
              simp [intOf]; omega
            · rename_i hw
              have HN := Aside0.mk (show bestTo al (k + 1) = some (g, b) by have := HBS.out; rw [HBT.out] at this; simp only [nextStep] at this; rw [if_neg hw] at this; exact this)
              refine ⟨⟨k + 1, A, c, g, b, ⟨by omega⟩, by go_num, rfl, rfl, ⟨.inr ⟨HA.out, HN.out, hgc, HGC.out⟩⟩, HBX⟩, ?_⟩
              simp [intOf]; omega
    · have hk' : k = al.length := by have := hk.out; omega
      rcases HG.out with ⟨h0, _⟩ | ⟨hA, hbt, hgc, hgC⟩
      · omega
      have HE := HH.out
      rw [hk'] at hbt
      rw [hbt] at HE
      simp only [Prod.mk.injEq] at HE
      obtain ⟨rfl, rfl, rfl⟩ := HE
      have HGC := Aside0.mk (Kd.C_below hgC HBR.out)
      have HBZ := Aside0.mk (below_then HB7.out HB7.out.size HBR.out)
      have HGL := Aside0.mk hgc
      clear hbt hgC hgc HG HBR HB7 HB6
      subst hk'
      go_wp2
      go_ret3
      exact ⟨A, c, rfl, HGL.out, HGC.out, HBZ.out⟩
end Go.Proofs.Ytimkchehdaadeaa.P
