/- CodesLeft: what the law comes to. -/
import Derived.Test.YtimkchehdaadeaaPureLeft0
import Derived.Test.YtimkchehdaadeaaHPure4
import Derived.Test.YtimkchehdaadeaaHNext
import Derived.Test.YtimkchehdaadeaaHWorks
import Derived.Test.YtimkchehdaadeaaPx5
import Derived.Test.YtimkchehdaadeaaPx15
namespace Go.Proofs.Ytimkchehdaadeaa.P
open Go.RowKit Go.Proofs.YtimkchehdaadeaaW.PrintWords Go.Proofs.YtimkchehdaadeaaW.PrintLast Go.Proofs.YtimkchehdaadeaaW.PrintMore
set_option linter.unusedVariables false
set_option linter.unusedSimpArgs false
theorem fitsS_code {W S : Int} {l : List S36} {c : List Int} (h : checkCluesS W S l = 0) (hc : isCodeB W S c = true) : fitsS W S l c = (idxI (fun q => !holdsC q c) l, fitsAll l c, 0) := by
  unfold fitsS; rw [if_pos h, if_pos hc]
theorem fitsS_no {W S : Int} {l : List S36} {c : List Int} (h : checkCluesS W S l = 0) (hc : ¬ isCodeB W S c = true) : fitsS W S l c = (0, false, 12) := by
  unfold fitsS; rw [if_pos h, if_neg hc]
theorem F_one {α : Type} {d : Kd α} {W : World} {b : Nat} {cs : List Value} {e : TypeId} {okp : Nat → Prop} {x : α} (hblk : W.heap[b]? = some (.cells cs.toArray e (0, 0))) (hok : okp b) (hlt : b < W.heap.size) (hFK : Kd.FK d W okp x cs) : Kd.F d W okp (some ⟨b, 0, none⟩) 1 [x] := fun W' hW => by
  refine ⟨rfl, by decide, fun _ => ⟨_, rfl, fun j p hj => ?_⟩⟩
  rcases j with _ | j
  · simp only [List.getElem?_cons_zero, Option.some.injEq] at hj
    subst hj
    refine ⟨cs, d.K_len (hFK W' hW), hFK W' hW, fun i u hu => ?_⟩
    have h1 := (hW b hok hlt).trans hblk
    rw [Nat.zero_mul, Nat.zero_add]
    have : W'.cell? ⟨b, i, none⟩ = some u := (blk_cell h1 i).trans (by simpa using hu)
    by_cases hi : i = 0
    · subst hi; simpa [Addr.add] using this
    · simpa [Addr.add, hi] using this
  · simp at hj
set_option maxHeartbeats 8000000 in
set_option maxRecDepth 100000 in
theorem CodesLeft_calls (W S : Int) (A1 : Option Addr) (c1 : Nat) (l : List S36) (A2 : Option Addr) (c2 : Nat) (cd : List Int) (w : World) (g1 : Kd.C k36 w A1 l.length l) (e1 : l.length ≤ c1) (g2 : Kd.C (Kd.int .i64) w A2 cd.length cd) (e2 : cd.length ≤ c2) :
    Calls Try.prog 12 #[.agg #[.int .i64 W, .int .i64 S], .slice A1 l.length c1, .slice A2 cd.length c2] w fun e w' => e = .returned (.bool true) ∧ Below w.heap.size w w' := by
  have hu23 := Try.underlying23
  have hu36 := Try.underlying36
  have K0 := Aside0.mk (blk_new w (.cells #[.int .i64 W, .int .i64 S] 23))
  have HB := Aside0.mk ((Below.refl w.heap.size w).alloc (Nat.le_refl _) (.cells #[.int .i64 W, .int .i64 S] 23))
  have G1 := Aside0.mk g1
  have G2 := Aside0.mk g2
  clear g1 g2
  obtain ⟨⟨n1, n2⟩, hn⟩ : ∃ r, r = countS W S l := ⟨_, rfl⟩
  have H35 := Aside0.mk (codes_Count.calls W S A1 c1 l n1 n2 _ (Kd.C_below G1.out HB.out) e1 (by rw [Count_eq, hn]))
  unfold countS at hn
  have hcases : ((n2 != 0) = true) ∨ ((n2 != 0) = false ∧ decide ((60 : Int) < n1) = true) ∨ ((n2 != 0) = false ∧ decide ((60 : Int) < n1) = false ∧ decide ((20 : Int) ≤ l.length) = true) ∨ ((n2 != 0) = false ∧ decide ((60 : Int) < n1) = false ∧ decide ((20 : Int) ≤ l.length) = false) := by
    cases (n2 != 0) <;> cases (decide ((60 : Int) < n1)) <;> cases (decide ((20 : Int) ≤ l.length)) <;> simp
  rcases hcases with d1 | ⟨d1, d2⟩ | ⟨d1, d2, d3⟩ | ⟨d1, d2, d3⟩
  case inr.inr.inr =>
    have hlen : l.length < 20 := by have := of_decide_eq_false d3; omega
    have hch : checkCluesS W S l = 0 := by
      by_cases h : checkCluesS W S l = 0
      · exact h
      · rw [if_neg h] at hn
        simp only [Prod.mk.injEq] at hn
        rw [hn.2] at d1
        exact absurd d1 (by simp [h])
    rw [if_pos hch] at hn
    obtain ⟨hl, hm, hv⟩ := checkClues_ok hch
    obtain ⟨n, s, rfl, rfl, hw1, hw4, hs2, hs10⟩ := lock_nat hl
    simp only [Int.toNat_natCast, Prod.mk.injEq] at hn
    obtain ⟨rfl, rfl⟩ := hn
    have h60 : (readingsL s n l).length ≤ 60 := by have := of_decide_eq_false d2; omega
    by_cases hz : (readingsL s n l).length = 0
    · have hnx : nextS (n : Int) (s : Int) l = ([], 0, 3) := by
        unfold nextS; simp only [Int.toNat_natCast]; rw [if_pos hch, if_pos hz]
      have H43 := Aside0.mk fun w1 (h1 : Below w.heap.size w w1) => codes_Next.calls n s A1 c1 l [] 0 3 w1 (Kd.C_below G1.out h1) e1 hnx
      rw [hz] at H35 d2
      clear hch hv hm hl hz hnx h60
      go_enter Try.func12, Try.ntmps12
      go_wp2_with (first
        | (go_at_call 35; refine H35.out.mono ?_; rintro e w1 ⟨rfl, hb⟩; have HB1 := Aside0.mk (below_then HB.out HB.out.size hb); have K0' := Aside0.mk (blk_below K0.out hb); obtain ⟨a0, a1⟩ := cells2 K0'.out; clear hb)
        | (go_at_call 43; refine (H43.out _ HB1.out).mono ?_; rintro e w2 ⟨Av, cv, rfl, hlv, hcv, hb⟩; have HB2 := Aside0.mk (below_then HB1.out HB1.out.size hb); clear hcv hlv hb)
        | (go_at_call 20; refine (padlocklaw01_works.calls true _ rfl).mono ?_; rintro e w5 ⟨rfl, hb4⟩))
      go_ret
      exact ⟨rfl, below_then HB2.out HB2.out.size hb4⟩
    · obtain ⟨al, hal⟩ : ∃ al, al = readingsL s n l := ⟨_, rfl⟩
      have hall : ∀ c ∈ al, c ∈ allCodes s n := fun c hc => (List.mem_filter.1 (hal ▸ hc)).1
      have hnd : al.Nodup := hal ▸ readings_nodup (by omega) l
      have hcount := fun q (hq : validC (n : Int) (s : Int) q = true) => Count_eq (n : Int) (s : Int) (l ++ [q])
      have hsn : ∀ q, validC (n : Int) (s : Int) q = true → codes_Count.f (n : Int) (s : Int) (l ++ [q]) = some ((((al.filter (holdsC q)).length : Nat) : Int), 0) := fun q hq => by
        rw [Count_eq]; unfold countS
        rw [if_pos (checkClues_snoc hch hlen hq)]
        simp only [Int.toNat_natCast]
        rw [readings_snoc, hal]
      obtain ⟨g, hg, hbt⟩ := bestTo_some (readingsL s n l) _ (by omega) (Nat.le_refl _)
      have hnx : nextS (n : Int) (s : Int) l = (g, ((worstOf (readingsL s n l) g : Nat) : Int), 0) := by
        unfold nextS; simp only [Int.toNat_natCast]; rw [if_pos hch, if_neg hz, if_neg (by omega), hbt]
      have hfg : fitsS (n : Int) (s : Int) l g = (-1, true, 0) := by
        have hcode := allCodes_isCode (by omega) (List.mem_filter.1 hg).1
        have hfit := (List.mem_filter.1 hg).2
        rw [fitsS_code hch hcode, hfit, idxI_miss]
        intro q hq
        have h2 := hfit
        unfold fitsAll at h2
        rw [Bool.not_eq_true', List.any_eq_false] at h2
        simpa using h2 q hq
      have hmem : ∀ c, isCodeB (n : Int) (s : Int) c = true → fitsAll l c = true → c ∈ al := fun c h1 h2 => by
        rw [hal]; exact List.mem_filter.2 ⟨mem_allCodes (by omega) h1, h2⟩
      have hgcode := allCodes_isCode (by omega) (List.mem_filter.1 hg).1
      rw [← hal] at hg hnx H35 d2 hz h60 hbt
      have hwp := worst_pos hw4 hs10 (by omega) hall hg
      have hwl := fun h2 => worst_lt hw4 hs10 (by omega) hall hg hnd h2
      obtain ⟨wst, hws⟩ : ∃ wst, wst = worstOf al g := ⟨_, rfl⟩
      have hlb := fun c (hc : c ∈ al) => left_bounds hw4 hs10 (by omega) hall hg hc
      have hlv := fun c (hc : c ∈ al) => left_valid hw4 hs10 (by omega) hall hg hc
      rw [← hws] at hnx hwp hwl hlb
      have H43 := Aside0.mk fun w1 (h1 : Below w.heap.size w w1) => codes_Next.calls n s A1 c1 l g (wst : Int) 0 w1 (Kd.C_below G1.out h1) e1 hnx
      have H22g := Aside0.mk fun Ag cg w1 (h1 : Below w.heap.size w w1) hgC hgl => codes_Fits.calls n s A1 c1 l Ag cg g (-1) true 0 w1 (Kd.C_below G1.out h1) e1 hgC hgl (by rw [Fits_eq, hfg])
      have hd8a : decide ((wst : Int) < 1) = false := decide_eq_false (by omega)
      have hd8 : (decide ((1 : Int) < al.length) = false) ∨ (decide ((1 : Int) < al.length) = true ∧ decide (al.length ≤ wst) = false) := by
        by_cases h : 2 ≤ al.length
        · exact .inr ⟨decide_eq_true (by omega), decide_eq_false (by have := hwl h; omega)⟩
        · exact .inl (decide_eq_false (by omega))
      by_cases hcd : isCodeB (n : Int) (s : Int) cd = true
      case neg =>
        have hfc := fitsS_no hch hcd
        have H22c := Aside0.mk fun w1 (h1 : Below w.heap.size w w1) => codes_Fits.calls n s A1 c1 l A2 c2 cd 0 false 12 w1 (Kd.C_below G1.out h1) e1 (Kd.C_below G2.out h1) e2 (by rw [Fits_eq, hfc])
        clear hch hv hm hl hz hnx h60 hal hall hnd hcount hsn hbt hfg hmem hwp hwl hws hlb hlv hfc hg hgcode hcd
        rcases hd8 with d8 | ⟨d8, d9⟩
        all_goals
          go_enter Try.func12, Try.ntmps12
          go_wp2_with (first
            | (go_at_call 35; refine H35.out.mono ?_; rintro e w1 ⟨rfl, hb⟩; have HB1 := Aside0.mk (below_then HB.out HB.out.size hb); have K1 := Aside0.mk (blk_below K0.out hb); obtain ⟨a0, a1⟩ := cells2 K1.out; clear hb)
            | (go_at_call 43; refine (H43.out _ HB1.out).mono ?_; rintro e w2 ⟨Av, cv, rfl, hlv, hcv, hb⟩; have HB2 := Aside0.mk (below_then HB1.out HB1.out.size hb); have K2 := Aside0.mk (blk_below K1.out hb); obtain ⟨b0, b1⟩ := cells2 K2.out; have HCV := Aside0.mk hcv; have HLV := Aside0.mk hlv; clear hcv hlv hb)
            | (go_at_call 22; refine (H22c.out _ HB3.out).mono ?_; rintro e w4 ⟨rfl, hb⟩; have HB4 := Aside0.mk (below_then HB3.out HB3.out.size hb); clear hb)
            | (go_at_call 22; refine (H22g.out _ _ _ HB2.out HCV.out HLV.out).mono ?_; rintro e w3 ⟨rfl, hb⟩; have HB3 := Aside0.mk (below_then HB2.out HB2.out.size hb); have K3 := Aside0.mk (blk_below K2.out hb); obtain ⟨f0, f1⟩ := cells2 K3.out; clear hb)
            | (go_at_call 20; refine (padlocklaw01_works.calls true _ rfl).mono ?_; rintro e w5 ⟨rfl, hb4⟩))
          go_ret
          exact ⟨rfl, below_then HB4.out HB4.out.size hb4⟩
      case pos =>
        have hfc := fitsS_code hch hcd
        obtain ⟨ix, hix⟩ : ∃ ix, ix = idxI (fun q => !holdsC q cd) l := ⟨_, rfl⟩
        rw [← hix] at hfc
        by_cases hfit : fitsAll l cd = true
        case neg =>
          rw [Bool.eq_false_iff.mpr hfit] at hfc
          have H22c := Aside0.mk fun w1 (h1 : Below w.heap.size w w1) => codes_Fits.calls n s A1 c1 l A2 c2 cd ix false 0 w1 (Kd.C_below G1.out h1) e1 (Kd.C_below G2.out h1) e2 (by rw [Fits_eq, hfc])
          clear hch hv hm hl hz hnx h60 hal hall hnd hcount hsn hbt hfg hmem hwp hwl hws hlb hlv hfc hg hgcode hcd hfit hix
          rcases hd8 with d8 | ⟨d8, d9⟩
          all_goals
            go_enter Try.func12, Try.ntmps12
            go_wp2_with (first
              | (go_at_call 35; refine H35.out.mono ?_; rintro e w1 ⟨rfl, hb⟩; have HB1 := Aside0.mk (below_then HB.out HB.out.size hb); have K1 := Aside0.mk (blk_below K0.out hb); obtain ⟨a0, a1⟩ := cells2 K1.out; clear hb)
              | (go_at_call 43; refine (H43.out _ HB1.out).mono ?_; rintro e w2 ⟨Av, cv, rfl, hlv, hcv, hb⟩; have HB2 := Aside0.mk (below_then HB1.out HB1.out.size hb); have K2 := Aside0.mk (blk_below K1.out hb); obtain ⟨b0, b1⟩ := cells2 K2.out; have HCV := Aside0.mk hcv; have HLV := Aside0.mk hlv; clear hcv hlv hb)
              | (go_at_call 22; refine (H22c.out _ HB3.out).mono ?_; rintro e w4 ⟨rfl, hb⟩; have HB4 := Aside0.mk (below_then HB3.out HB3.out.size hb); clear hb)
              | (go_at_call 22; refine (H22g.out _ _ _ HB2.out HCV.out HLV.out).mono ?_; rintro e w3 ⟨rfl, hb⟩; have HB3 := Aside0.mk (below_then HB2.out HB2.out.size hb); have K3 := Aside0.mk (blk_below K2.out hb); obtain ⟨f0, f1⟩ := cells2 K3.out; clear hb)
              | (go_at_call 20; refine (padlocklaw01_works.calls true _ rfl).mono ?_; rintro e w5 ⟨rfl, hb4⟩))
            go_ret
            exact ⟨rfl, below_then HB4.out HB4.out.size hb4⟩
        case pos =>
          rw [hfit] at hfc
          have H22c := Aside0.mk fun w1 (h1 : Below w.heap.size w w1) => codes_Fits.calls n s A1 c1 l A2 c2 cd ix true 0 w1 (Kd.C_below G1.out h1) e1 (Kd.C_below G2.out h1) e2 (by rw [Fits_eq, hfc])
          have hcm := hmem cd hcd hfit
          have hans : answerS (n : Int) (s : Int) cd g = (((ansOf g cd).1 : Int), ((ansOf g cd).2 : Int), 0) := by
            obtain ⟨q1, d1⟩ := isCode_dig (by omega) hcd
            obtain ⟨q2, d2⟩ := isCode_dig (by omega) hgcode
            have hle := rightTo_le_common cd g (by omega) d1
            unfold answerS ansOf
            rw [if_pos hl, hcd, hgcode]
            simp only [Bool.and_self, if_true]
            rw [Int.ofNat_sub hle]
          obtain ⟨hb1, hb2⟩ := hlb cd hcm
          have hval := hlv cd hcm
          have hct := hsn _ hval
          obtain ⟨⟨ra, ca⟩, hra⟩ : ∃ p, p = ansOf g cd := ⟨_, rfl⟩
          rw [← hra] at hans hb1 hb2 hval hct
          simp only at hans hb1 hb2 hval hct
          obtain ⟨lf, hlf⟩ : ∃ lf, lf = (al.filter (holdsC ⟨6, 0, 0, (ra : Int), (ca : Int), g, false⟩)).length := ⟨_, rfl⟩
          rw [← hlf] at hb1 hb2 hct
          have H18 := Aside0.mk fun Ag cg w1 (h1 : Below w.heap.size w w1) (hgC : Kd.C (Kd.int .i64) w1 Ag g.length g) (hgl : g.length ≤ cg) => codes_Answer.calls n s (fun k => k < w1.heap.size) A2 c2 cd (fun k => k < w1.heap.size) Ag cg g (ra : Int) (ca : Int) 0 w1 (Kd.V_mk e2 (Kd.C_F (Kd.heap_int .i64) (Kd.C_below G2.out h1))) (Kd.V_mk hgl (Kd.C_F (Kd.heap_int .i64) hgC)) (by rw [Answer_eq, hans])
          have H35b := Aside0.mk fun A c w1 hC hle => codes_Count.calls n s A c (l ++ [⟨6, 0, 0, (ra : Int), (ca : Int), g, false⟩]) (lf : Int) 0 w1 hC hle hct
          have hd15a : decide ((1 : Int) ≤ lf) = true := decide_eq_true (by omega)
          have hd15b : decide ((lf : Int) ≤ wst) = true := decide_eq_true (by omega)
          have hd15c : decide (lf ≤ wst) = true := decide_eq_true (by omega)
          have HLEN := Aside0.mk hlen
          clear hch hv hm hl hz hnx h60 hal hall hnd hcount hsn hbt hfg hmem hwp hwl hws hlb hlv hfc hg hgcode hcd hfit hix hra hlf hb1 hb2 hval hct hcm hans hlen
          rcases hd8 with d8 | ⟨d8, d9⟩
          all_goals
            go_enter Try.func12, Try.ntmps12
            go_wp2_with (first
              | (go_at_call 35; refine H35.out.mono ?_; rintro e w1 ⟨rfl, hb⟩; have HB1 := Aside0.mk (below_then HB.out HB.out.size hb); have K1 := Aside0.mk (blk_below K0.out hb); obtain ⟨a0, a1⟩ := cells2 K1.out; clear hb)
              | (go_at_call 43; refine (H43.out _ HB1.out).mono ?_; rintro e w2 ⟨Av, cv, rfl, hlv, hcv, hb⟩; have HB2 := Aside0.mk (below_then HB1.out HB1.out.size hb); have K2 := Aside0.mk (blk_below K1.out hb); obtain ⟨b0, b1⟩ := cells2 K2.out; have HCV := Aside0.mk hcv; have HLV := Aside0.mk hlv; clear hcv hlv hb)
              | (go_at_call 22; refine (H22c.out _ HB3.out).mono ?_; rintro e w4 ⟨rfl, hb⟩; have HB4 := Aside0.mk (below_then HB3.out HB3.out.size hb); have K4 := Aside0.mk (blk_below K3.out hb); have HCV4 := Aside0.mk (Kd.C_below HCV3.out hb); obtain ⟨h0, h1⟩ := cells2 K4.out; clear hb)
              | (go_at_call 22; refine (H22g.out _ _ _ HB2.out HCV.out HLV.out).mono ?_; rintro e w3 ⟨rfl, hb⟩; have HB3 := Aside0.mk (below_then HB2.out HB2.out.size hb); have K3 := Aside0.mk (blk_below K2.out hb); have HCV3 := Aside0.mk (Kd.C_below HCV.out hb); obtain ⟨f0, f1⟩ := cells2 K3.out; clear hb)
              | (go_at_call 18; refine (H18.out _ _ _ HB4.out HCV4.out HLV.out).mono ?_; rintro e w5 ⟨rfl, hb⟩; have HB5 := Aside0.mk (below_then HB4.out HB4.out.size hb); have K5 := Aside0.mk (blk_below K4.out hb); have HCV5 := Aside0.mk (Kd.C_below HCV4.out hb); obtain ⟨i0, i1⟩ := cells2 K5.out; clear hb)
              | (go_at_call 20; refine (padlocklaw01_works.calls true _ rfl).mono ?_; rintro e w5 ⟨rfl, hb4⟩))
            refine start_ (n := 15) (S := fun w' => w'.cell? ⟨w.heap.size, 0, none⟩ = some (.int .i64 (n : Int)) ∧ w'.cell? ⟨w.heap.size, 1, none⟩ = some (.int .i64 (s : Int))) (ds := []) #[false, false, false, false, false, false, false, false, false, false, false, false, false, false, false] (by kernel_rfl) rfl rfl ⟨i0, i1⟩ (fun hHeld => ?_)
            refine pure_ (i := 1) (N := some 106) (v := ?_) (a' := ?_) #[false, true, false, false, false, false, false, false, false, false, false, false, false, false, false] rfl rfl (by kernel_rfl) (fun _ _ _ h => h) (Or.inl ⟨by rfl, ?_⟩) ?_ ?_
            rotate_left
            · intro w'
              go_simp
              with_reducible rfl
            rotate_left
            · simp only [Act.put, List.setIfInBounds_toArray, List.set_cons_zero, List.set_cons_succ, i64_w, i32_w]
              rfl
            refine pure_ (i := 3) (N := some 108) (v := ?_) (a' := ?_) #[false, true, false, true, false, false, false, false, false, false, false, false, false, false, false] rfl rfl (by kernel_rfl) (fun _ _ _ h => h) (Or.inl ⟨by rfl, ?_⟩) ?_ ?_
            rotate_left
            · intro w'
              go_simp
              with_reducible rfl
            rotate_left
            · simp only [Act.put, List.setIfInBounds_toArray, List.set_cons_zero, List.set_cons_succ, i64_w, i32_w]
              rfl
            refine pure_ (i := 4) (N := some 109) (v := ?_) (a' := ?_) #[false, true, false, true, true, false, false, false, false, false, false, false, false, false, false] rfl rfl (by kernel_rfl) (fun _ _ _ h => h) (Or.inl ⟨by rfl, ?_⟩) ?_ ?_
            rotate_left
            · intro w'
              go_simp
              with_reducible rfl
            rotate_left
            · simp only [Act.put, List.setIfInBounds_toArray, List.set_cons_zero, List.set_cons_succ, i64_w, i32_w]
              rfl
            refine pure_ (i := 5) (N := some 110) (v := ?_) (a' := ?_) #[false, true, false, true, true, true, false, false, false, false, false, false, false, false, false] rfl rfl (by kernel_rfl) (fun _ _ _ h => h) (Or.inl ⟨by rfl, ?_⟩) ?_ ?_
            rotate_left
            · intro w'
              go_simp
              with_reducible rfl
            rotate_left
            · simp only [Act.put, List.setIfInBounds_toArray, List.set_cons_zero, List.set_cons_succ, i64_w, i32_w]
              rfl
            refine pure_ (i := 6) (N := some 111) (v := ?_) (a' := ?_) #[false, true, false, true, true, true, true, false, false, false, false, false, false, false, false] rfl rfl (by kernel_rfl) (fun _ _ _ h => h) (Or.inl ⟨by rfl, ?_⟩) ?_ ?_
            rotate_left
            · intro w'
              go_simp
              with_reducible rfl
            rotate_left
            · simp only [Act.put, List.setIfInBounds_toArray, List.set_cons_zero, List.set_cons_succ, i64_w, i32_w]
              rfl
            refine take_ (i := 0) (N := some 105) (v := ?_) (a' := ?_) #[true, true, false, true, true, true, true, false, false, false, false, false, false, false, false] rfl rfl (by kernel_rfl) (fun _ _ _ h => h) (Or.inl ⟨by rfl, ?_⟩) hHeld ?_ ?_
            rotate_left
            · rintro w' ⟨s0, s1⟩
              go_simp
              with_reducible rfl
            rotate_left
            · simp only [Act.put, List.setIfInBounds_toArray, List.set_cons_zero, List.set_cons_succ, i64_w, i32_w]
              rfl
            have GD := Aside0.mk (Kd.C_F k36_heap (Kd.C_drew (Kd.C_below G1.out HB5.out)))
            have QF := Aside0.mk (k36_mkF w5.drew _ ⟨6, 0, 0, (ra : Int), (ca : Int), g, false⟩ HLV.out (Kd.C_F (Kd.heap_int .i64) (Kd.C_drew HCV5.out)))
            have SB := Aside0.mk fun w' (h : Below w5.drew.heap.size w5.drew w') => And.intro ((h.cell (World.block_lt_of_cell? _ _ hHeld.1)).trans hHeld.1) ((h.cell (World.block_lt_of_cell? _ _ hHeld.2)).trans hHeld.2)
            have HBD := Aside0.mk (below_drew1 HB5.out)
            generalize w5.drew = wd at hHeld HBD GD QF SB ⊢
            refine join_ (σ := Value × Value × Option Addr × Nat) 6 #[true, true, true, true, true, true, true, true, true, false, false, false, false, false, false] (fun s => [(107, s.1), (112, s.2.1), (113, .slice s.2.2.1 (l ++ [⟨6, 0, 0, (ra : Int), (ca : Int), g, false⟩] : List S36).length s.2.2.2)]) (fun s w' => (l ++ [⟨6, 0, 0, (ra : Int), (ca : Int), g, false⟩] : List S36).length ≤ s.2.2.2 ∧ Kd.C k36 w' s.2.2.1 (l ++ [⟨6, 0, 0, (ra : Int), (ca : Int), g, false⟩] : List S36).length (l ++ [⟨6, 0, 0, (ra : Int), (ca : Int), g, false⟩] : List S36) ∧ Below wd.heap.size wd w') ?_ ?_
            rotate_left
            · intro hcont
              refine two_ (i := 2) (j := 7) (Ni := some 107) (Nj := some 112) #[true, true, true, true, true, true, true, false, false, false, false, false, false, false, false] #[true, true, false, true, true, true, true, true, false, false, false, false, false, false, false] rfl rfl rfl rfl (by kernel_rfl) (by decide) (by decide) (fun K hK => ?_) (fun K hK => ?_)
              · refine Kd.N_append_rows_step k36 (w0 := wd) (W := wd) wd.heap.size rfl (.const (.slice none 0 0)) (.tmp 106) 31 36 _ 72 rfl Try.underlying31 info36 rfl (by decide) (by omega) (.slice none 0 0) [] l A1 l.length c1 (fun _ => True) (fun k => k < wd.heap.size) rfl rfl (Kd.N_nil _ _ _ _ _) GD.out (fun k _ => ⟨trivial, by simp [Value.ownBlock]⟩) (fun _ _ => trivial) (Below.refl _ _) (Nat.le_refl _) (by have := HLEN.out; simp; omega) ?_
                intro v1 w6 hN1 hB6 hg6 hat6
                rw [List.nil_append] at hN1
                have hown : ∀ k, k < wd.heap.size → True ∧ some k ≠ v1.ownBlock := fun k hk => ⟨trivial, fun e => by
                  rcases hat6 with h | ⟨b, h, hb⟩
                  · rw [h] at e; simp [Value.ownBlock] at e
                  · rw [h] at e; injection e with e; omega⟩
                refine hK.out _ _ (SB.out _ hB6) (fun hHeld => ?_)
                clear hK K hat6 hg6
                obtain ⟨Aa, ca_, rfl⟩ := Kd.N_slice hN1
                refine one_ (i := 7) (N := some 112) #[true, true, true, true, true, true, true, true, false, false, false, false, false, false, false] rfl rfl (by kernel_rfl) (by decide) (fun K hK => ?_)
                rw [if_pos (by rfl)]
                go_simp
                refine hK.out _ _ (SB.out _ (hB6.alloc hB6.size _)) (fun hHeld => ?_)
                clear hK K
                refine one_ (i := 8) (N := some 113) #[true, true, true, true, true, true, true, true, true, false, false, false, false, false, false] rfl rfl (by kernel_rfl) (by decide) (fun K hK => ?_)
                refine Kd.N_append_step k36 (w0 := wd) (W := w6) wd.heap.size rfl (.tmp 107) (.tmp 112) 31 36 _ 72 rfl Try.underlying31 info36 rfl (by decide) (by omega) _ l ⟨6, 0, 0, (ra : Int), (ca : Int), g, false⟩ _ (fun _ => True) (fun k => k < wd.heap.size) rfl rfl (Kd.FK_step QF.out (fun k _ hk => hB6.block k hk)) hown (fun _ _ => trivial) hN1 hB6 hB6.size (by have := HLEN.out; omega) ?_
                intro v2 w7 hN2 hB7 hg7 hat7
                obtain ⟨A7, c7, rfl, hl7, hC7⟩ := Kd.N_reads hN2
                refine hK.out _ _ (SB.out _ hB7) (fun _ => ?_)
                exact norm_ rfl (hcont (.slice Aa l.length ca_, .slice (some ⟨w6.heap.size, 0, none⟩) 1 1, A7, c7) w7 ⟨hl7, hC7, hB7⟩)
              · rw [if_pos (by rfl)]
                go_simp
                have hBb := (Below.refl wd.heap.size wd).alloc (Nat.le_refl _) (.cells [.int .i64 6, .int .i64 0, .int .i64 0, .int .i64 ra, .int .i64 ca, .slice Av g.length cv, .bool false].toArray 36)
                refine hK.out _ _ (SB.out _ hBb) (fun hHeld => ?_)
                clear hK K
                refine one_ (i := 2) (N := some 107) #[true, true, true, true, true, true, true, true, false, false, false, false, false, false, false] rfl rfl (by kernel_rfl) (by decide) (fun K hK => ?_)
                refine Kd.N_append_rows_step k36 (w0 := wd) wd.heap.size rfl (.const (.slice none 0 0)) (.tmp 106) 31 36 _ 72 rfl Try.underlying31 info36 rfl (by decide) (by omega) (.slice none 0 0) [] l A1 l.length c1 (fun _ => True) (fun k => k < wd.heap.size) rfl rfl (Kd.N_nil _ _ _ _ _) (Kd.F_alloc GD.out _) (fun k _ => ⟨trivial, by simp [Value.ownBlock]⟩) (fun _ _ => trivial) hBb (by simp) (by have := HLEN.out; simp; omega) ?_
                intro v1 w6 hN1 hB6 hg6 hat6
                rw [List.nil_append] at hN1
                have hown : ∀ k, k < wd.heap.size + 1 → True ∧ some k ≠ v1.ownBlock := fun k hk => ⟨trivial, fun e => by
                  rcases hat6 with h | ⟨b, h, hb⟩
                  · rw [h] at e; simp [Value.ownBlock] at e
                  · rw [h] at e; injection e with e; rw [World.size_alloc] at hb; omega⟩
                have hrow : Kd.F k36 w6 (fun k => k < wd.heap.size + 1) (some ⟨wd.heap.size, 0, none⟩) 1 [⟨6, 0, 0, (ra : Int), (ca : Int), g, false⟩] := F_one ((hg6.block _ (by simp) (by simp [Value.ownBlock])).trans (blk_new wd _)) (by omega) (by have := hB6.size; have := hg6.size; simp at this; omega) (Kd.FK_mono (Kd.FK_step QF.out (fun k _ hk => hB6.block k hk)) (fun k hk => by omega))
                refine hK.out _ _ (SB.out _ hB6) (fun hHeld => ?_)
                clear hK K hat6 hg6
                obtain ⟨Aa, ca_, rfl⟩ := Kd.N_slice hN1
                refine one_ (i := 8) (N := some 113) #[true, true, true, true, true, true, true, true, true, false, false, false, false, false, false] rfl rfl (by kernel_rfl) (by decide) (fun K hK => ?_)
                refine Kd.N_append_rows_step k36 (w0 := wd) (W := w6) wd.heap.size rfl (.tmp 107) (.tmp 112) 31 36 _ 72 rfl Try.underlying31 info36 rfl (by decide) (by omega) _ l [⟨6, 0, 0, (ra : Int), (ca : Int), g, false⟩] (some ⟨wd.heap.size, 0, none⟩) 1 1 (fun _ => True) (fun k => k < wd.heap.size + 1) rfl rfl hN1 hrow hown (fun _ _ => trivial) hB6 hB6.size (by have := HLEN.out; omega) ?_
                intro v2 w7 hN2 hB7 hg7 hat7
                obtain ⟨A7, c7, rfl, hl7, hC7⟩ := Kd.N_reads hN2
                refine hK.out _ _ (SB.out _ hB7) (fun _ => ?_)
                exact norm_ rfl (hcont (.slice Aa l.length ca_, .slice (some ⟨wd.heap.size, 0, none⟩) 1 1, A7, c7) w7 ⟨hl7, hC7, hB7⟩)
            rintro ⟨v1, vb, A7, c7⟩ w7 ⟨hl7, hC7, hB7⟩
            have hHeld := SB.out _ hB7
            refine norm_ (a' := ?_) ?_ ?_
            rotate_left
            · show putAll _ _ = _
              simp only [putAll, Act.put, List.setIfInBounds_toArray, List.set_cons_zero, List.set_cons_succ, i64_w, i32_w]
              rfl
            refine one_ (i := 9) (N := some 114) #[true, true, true, true, true, true, true, true, true, true, false, false, false, false, false] rfl rfl (by kernel_rfl) (by decide) (fun K hK => ?_)
            refine goes_ Try.func35 (by kernel_rfl) rfl #[.agg #[.int .i64 (n : Int), .int .i64 (s : Int)], .slice A7 (l ++ [⟨6, 0, 0, (ra : Int), (ca : Int), g, false⟩] : List S36).length c7] (by rfl) rfl rfl (by (try simp only [List.map_toArray, List.map_cons, List.map_nil]); first | done | rfl) ?_
            refine (H35b.out _ _ _ hC7 hl7).mono ?_
            rintro e w8 ⟨rfl, h8⟩
            refine ⟨_, rfl, ?_⟩
            have HB8 := Aside0.mk (below_then (below_then HBD.out HBD.out.size hB7) (Nat.le_trans HBD.out.size hB7.size) h8)
            refine hK.out _ _ ⟨(h8.cell (World.block_lt_of_cell? _ _ hHeld.1)).trans hHeld.1, (h8.cell (World.block_lt_of_cell? _ _ hHeld.2)).trans hHeld.2⟩ (fun hHeld => ?_)
            clear hK K
            refine norm_ (a' := ?_) ?_ ?_
            rotate_left
            · show Act.put _ (some 114) _ = _
              simp only [Act.put, List.setIfInBounds_toArray, List.set_cons_zero, List.set_cons_succ, i64_w, i32_w]
              rfl
            refine pure_ (i := 10) (N := some 104) (v := ?_) (a' := ?_) #[true, true, true, true, true, true, true, true, true, true, true, false, false, false, false] rfl rfl (by kernel_rfl) (fun _ _ _ h => h) (Or.inl ⟨by rfl, ?_⟩) ?_ ?_
            rotate_left
            · intro w'
              go_simp
              with_reducible rfl
            rotate_left
            · simp only [Act.put, List.setIfInBounds_toArray, List.set_cons_zero, List.set_cons_succ, i64_w, i32_w]
              rfl
            refine pure_ (i := 11) (N := some 115) (v := ?_) (a' := ?_) #[true, true, true, true, true, true, true, true, true, true, true, true, false, false, false] rfl rfl (by kernel_rfl) (fun _ _ _ h => h) (Or.inl ⟨by rfl, ?_⟩) ?_ ?_
            rotate_left
            · intro w'
              go_simp
              with_reducible rfl
            rotate_left
            · simp only [Act.put, List.setIfInBounds_toArray, List.set_cons_zero, List.set_cons_succ, i64_w, i32_w]
              rfl
            refine pure_ (i := 12) (N := some 116) (v := ?_) (a' := ?_) #[true, true, true, true, true, true, true, true, true, true, true, true, true, false, false] rfl rfl (by kernel_rfl) (fun _ _ _ h => h) (Or.inl ⟨by rfl, ?_⟩) ?_ ?_
            rotate_left
            · intro w'
              go_simp
              with_reducible rfl
            rotate_left
            · simp only [Act.put, List.setIfInBounds_toArray, List.set_cons_zero, List.set_cons_succ, i64_w, i32_w]
              rfl
            refine pure_ (i := 13) (N := some 16) (v := ?_) (a' := ?_) #[true, true, true, true, true, true, true, true, true, true, true, true, true, true, false] rfl rfl (by kernel_rfl) (fun _ _ _ h => h) (Or.inl ⟨by rfl, ?_⟩) ?_ ?_
            rotate_left
            · intro w'
              go_simp
              with_reducible rfl
            rotate_left
            · simp only [Act.put, List.setIfInBounds_toArray, List.set_cons_zero, List.set_cons_succ, i64_w, i32_w]
              rfl
            refine pure_ (i := 14) (N := some 17) (v := ?_) (a' := ?_) #[true, true, true, true, true, true, true, true, true, true, true, true, true, true, true] rfl rfl (by kernel_rfl) (fun _ _ _ h => h) (Or.inl ⟨by rfl, ?_⟩) ?_ ?_
            rotate_left
            · intro w'
              go_simp
              with_reducible rfl
            rotate_left
            · simp only [Act.put, List.setIfInBounds_toArray, List.set_cons_zero, List.set_cons_succ, i64_w, i32_w]
              rfl
            refine done_ (by kernel_rfl) ?_
            clear hC7 hB7 h8
            go_wp2_with (go_at_call 20; refine (padlocklaw01_works.calls true _ rfl).mono ?_; rintro e w9 ⟨rfl, hb9⟩)
            go_ret
            exact ⟨rfl, below_then HB8.out HB8.out.size hb9⟩
  all_goals
    clear hn
    go_enter Try.func12, Try.ntmps12
    go_wp2_with (first
      | (go_at_call 35; refine H35.out.mono ?_; rintro e w1 ⟨rfl, hb⟩; have HB1 := Aside0.mk (below_then HB.out HB.out.size hb); clear hb)
      | (go_at_call 20; refine (padlocklaw01_works.calls true _ rfl).mono ?_; rintro e w4 ⟨rfl, hb4⟩))
    go_ret
    exact ⟨rfl, below_then HB1.out HB1.out.size hb4⟩
end Go.Proofs.Ytimkchehdaadeaa.P
