/- Part 25 of a proof: the statement TopPortraits: for every input its law returns true (its texts without what nothing here names). -/
import Derived.Test.YtimkchehdaadeaaZTop18
import Derived.Test.YtimkchehdaadeaaZTop22
import Derived.Test.YtimkchehdaadeaaZTop24

section
namespace Go.Proofs.Ytimkchehdaadeaa.P
open Go.RowKit Go.Shelf Go.Pad Go.Proofs.YtimkchehdaadeaaW.PrintWords Go.Proofs.YtimkchehdaadeaaW.PrintLast Go.Proofs.YtimkchehdaadeaaW.PrintMore
attribute [local go_sem] Oper.semAt_some
set_option linter.unusedVariables false
set_option linter.unusedSimpArgs false
theorem lent_C {D : Nat} {x : List Int} {W : World} (h : Lent D x W) (hl : x.length ≤ 1000) : Kd.C (Kd.int .i64) W (some ⟨D, 0, none⟩) x.length x := by
  refine Kd.C_of_reads (enc := Value.int .i64) (d := (0 : Int)) (h1 := fun _ => rfl) ⟨rfl, by omega, fun hn => ⟨_, rfl, fun j hj => ?_⟩⟩
  have := (blk_cell h j).trans (ints_get x j (by omega))
  have e : (Addr.mk D 0 none).add j = ⟨D, j, none⟩ := by
    unfold Addr.add
    by_cases h : j = 0
    · subst h; rfl
    · simp [h]
  rw [e, this]; simp [rd]
theorem idxI_neg {α : Type} (p : α → Bool) (xs : List α) : decide (idxI p xs < 0) = !xs.any p := by
  have := idxI_nonneg p xs
  by_cases h : 0 ≤ idxI p xs
  · rw [decide_eq_true h] at this
    rw [← this, decide_eq_false (by omega)]; rfl
  · rw [decide_eq_false h] at this
    rw [← this, decide_eq_true (by omega)]; rfl
def fitsAll (l : List S36) (c : List Int) : Bool := !(l.any fun q => !holdsC q c)
def readingsL (s n : Nat) (l : List S36) : List (List Int) := (allCodes s n).filter (fitsAll l)
theorem fails_fits (l : List S36) (c : List Int) : decide (idxI (fun q => !holdsC q c) l < 0) = fitsAll l c := idxI_neg _ _
set_option maxHeartbeats 1000000 in
set_option maxRecDepth 100000 in
theorem codes_codes.calls (W S : Int) (w : World) :
    Calls Try.prog 85 #[.agg #[.int .i64 W, .int .i64 S]] w fun e w' => e = .returned (.func (.func 109) #[] #[.pointer (some ⟨w.heap.size, 0, none⟩)]) ∧ w' = w.alloc (.cells #[.int .i64 W, .int .i64 S] 83) := by
  go_enter Try.func85, Try.ntmps85
  go_wp2
  go_ret
  exact ⟨rfl, rfl⟩
set_option maxHeartbeats 1000000 in
set_option maxRecDepth 100000 in
theorem codes_readings.calls (W S : Int) (v : Value) (hv : v.oneCell' = true) (w : World) :
    Calls Try.prog 72 #[.agg #[.int .i64 W, .int .i64 S], v] w fun e w' => e = .returned (.func (.func 100) #[] #[.pointer (some ⟨w.heap.size, 0, none⟩), .pointer (some ⟨w.heap.size + 1, 0, none⟩)]) ∧ w' = (w.alloc (.cells #[.int .i64 W, .int .i64 S] 83)).alloc (.cells #[v] 31) := by
  go_enter Try.func72, Try.ntmps72
  go_wp2
  go_ret
  exact ⟨rfl, rfl⟩
set_option maxHeartbeats 8000000 in
set_option maxRecDepth 100000 in
theorem readings_iter (n s : Nat) (hn : n ≤ 4) (hs : 2 ≤ s ∧ s ≤ 10) (lq : List S36) (A0 : Option Addr) (c0 : Nat) (BL BC : Nat) (M : Nat → Prop) (w0 w : World)
    (hl : w.heap[BL]? = some (.cells #[.int .i64 n, .int .i64 s] 83 (0, 0))) (hc : w.heap[BC]? = some (.cells #[.slice A0 lq.length c0] 31 (0, 0)))
    (hr : Kd.C k36 w0 A0 lq.length lq) (hc0 : lq.length ≤ c0) (hB : Below w0.heap.size w0 w) (hM0 : ∀ b, M b → w0.heap.size ≤ b) (hM : ∀ b, M b → b < w.heap.size) (hML : ¬ M BL) (hMC : ¬ M BC)
    (hok : ∀ c ∈ allCodes s n, ∀ q ∈ lq, okC q c) :
    Iters Try.prog 100 #[.pointer (some ⟨BL, 0, none⟩), .pointer (some ⟨BC, 0, none⟩)] (fun _ : List Int => #[.slice (some ⟨w.heap.size + 4, 0, none⟩) n n]) (Lent (w.heap.size + 4)) (readingsL s n lq) 5 M w := by
  intro l J Jx hJ hJx hY hJ0
  obtain ⟨hl0, hl1⟩ := cells2 (blk_alloc hl (.cells #[.func (.yield l) #[] #[]] 115))
  have HLV := Aside0.mk hl
  have HCV := Aside0.mk hc
  have HR := Aside0.mk hr
  have HB := Aside0.mk hB
  have HJ := Aside0.mk hJ
  have HJX := Aside0.mk hJx
  have HY := Aside0.mk hY
  have HM := Aside0.mk hM
  have HM0 := Aside0.mk hM0
  have HOK := Aside0.mk hok
  have HJ0 := Aside0.mk hJ0
  clear hJ hJx hY hM hM0 hok hJ0 hl hc hr hB
  refine (callsIn_wide (n := 5)).1 (callsIn_of_wp_marks Try.func100 rfl trivial ?_ rfl)
  simp only [Try.ntmps100, List.size_toArray, List.length_cons, List.length_nil, Nat.reduceAdd, Nat.reduceSub, Array.replicate_succ, Array.replicate_zero, List.push_toArray, List.append_toArray, List.nil_append, List.cons_append]
  gi_wp2_with (first | (refine ⟨trivial, ?_⟩; gi_at_call 85; refine (callsIn_wide.2 (codes_codes.calls _ _ _)).mono ?_; rintro e w1 ⟨rfl, rfl⟩))
  obtain ⟨w2, hw2⟩ : ∃ w2, w2 = (w.alloc (.cells #[.func (.yield l) #[] #[]] 115)).alloc (.cells #[.int .i64 n, .int .i64 s] 83) := ⟨_, rfl⟩
  have hz2 : w2.heap.size = w.heap.size + 2 := by rw [hw2]; simp
  have hap2 : Apart w.heap.size (w.heap.size + 5) w w2 := by rw [hw2]; exact ((Apart.refl _ _ w).alloc _).alloc _
  have hyb : w2.heap[w.heap.size]? = some (.cells #[.func (.yield l) #[] #[]] 115 (0, 0)) := by rw [hw2]; exact blk_alloc (blk_new w _) _
  have hlb : w2.heap[w.heap.size + 1]? = some (.cells #[.int .i64 n, .int .i64 s] 83 (0, 0)) := by
    rw [hw2]; have := blk_new (w.alloc (.cells #[.func (.yield l) #[] #[]] 115)) (.cells #[.int .i64 n, .int .i64 s] 83); rwa [World.size_alloc] at this
  have HLV2 : Aside0 (w2.heap[BL]? = some (.cells #[.int .i64 n, .int .i64 s] 83 (0, 0))) := ⟨by rw [hw2]; exact blk_alloc (blk_alloc HLV.out _) _⟩
  have HCV2 : Aside0 (w2.heap[BC]? = some (.cells #[.slice A0 lq.length c0] 31 (0, 0))) := ⟨by rw [hw2]; exact blk_alloc (blk_alloc HCV.out _) _⟩
  have HB2 : Aside0 (Below w0.heap.size w0 w2) := ⟨by rw [hw2]; exact (HB.out.alloc HB.out.size _).alloc (by have := HB.out.size; simp; omega) _⟩
  have hBL : BL < w.heap.size := blk_lt HLV.out
  have hBC : BC < w.heap.size := blk_lt HCV.out
  have hw0 : w0.heap.size ≤ w.heap.size := HB.out.size
  rw [← hw2]
  clear hw2
  have hit : ∀ r : Loop, Iters Try.prog 109 #[.pointer (some ⟨w.heap.size + 1, 0, none⟩)] (fun _ : List Int => #[.slice (some ⟨w.heap.size + 4, 0, none⟩) n n]) (Lent (w.heap.size + 4)) (allCodes s n) 1 M ((w2.alloc (.deferred (some []))).alloc (.loop r)) := fun r => by
    have := codes_iter n s hn hs (w.heap.size + 1) M ((w2.alloc (.deferred (some []))).alloc (.loop r)) (blk_alloc (blk_alloc hlb _) _) (fun h => by have := HM.out _ h; omega) (fun b h => by have := HM.out _ h; simp; omega)
    have e : ((w2.alloc (.deferred (some []))).alloc (.loop r)).heap.size = w.heap.size + 4 := by simp [hz2]
    rwa [e] at this
  refine wpIn_iter (k := 1) (gf := 109) (lb := #[.pointer (some ⟨w.heap.size + 1, 0, none⟩)]) rfl (enters_of Try.func109 (by kernel_rfl) rfl) hit (fun b h => by have := HM.out _ h; omega) (fun _ => rfl) ?hel
    (fun pre W => J (pre.filter (fitsAll lq)) W ∧ W.heap[w.heap.size]? = some (.cells #[.func (.yield l) #[] #[]] 115 (0, 0)) ∧ W.heap[BL]? = some (.cells #[.int .i64 n, .int .i64 s] 83 (0, 0)) ∧ W.heap[BC]? = some (.cells #[.slice A0 lq.length c0] 31 (0, 0)) ∧ Below w0.heap.size w0 W)
    (fun c pre W => c = .ret ∧ ∃ pre', pre' ≠ [] ∧ pre' <+: readingsL s n lq ∧ Jx pre' W) ?hI ?hIx ?h0
    (fun x => { tmps := #[.func (.yield l) #[] #[], .pointer (some ⟨BL, 0, none⟩), .pointer (some ⟨BC, 0, none⟩), .pointer (some ⟨w.heap.size, 0, none⟩), .slice (some ⟨w.heap.size + 4, 0, none⟩) n n, .agg #[.int .i64 n, .int .i64 s], .func (.func 109) #[] #[.pointer (some ⟨w.heap.size + 1, 0, none⟩)], .slice (some ⟨w.heap.size + 4, 0, none⟩) n n, undef, undef, undef, undef, undef, undef, undef, undef, undef, undef], defers := [] }) ?assign ?body ?done ?stop
  case hel => exact fun x A B h hab => (hab.block _ (blk_lt h) (.inr (by omega))).trans h
  case hI =>
    rintro pre A B ⟨h1, h2, h3, h4, h5⟩ hab
    exact ⟨HJ.out _ _ _ h1 (hab.mono (by omega) (by omega)), (hab.block _ (blk_lt h2) (.inl (by omega))).trans h2, (hab.block _ (blk_lt h3) (.inl (by omega))).trans h3, (hab.block _ (blk_lt h4) (.inl (by omega))).trans h4, below_of_apart h5 hab (by omega) h5.size⟩
  case hIx =>
    rintro c pre A B ⟨h1, pre', h2, h3, h4⟩ hab
    exact ⟨h1, pre', h2, h3, HJX.out _ _ _ h4 (hab.mono (by omega) (by omega))⟩
  case h0 => exact ⟨HJ.out _ _ _ HJ0.out hap2, hyb, HLV2.out, HCV2.out, HB2.out⟩
  case assign =>
    intro l' x W K hK
    gi_wp2
    exact hK
  case body =>
    rintro l' pre x W hpre ⟨hj, h1, h2, h3, h4⟩ hx hsz
    have hmem : x ∈ allCodes s n := hpre.subset (by simp)
    have hxl : x.length = n := by
      unfold allCodes codesN at hmem
      obtain ⟨i, _, rfl⟩ := List.mem_map.1 hmem
      exact codeAt_length s n i
    have hfl := codes_fails.calls A0 c0 lq (some ⟨w.heap.size + 4, 0, none⟩) n x (idxI (fun q => !holdsC q x) lq) W (Kd.C_below HR.out h4) hc0 (lent_C hx (by omega)) (by omega) (by unfold codes_fails.f; rw [if_pos (fun q hq => HOK.out x hmem q hq)])
    rw [hxl] at hfl
    have hdec := fails_fits lq x
    obtain ⟨fl, hflE⟩ : ∃ fl, fl = idxI (fun q => !holdsC q x) lq := ⟨_, rfl⟩
    rw [← hflE] at hfl hdec
    clear hflE
    have HFL := Aside0.mk hfl
    have hfn := (blk_cell h3 0).trans rfl
    have HSZ := Aside0.mk hsz
    have HX := Aside0.mk hx
    have H1 := Aside0.mk h1
    have H2 := Aside0.mk h2
    have H3 := Aside0.mk h3
    have H4 := Aside0.mk h4
    have HJW := Aside0.mk hj
    have HPRE := Aside0.mk hpre
    clear hfl hsz hx h1 h2 h3 h4 hj hpre
    by_cases hfit : fitsAll lq x = true
    · rw [hfit] at hdec
      have hcy : ∀ w5, Below W.heap.size W w5 → w5.cell? ⟨w.heap.size, 0, none⟩ = some (.func (.yield l) #[] #[]) := fun w5 hb => (blk_cell (blk_below H1.out hb) 0).trans rfl
      have HCY := Aside0.mk hcy
      have hyy : ∀ w5, Below W.heap.size W w5 → YieldAt Fence.wide 0 Try.prog l #[.slice (some ⟨w.heap.size + 4, 0, none⟩) n n] w5 fun e W' =>
         (e = .returned (.bool true) ∧ J (pre.filter (fitsAll lq) ++ [x]) W' ∧ KeepM (w.heap.size + 5) M w5 W') ∨ (e = .returned (.bool false) ∧ Jx (pre.filter (fitsAll lq) ++ [x]) W' ∧ KeepM (w.heap.size + 5) (fun b => b < w.heap.size) w5 W') := fun w5 hb =>
        HY.out (pre.filter (fitsAll lq)) x w5 (by
          have := HPRE.out.filter (fitsAll lq)
          rw [List.filter_append, List.filter_cons_of_pos hfit, List.filter_nil] at this
          exact this) (HJ.out _ _ _ HJW.out ((Apart.refl _ _ _).of_below hb)) (blk_below HX.out hb) (by have := HSZ.out; have := hb.size; omega)
      have HYY := Aside0.mk hyy
      clear hcy hyy
      gi_wp2_with (first | (refine ⟨trivial, rfl, ?_⟩; gi_at_call 63; refine (CallsIn.inRound l' (callsIn_wide.2 HFL.out)).mono ?_; rintro e w5 ⟨rfl, hb5⟩; have hcy5 := HCY.out w5 hb5; obtain ⟨fn, tmps, assign, body, hy, hR⟩ := HYY.out w5 hb5))
      refine ⟨rfl, ?_⟩
      refine (RoundIn.inRound l' hR).mono ?_
      rintro e W6 (⟨rfl, hj6, hk6⟩ | ⟨rfl, hx6, hk6⟩)
      · gi_wp2
        have hk5 : KeepM (w.heap.size + 5) M W W6 := ((KeepM.refl _ M W).of_below hb5 (by have := HSZ.out; omega)).trans hk6
        refine ⟨⟨?_, (hk5.block _ (by omega) (fun h => by have := HM.out _ h; omega)).trans H1.out, (hk5.block _ (by omega) hML).trans H2.out, (hk5.block _ (by omega) hMC).trans H3.out, ?_⟩, hk5.mono (by omega) (fun _ h => h)⟩
        · rw [List.filter_append, List.filter_cons_of_pos hfit, List.filter_nil]; exact hj6
        · exact ⟨hk5.os.trans H4.out.os, hk5.tape.trans H4.out.tape, hk5.output.trans H4.out.output, Nat.le_trans H4.out.size hk5.size, fun k hk => (hk5.block k (by omega) (fun h => by have := HM0.out _ h; omega)).trans (H4.out.block k hk)⟩
      · gi_wp2
        have hk5 : KeepM (w.heap.size + 5) (fun b => b < w.heap.size) W W6 := ((KeepM.refl _ _ W).of_below hb5 (by have := HSZ.out; omega)).trans hk6
        refine ⟨⟨rfl, pre.filter (fitsAll lq) ++ [x], by simp, ?_, hx6⟩, hk5.mono (by omega) (fun _ h => by omega)⟩
        have := HPRE.out.filter (fitsAll lq)
        rw [List.filter_append, List.filter_cons_of_pos hfit, List.filter_nil] at this
        exact this
    · have hfit' : fitsAll lq x = false := by simpa using hfit
      rw [hfit'] at hdec
      gi_wp2_with (first | (refine ⟨trivial, rfl, ?_⟩; gi_at_call 63; refine (CallsIn.inRound l' (callsIn_wide.2 HFL.out)).mono ?_; rintro e w5 ⟨rfl, hb5⟩; have hb55 := Aside0.mk hb5; clear hb5))
      refine ⟨fun _ h => (by cases h), ?_⟩
      gi_wp2
      have hk5 : KeepM (w.heap.size + 5) M W w5 := (KeepM.refl _ M W).of_below hb55.out (by have := HSZ.out; omega)
      refine ⟨⟨?_, blk_below H1.out hb55.out, blk_below H2.out hb55.out, blk_below H3.out hb55.out, H4.out.trans (hb55.out.mono (by have := HSZ.out; omega))⟩, hk5.mono (by omega) (fun _ h => h)⟩
      rw [List.filter_append, List.filter_cons_of_neg (by simp [hfit']), List.filter_nil, List.append_nil]
      exact HJ.out _ _ _ HJW.out ((Apart.refl _ _ _).of_below hb55.out)
  case done =>
    rintro W ⟨hj, h1, h2, h3, h4⟩ hK
    gi_wp2
    refine ⟨by simp, .inl ⟨_, _, rfl, run_takeDeferred hK, ?_⟩⟩
    exact ⟨_, results_none rfl _ _ _, ⟨_, rfl⟩, .inl (HJ.out _ _ _ hj ((Apart.refl _ _ _).putObj _ _ (by omega) (by omega)))⟩
  case stop =>
    rintro c pre W hne hpre ⟨rfl, pre', h1, h2, h3⟩ hK
    gi_wp2
    refine ⟨by simp, .inl ⟨_, _, rfl, run_takeDeferred hK, ?_⟩⟩
    exact ⟨_, results_none rfl _ _ _, ⟨_, rfl⟩, .inr ⟨pre', h1, h2, HJX.out _ _ _ h3 ((Apart.refl _ _ _).putObj _ _ (by omega) (by omega))⟩⟩
theorem readings_hit (n s : Nat) (hn : n ≤ 4) (hs : 2 ≤ s ∧ s ≤ 10) (lq : List S36) (A0 : Option Addr) (c0 : Nat) (BL BC : Nat) (M : Nat → Prop) (w0 w : World)
    (hl : w.heap[BL]? = some (.cells #[.int .i64 n, .int .i64 s] 83 (0, 0))) (hc : w.heap[BC]? = some (.cells #[.slice A0 lq.length c0] 31 (0, 0)))
    (hr : Kd.C k36 w0 A0 lq.length lq) (hc0 : lq.length ≤ c0) (hB : Below w0.heap.size w0 w) (hM0 : ∀ b, M b → w0.heap.size ≤ b) (hM : ∀ b, M b → b < w.heap.size) (hML : ¬ M BL) (hMC : ¬ M BC)
    (hok : ∀ c ∈ allCodes s n, ∀ q ∈ lq, okC q c) (r : Loop) :
    Iters Try.prog 100 #[.pointer (some ⟨BL, 0, none⟩), .pointer (some ⟨BC, 0, none⟩)] (fun _ : List Int => #[.slice (some ⟨w.heap.size + 6, 0, none⟩) n n]) (Lent (w.heap.size + 6)) (readingsL s n lq) 5 M ((w.alloc (.deferred (some []))).alloc (.loop r)) := by
  have := readings_iter n s hn hs lq A0 c0 BL BC M w0 ((w.alloc (.deferred (some []))).alloc (.loop r)) (blk_alloc (blk_alloc hl _) _) (blk_alloc (blk_alloc hc _) _) hr hc0
    ((hB.alloc hB.size _).alloc (by have := hB.size; simp; omega) _) hM0 (fun b h => by have := hM b h; simp; omega) hML hMC hok
  have e : ((w.alloc (.deferred (some []))).alloc (.loop r)).heap.size = w.heap.size + 2 := by simp
  rwa [e] at this
theorem lent_apart {D lo hi : Nat} {x : List Int} {A B : World} (h : Lent D x A) (hab : Apart lo hi A B) (hd : hi ≤ D) : Lent D x B := (hab.block _ (blk_lt h) (.inr hd)).trans h
end Go.Proofs.Ytimkchehdaadeaa.P
end
section
namespace Go.Proofs.Ytimkchehdaadeaa.P
open Go.RowKit Go.Shelf Go.Pad Go.Proofs.YtimkchehdaadeaaW.PrintWords Go.Proofs.YtimkchehdaadeaaW.PrintLast Go.Proofs.YtimkchehdaadeaaW.PrintMore
attribute [local go_sem] Oper.semAt_some
set_option linter.unusedVariables false
set_option linter.unusedSimpArgs false
def codes_lock_count.f (W S : Int) (l : List S36) : Option Int := if okLock W S ∧ l.all (validC W S) = true then some ((readingsL S.toNat W.toNat l).length : Nat) else none
set_option maxHeartbeats 8000000 in
set_option maxRecDepth 100000 in
theorem codes_lock_count.calls (a0_0 : Int) (a0_1 : Int) (A1 : Option Addr) (c1 : Nat) (l1 : List S36) (r : Int) (w : World) (hr1 : Kd.C k36 w A1 l1.length l1) (hc1 : l1.length ≤ c1) (h : codes_lock_count.f a0_0 a0_1 l1 = some r) :
    Calls Try.prog 75 #[.agg #[.int .i64 a0_0, .int .i64 a0_1], .slice A1 l1.length c1] w fun e w' => e = .returned (.int .i64 r) ∧ Below w.heap.size w w' := by
  unfold codes_lock_count.f at h
  split at h
  case isFalse => cases h
  case isTrue hk =>
  obtain rfl := Option.some.inj h
  clear h
  obtain ⟨hl, hv⟩ := hk
  obtain ⟨n, s, rfl, rfl, hn1, hn4, hs2, hs10⟩ := lock_nat hl
  have hok := ok_all hl hv
  simp only [Int.toNat_natCast]
  have hlen : (readingsL s n l1).length ≤ 10000 := Nat.le_trans (List.length_filter_le _ _) (codes_many hn4 hs10)
  have HR := Aside0.mk hr1
  have HOK := Aside0.mk hok
  have HLEN := Aside0.mk hlen
  clear hr1 hok hlen hl hv
  refine (callsIn_wide (n := 5)).1 (callsIn_of_wp_marks Try.func75 rfl trivial ?_ rfl)
  simp only [Try.ntmps75, List.size_toArray, List.length_cons, List.length_nil, Nat.reduceAdd, Nat.reduceSub, Array.replicate_succ, Array.replicate_zero, List.push_toArray, List.append_toArray, List.nil_append, List.cons_append]
  gi_wp2_with (first | (refine ⟨trivial, ?_⟩; gi_at_call 72; refine (callsIn_wide.2 (codes_readings.calls _ _ _ rfl _)).mono ?_; rintro e w1 ⟨rfl, rfl⟩))
  obtain ⟨w2, hw2⟩ : ∃ w2, w2 = (((w.alloc (.cells #[.int .i64 n, .int .i64 s] 83)).alloc (.cells #[.int .i64 0] 3)).alloc (.cells #[.int .i64 n, .int .i64 s] 83)).alloc (.cells #[.slice A1 l1.length c1] 31) := ⟨_, rfl⟩
  have hz2 : w2.heap.size = w.heap.size + 4 := by rw [hw2]; simp
  have hnb : w2.heap[w.heap.size + 1]? = some (.cells #[.int .i64 0] 3 (0, 0)) := by
    rw [hw2]; have := blk_new (w.alloc (.cells #[.int .i64 n, .int .i64 s] 83)) (.cells #[.int .i64 0] 3); rw [World.size_alloc] at this; exact blk_alloc (blk_alloc this _) _
  have hlb : w2.heap[w.heap.size + 1 + 1]? = some (.cells #[.int .i64 n, .int .i64 s] 83 (0, 0)) := by
    rw [hw2]; have := blk_new ((w.alloc (.cells #[.int .i64 n, .int .i64 s] 83)).alloc (.cells #[.int .i64 0] 3)) (.cells #[.int .i64 n, .int .i64 s] 83); rw [World.size_alloc, World.size_alloc] at this; exact blk_alloc this _
  have hcb : w2.heap[w.heap.size + 1 + 1 + 1]? = some (.cells #[.slice A1 l1.length c1] 31 (0, 0)) := by
    rw [hw2]; have := blk_new (((w.alloc (.cells #[.int .i64 n, .int .i64 s] 83)).alloc (.cells #[.int .i64 0] 3)).alloc (.cells #[.int .i64 n, .int .i64 s] 83)) (.cells #[.slice A1 l1.length c1] 31); rw [World.size_alloc, World.size_alloc, World.size_alloc] at this; exact this
  have hB2 : Below w.heap.size w w2 := by
    rw [hw2]; exact ((((Below.refl _ w).alloc (Nat.le_refl _) _).alloc (by simp) _).alloc (by simp; omega) _).alloc (by simp; omega) _
  rw [← hw2]
  clear hw2
  refine wpIn_iter (k := 5) (M := fun b => b = w.heap.size + 1) (gf := 100) (lb := #[.pointer (some ⟨w.heap.size + 1 + 1, 0, none⟩), .pointer (some ⟨w.heap.size + 1 + 1 + 1, 0, none⟩)]) rfl (enters_of Try.func100 (by kernel_rfl) rfl)
    (readings_hit n s hn4 ⟨hs2, hs10⟩ l1 A1 c1 _ _ _ w w2 hlb hcb HR.out hc1 hB2 (fun b h => by omega) (fun b h => by omega) (by omega) (by omega) HOK.out)
    (fun b h => by omega) (fun _ => rfl) (fun x A B h hab => lent_apart h hab (by omega))
    (fun pre W => W.heap[w.heap.size + 1]? = some (.cells #[.int .i64 (pre.length : Nat)] 3 (0, 0)) ∧ Below w.heap.size w W) (fun _ _ _ => False) ?hI ?hIx ⟨hnb, hB2⟩
    (fun x => { tmps := #[.agg #[.int .i64 n, .int .i64 s], .slice A1 l1.length c1, .pointer (some ⟨w.heap.size, 0, none⟩), undef, .pointer (some ⟨w.heap.size + 1, 0, none⟩), .agg #[.int .i64 n, .int .i64 s], .slice A1 l1.length c1, .func (.func 100) #[] #[.pointer (some ⟨w.heap.size + 1 + 1, 0, none⟩), .pointer (some ⟨w.heap.size + 1 + 1 + 1, 0, none⟩)], .slice (some ⟨w2.heap.size + 6, 0, none⟩) n n, undef, undef, undef], defers := [] }) ?assign ?body ?done ?stop
  case hI =>
    rintro pre A B ⟨h1, h2⟩ hab
    exact ⟨(hab.block _ (blk_lt h1) (.inl (by omega))).trans h1, below_of_apart h2 hab (by omega) h2.size⟩
  case hIx => exact fun _ _ _ _ h _ => h.elim
  case assign =>
    intro l' x W K hK
    gi_wp2
    simpa using hK
  case body =>
    rintro l' pre x W hpre ⟨h1, h2⟩ hx hsz
    have hc := (blk_cell h1 0).trans rfl
    have hf := blk_frozen h1 0
    have hle : pre.length + 1 ≤ 10000 := by
      have := hpre.length_le
      simp at this
      have := HLEN.out
      omega
    gi_wp2
    refine ⟨⟨blk_put h1 _ _ ?_, h2.setCell (p := ⟨w.heap.size + 1, 0, none⟩) (by show w.heap.size ≤ w.heap.size + 1; omega) _⟩, (KeepM.refl _ _ W).setCell _ _ (.inl rfl)⟩
    rw [List.length_append]; rfl
  case done =>
    rintro W ⟨h1, h2⟩ hK
    have hc := (blk_cell h1 0).trans rfl
    have hf := blk_frozen h1 0
    gi_wp2
    have hK2 : (W.setCell ⟨w.heap.size + 1, 0, none⟩ (.int .i64 ((readingsL s n l1).length : Nat))).heap[w2.heap.size]? = some (.deferred (some [])) := (Below.heap_setCell W _ _ _ (by show w2.heap.size ≠ w.heap.size + 1; omega)).trans hK
    refine ⟨by simp, .inl ⟨_, _, rfl, run_takeDeferred hK2, ?_⟩⟩
    have h3 : ((W.setCell ⟨w.heap.size + 1, 0, none⟩ (.int .i64 ((readingsL s n l1).length : Nat))).putObj w2.heap.size (.deferred none)).heap[w.heap.size + 1]? = some (.cells #[.int .i64 ((readingsL s n l1).length : Nat)] 3 (0, 0)) := (World.putObj_heap_other (by omega)).trans (blk_put h1 0 _ rfl)
    have hc5 := (blk_cell h3 0).trans rfl
    refine ⟨.int .i64 ((readingsL s n l1).length : Nat), ?_, rfl, ?_⟩
    · simp [results, Try.f75, go_sem, hc5]
    · exact below_of_apart (h2.setCell (p := ⟨w.heap.size + 1, 0, none⟩) (by show w.heap.size ≤ w.heap.size + 1; omega) _) ((Apart.refl w.heap.size (w2.heap.size + 1) _).putObj _ _ (by omega) (by omega)) (Nat.le_refl _) (by have := h2.size; simpa [World.setCell] using this)
  case stop => exact fun _ _ _ _ _ h _ => h.elim
end Go.Proofs.Ytimkchehdaadeaa.P
end
