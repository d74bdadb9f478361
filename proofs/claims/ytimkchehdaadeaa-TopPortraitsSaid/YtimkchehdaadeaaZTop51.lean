/- Part 51 of a proof: the statement TopPortraits: for every input its law returns true (its texts without what nothing here names). -/
import Derived.Test.YtimkchehdaadeaaZTop35
import Derived.Test.YtimkchehdaadeaaZTop36
import Derived.Test.YtimkchehdaadeaaZTop37
import Derived.Test.YtimkchehdaadeaaZTop49
import Derived.Test.YtimkchehdaadeaaZTop50

section
namespace Go.Proofs.Ytimkchehdaadeaa.P
open Go.RowKit Go.Proofs.YtimkchehdaadeaaW.PrintWords Go.Proofs.YtimkchehdaadeaaW.PrintLast Go.Proofs.YtimkchehdaadeaaW.PrintMore
set_option linter.unusedVariables false
set_option linter.unusedSimpArgs false
def atC (q : S57) : S36 := ⟨1, q.f3, 0, q.f1, 0, [], q.f4⟩
def sameC (i k : Nat) : S36 := ⟨4, i, k, 0, 0, [], true⟩
def rowC (i k : Nat) : List S36 := (List.range' (i + 1) (k - (i + 1))).map (sameC i)
def samesC (n i : Nat) : List S36 := (List.range i).flatMap fun a => rowC a n
theorem rowC_start (i : Nat) : rowC i (i + 1) = [] := by simp [rowC]
theorem rowC_step (i k : Nat) (h : i < k) : rowC i (k + 1) = rowC i k ++ [sameC i k] := by
  unfold rowC
  rw [show k + 1 - (i + 1) = (k - (i + 1)) + 1 by omega, List.range'_concat, List.map_append]
  congr 1
  simp
  congr 1
  omega
theorem samesC_step (n i : Nat) : samesC n (i + 1) = samesC n i ++ rowC i n := by
  unfold samesC
  rw [List.range_succ, List.flatMap_append]; simp
theorem rowC_len (i k : Nat) : (rowC i k).length ≤ k := by simp [rowC]
theorem samesC_len (n i : Nat) : (samesC n i).length ≤ i * n := by
  induction i with
  | zero => simp [samesC]
  | succ i ih =>
    rw [samesC_step, List.length_append, Nat.add_mul, Nat.one_mul]
    have := rowC_len i n
    omega
def portC (n : Nat) (l : List S57) : List S36 := l.map atC ++ samesC n n
theorem fits_app (a b : List S36) (c : List Int) : fitsAll (a ++ b) c = (fitsAll a c && fitsAll b c) := by
  unfold fitsAll
  rw [List.any_append, Bool.not_or]
theorem same_codes {n : Nat} (hn : n = 2 ∨ n = 3 ∨ n = 4) : (allCodes n n).filter (fitsAll (samesC n n)) = (hang n n []).map castL := by
  rcases hn with rfl | rfl | rfl <;> decide +kernel
theorem place_codes {n : Nat} (hn : n = 2 ∨ n = 3 ∨ n = 4) : ∀ h ∈ hang n n [], ∀ a, a < n → ∀ m, m < n → (rd (castL h) (m : Int) == (a : Int)) = (rd (plc n h) (a : Int) == (m : Int)) := by
  rcases hn with rfl | rfl | rfl <;> decide +kernel
theorem at_hangs {n : Nat} (hn : n = 2 ∨ n = 3 ∨ n = 4) {h : List Nat} (hh : h ∈ hang n n []) {q : S57} (hq : saidB n q = true) : holdsC (atC q) (castL h) = hangsB (plc n h) q := by
  unfold saidB at hq
  rw [Bool.and_eq_true, Bool.and_eq_true] at hq
  have h1 := inRange_iff.1 hq.1
  have h3 := inRange_iff.1 hq.2.2
  have := place_codes hn h hh q.f1.toNat (by omega) q.f3.toNat (by omega)
  rw [Int.toNat_of_nonneg h1.1, Int.toNat_of_nonneg h3.1] at this
  unfold hangsB
  rw [← this]
  rfl
theorem at_all {n : Nat} (hn : n = 2 ∨ n = 3 ∨ n = 4) {l : List S57} (ha : l.all (saidB n) = true) {h : List Nat} (hh : h ∈ hang n n []) : fitsAll (l.map atC) (castL h) = okH l n h := by
  unfold fitsAll okH
  congr 1
  rw [List.any_map, Bool.eq_iff_iff, List.any_eq_true, List.any_eq_true]
  constructor
  · rintro ⟨q, hq, h1⟩
    refine ⟨q, hq, ?_⟩
    rw [← at_hangs hn hh (List.all_eq_true.1 ha q hq)]; exact h1
  · rintro ⟨q, hq, h1⟩
    refine ⟨q, hq, ?_⟩
    show (!holdsC (atC q) (castL h)) = true
    rw [at_hangs hn hh (List.all_eq_true.1 ha q hq)]; exact h1
theorem port_codes {n : Nat} (hn : n = 2 ∨ n = 3 ∨ n = 4) {l : List S57} (ha : l.all (saidB n) = true) : readingsL n n (portC n l) = (hangsL n l).map castL := by
  unfold readingsL portC hangsL
  have e : (fun c => fitsAll (l.map atC ++ samesC n n) c) = fun c => (fitsAll (l.map atC) c && fitsAll (samesC n n) c) := by funext c; exact fits_app _ _ _
  rw [show fitsAll (l.map atC ++ samesC n n) = fun c => (fitsAll (l.map atC) c && fitsAll (samesC n n) c) from e, ← List.filter_filter, same_codes hn, List.filter_map]
  congr 1
  apply List.filter_congr
  intro h hh
  exact at_all hn ha hh
theorem port_valid {n : Nat} (hn : n = 2 ∨ n = 3 ∨ n = 4) {l : List S57} (hl : l.length ≤ 14) (ha : l.all (saidB n) = true) : checkCluesS (n : Int) (n : Int) (portC n l) = 0 := by
  have hlock : okLock (n : Int) (n : Int) := by unfold okLock; omega
  have hlen : (samesC n n).length ≤ 6 := by rcases hn with rfl | rfl | rfl <;> decide
  unfold checkCluesS
  rw [if_pos hlock, if_neg (by unfold portC; rw [List.length_append, List.length_map]; omega), if_pos]
  unfold portC
  rw [List.all_append, Bool.and_eq_true]
  constructor
  · rw [List.all_map, List.all_eq_true]
    intro q hq
    have h := List.all_eq_true.1 ha q hq
    unfold saidB at h
    rw [Bool.and_eq_true, Bool.and_eq_true] at h
    have h1 := h.1
    have h3 := h.2.2
    show validC (n : Int) (n : Int) (atC q) = true
    unfold validC validB
    simp only [atC]
    simp [h1, h3]
  · rcases hn with rfl | rfl | rfl <;> decide
end Go.Proofs.Ytimkchehdaadeaa.P
end
section
namespace Go.Proofs.Ytimkchehdaadeaa.P
open Go.RowKit Go.Shelf Go.Pad Go.Proofs.YtimkchehdaadeaaW.PrintWords Go.Proofs.YtimkchehdaadeaaW.PrintLast Go.Proofs.YtimkchehdaadeaaW.PrintMore
attribute [local go_sem] Oper.semAt_some
set_option linter.unusedVariables false
set_option linter.unusedSimpArgs false
set_option maxHeartbeats 8000000 in
set_option maxRecDepth 100000 in
theorem pz_Hang.calls (n : Nat) (hn : n = 2 ∨ n = 3 ∨ n = 4) (A : Option Addr) (c : Nat) (l : List S57) (w : World) (hC : Kd.C k57 w A l.length l) (hc : l.length ≤ c) (hk : ∀ x ∈ l, x.f0 = 1) (hl : l.length ≤ 20) (ha : l.all (saidB n) = true) :
    Calls Try.prog 40 #[.int .i64 (n : Int), .slice A l.length c, .int .i64 64] w fun e w' => ∃ v : Value, e = .returned (.tuple #[v, .int .i64 0]) ∧ Kd.R (Kd.slice 3 (Kd.int .i64)) 24 w' w.heap.size (fun _ => True) v ((hangsL n l).map castL) ∧ Below w.heap.size w w' := by
  have C76 := Aside0.mk (fun w1 (h1 : Below w.heap.size w w1) => pz_check.calls n (by omega) A c l w1 (Kd.C_below hC h1) hc hk hl)
  have C78 := Aside0.mk (fun w0 => puzzles_within.calls 64 1 64 _ w0 (pz_within_eq 64 1 64))
  rw [show inRange 1 64 64 = true from rfl] at C78
  have K0 := Aside0.mk (blk_alloc (blk_new w (.cells #[.int .i64 64] 3)) (.cells #[.slice none 0 0] 51))
  have K1 : Aside0 (((w.alloc (.cells #[.int .i64 64] 3)).alloc (.cells #[.slice none 0 0] 51)).heap[w.heap.size + 1]? = some (.cells #[.slice none 0 0] 51 (0, 0))) := ⟨by have := blk_new (w.alloc (.cells #[.int .i64 64] 3)) (.cells #[.slice none 0 0] 51); rwa [World.size_alloc] at this⟩
  have HB0 := Aside0.mk (((Below.refl w.heap.size w).alloc (Nat.le_refl _) (.cells #[.int .i64 64] 3)).alloc (by simp) (.cells #[.slice none 0 0] 51))
  rw [if_pos ha] at C76
  have HKI := Aside0.mk (said_kind hk ha)
  have hxl := hangsL_len hn l
  have HC := Aside0.mk hC
  have HNN := Aside0.mk hn
  clear ha hk hC
  refine (callsIn_wide (n := 5)).1 (callsIn_of_wp_marks Try.func40 rfl trivial ?_ rfl)
  simp only [Try.ntmps40, List.size_toArray, List.length_cons, List.length_nil, Nat.reduceAdd, Nat.reduceSub, Array.replicate_succ, Array.replicate_zero, List.push_toArray, List.append_toArray, List.nil_append, List.cons_append]
  gi_wp2_with (first
    | (refine ⟨trivial, ?_⟩; gi_at_call 78; refine (callsIn_wide.2 (C78.out _)).mono ?_; rintro e w7 ⟨rfl, h7⟩; have HB7 := Aside0.mk (below_then HB6.out HB6.out.size h7.below); have K07 := Aside0.mk (blk_below K06.out h7.below); have K17 := Aside0.mk (blk_below K16.out h7.below); clear h7)
    | (refine ⟨trivial, ?_⟩; gi_at_call 76; refine (callsIn_wide.2 (C76.out _ HB0.out)).mono ?_; rintro e w6 ⟨rfl, h6⟩; have HB6 := Aside0.mk (below_then HB0.out HB0.out.size h6); have K06 := Aside0.mk (blk_below K0.out h6); have K16 := Aside0.mk (blk_below K1.out h6); have z6 := (blk_cell K06.out 0).trans rfl; clear h6)
    | (refine ⟨trivial, ?_⟩; gi_at_call 77; refine (callsIn_wide.2 (pz_hangings.calls _ _ rfl _)).mono ?_; rintro e w8 ⟨rfl, rfl⟩))
  obtain ⟨w2, hw2⟩ : ∃ w2, w2 = (w7.alloc (.cells #[.int .i64 (n : Int)] 3)).alloc (.cells #[.slice A l.length c] 55) := ⟨_, rfl⟩
  have hz2 : w2.heap.size = w7.heap.size + 2 := by rw [hw2]; simp
  have hmb : w2.heap[w.heap.size]? = some (.cells #[.int .i64 64] 3 (0, 0)) := by rw [hw2]; exact blk_alloc (blk_alloc K07.out _) _
  have hob : w2.heap[w.heap.size + 1]? = some (.cells #[.slice none 0 0] 51 (0, 0)) := by rw [hw2]; exact blk_alloc (blk_alloc K17.out _) _
  have hNb : w2.heap[w7.heap.size]? = some (.cells #[.int .i64 (n : Int)] 3 (0, 0)) := by rw [hw2]; exact blk_alloc (blk_new w7 _) _
  have hLb : w2.heap[w7.heap.size + 1]? = some (.cells #[.slice A l.length c] 55 (0, 0)) := by
    rw [hw2]; have := blk_new (w7.alloc (.cells #[.int .i64 (n : Int)] 3)) (.cells #[.slice A l.length c] 55); rwa [World.size_alloc] at this
  have hB2 : Below w.heap.size w w2 := by rw [hw2]; exact (HB7.out.alloc HB7.out.size _).alloc (by have := HB7.out.size; simp; omega) _
  have hw6 : w.heap.size + 1 < w7.heap.size := blk_lt K17.out
  rw [← hw2]
  clear hw2
  have hit : ∀ r : Loop, ItersO Try.prog 104 #[.pointer (some ⟨w7.heap.size, 0, none⟩), .pointer (some ⟨w7.heap.size + 1, 0, none⟩)] (HgLent (w2.heap.size + 2)) (hangsL n l) (fun b => b = w.heap.size + 1) ((w2.alloc (.deferred (some []))).alloc (.loop r)) := fun r => by
    have := hangings_iter n HNN.out l A c w7.heap.size (w7.heap.size + 1) (fun b => b = w.heap.size + 1) w ((w2.alloc (.deferred (some []))).alloc (.loop r)) (blk_alloc (blk_alloc hNb _) _) (blk_alloc (blk_alloc hLb _) _) HC.out hc ((hB2.alloc hB2.size _).alloc (by have := hB2.size; simp; omega) _) (fun b h => by simp; omega) ⟨by omega, by omega⟩ HKI.out
    have e : ((w2.alloc (.deferred (some []))).alloc (.loop r)).heap.size = w2.heap.size + 2 := by simp
    rwa [e] at this
  have hn1 : 0 < n := by have := HNN.out; omega
  have hn4 : n ≤ 4 := by have := HNN.out; omega
  refine wpIn_iterO (M := fun b => b = w.heap.size + 1) (gf := 104) (lb := #[.pointer (some ⟨w7.heap.size, 0, none⟩), .pointer (some ⟨w7.heap.size + 1, 0, none⟩)]) (elem := fun (x : List Nat) args W => x.length = n ∧ HgLent (w2.heap.size + 2) x args W) (xs := hangsL n l) rfl (enters_of Try.func104 (by kernel_rfl) rfl)
    ?hit (fun b h => by omega) (fun x args W h => by obtain ⟨_, ad, cc, rfl, _⟩ := h; rfl) (fun (x : List Nat) args A B h hab => ⟨h.1, apart_held h.2 hab (by omega) (by have := h.1; omega)⟩)
    (fun R pre W => (∃ v, W.heap[w.heap.size + 1]? = some (.cells #[v] 51 (0, 0)) ∧ Kd.R (Kd.slice 3 (Kd.int .i64)) 24 W (w.heap.size + 2) R v (pre.map castL)) ∧ W.heap[w.heap.size]? = some (.cells #[.int .i64 64] 3 (0, 0)) ∧ Below w.heap.size w W) ?hI ⟨⟨_, hob, Kd.R_nil _ _ _ _ _⟩, hmb, hB2⟩
    (fun args => { tmps := #[.int .i64 (n : Int), .slice A l.length c, .int .i64 64, undef, undef, .pointer (some ⟨w.heap.size, 0, none⟩), .pointer (some ⟨w.heap.size + 1, 0, none⟩), .int .i64 0, .int .i64 0, args.getD 0 undef, .int .i64 (n : Int), .slice A l.length c, .int .i64 0, .int .i64 0, .bool false, undef, .int .i64 64, .bool true, .bool false, .int .i64 (n : Int), .slice A l.length c, .func (.func 104) #[] #[.pointer (some ⟨w7.heap.size, 0, none⟩), .pointer (some ⟨w7.heap.size + 1, 0, none⟩)], args.getD 0 undef, undef, undef, undef, undef, undef, undef, undef, undef, undef, undef], defers := [] }) ?assign ?body ?done
  case hit =>
    intro r l' J h1 h2 h3
    refine hit r l' J h1 (fun R pre x args W1 hp hj he hs hr => h2 R pre x args W1 hp hj ⟨hangs_all HNN.out l x (hp.subset (by simp)), he⟩ hs hr) h3
  case hI =>
    rintro R pre A B ⟨⟨v, h1, h3⟩, h4, h2⟩ hab ho ht hp hs
    have hsz := hB2.size
    have hfix : ∀ k, k < A.heap.size → k < w2.heap.size → B.heap[k]? = A.heap[k]? := fun k hk hk2 => hab k hk (.inl hk2)
    exact ⟨⟨v, (hfix _ (blk_lt h1) (by omega)).trans h1, Kd.R_step h3 (fun k hk hlt => hab k hlt (.inr hk))⟩, (hfix _ (blk_lt h4) (by omega)).trans h4, ⟨ho.trans h2.os, ht.trans h2.tape, hp.trans h2.output, Nat.le_trans h2.size hs, fun k hk => (hfix k (Nat.lt_of_lt_of_le hk h2.size) (by omega)).trans (h2.block k hk)⟩⟩
  case assign =>
    rintro l' x args W K ⟨hxn, ad, cc, rfl, _⟩ hK
    clear hxn
    gi_wp2
    simpa using hK
  case body =>
    rintro l' R pre x args W hpre ⟨⟨v, h1, h3⟩, h4, h2⟩ ⟨hxn, ad, cc, rfl, hadb, hxc, hCx⟩ hsz hR
    obtain ⟨Av, cv, rfl, hlv, hcv⟩ := Kd.R_reads h3
    rw [List.length_map] at h1 h3 hlv hcv
    have hcl : Calls Try.prog 73 #[.slice (some ad) x.length cc] W.drew fun e w' => ∃ v : Value, e = .returned v ∧ Kd.R (Kd.int .i64) 3 w' W.heap.size (fun _ => True) v (castL x) ∧ Below W.heap.size W.drew w' := by
      have := slices_Clone_int_int.calls (some ad) cc (castL x) (castL x) W.drew (by rw [castL_len]; exact Kd.C_drew hCx) (by rw [castL_len]; exact hxc) (by unfold slices_Clone_int_int.f; rw [if_pos (by rw [castL_len]; omega)])
      rw [castL_len] at this
      exact this
    have hple : pre.length + 1 ≤ 24 := by
      have := hpre.length_le
      simp at this
      omega
    have HXN := Aside0.mk hxn
    clear hxn
    have HSZ := Aside0.mk hsz
    have H1 := Aside0.mk h1
    have H2 := Aside0.mk h2
    have H3 := Aside0.mk h3
    have H4 := Aside0.mk h4
    have HR := Aside0.mk hR
    have HPRE := Aside0.mk hpre
    have HB2 := Aside0.mk hB2
    have HXC := Aside0.mk hxc
    have CL := Aside0.mk hcl
    clear hcl hsz h1 h2 h3 h4 hcv hR hpre hB2 hadb hCx hit hmb hob hNb hLb hxc
    gi_wp2
    refine startR_ (n := 6) (S := fun w' => w'.cell? ⟨w.heap.size + 1, 0, none⟩ = some (.slice Av pre.length cv) ∧ w'.cell? ⟨w.heap.size, 0, none⟩ = some (.int .i64 64)) (ds := [5]) #[false, false, false, false, false, false] (by kernel_rfl) rfl rfl (noDefer_spec (by kernel_rfl)) (by rintro ⟨a, w, h⟩; exact Exit.noConfusion h.1) ⟨(blk_cell (blk_drew H1.out) 0).trans rfl, (blk_cell (blk_drew H4.out) 0).trans rfl⟩ (fun hHeld => ?_)
    refine take_ (i := 0) (N := some 23) (v := ?_) (a' := ?_) #[true, false, false, false, false, false] rfl rfl (by kernel_rfl) (fun _ _ _ h => h) (Or.inl ⟨by rfl, ?_⟩) hHeld ?_ ?_
    rotate_left
    · rintro w' ⟨s0, s1⟩
      go_simp
      with_reducible rfl
    rotate_left
    · simp only [Act.put, List.setIfInBounds_toArray, List.set_cons_zero, List.set_cons_succ, i64_w, i32_w]
      rfl
    refine pure_ (i := 1) (N := some 24) (v := ?_) (a' := ?_) #[true, true, false, false, false, false] rfl rfl (by kernel_rfl) (fun _ _ _ h => h) (Or.inl ⟨by rfl, ?_⟩) ?_ ?_
    rotate_left
    · intro w'
      go_simp
      with_reducible rfl
    rotate_left
    · simp only [Act.put, List.setIfInBounds_toArray, List.set_cons_zero, List.set_cons_succ, i64_w, i32_w]
      rfl
    refine one_ (i := 2) (N := some 25) #[true, true, true, false, false, false] rfl rfl (by kernel_rfl) (by decide) (fun K hK => ?_)
    refine goes_ Try.func73 (by kernel_rfl) rfl #[.slice (some ad) x.length cc] (by rfl) rfl rfl (by (try simp only [List.map_toArray, List.map_cons, List.map_nil]); first | done | rfl) ?_
    refine CL.out.mono ?_
    rintro e w5 ⟨vx, rfl, ho, hb⟩
    refine ⟨_, rfl, ?_⟩
    have h15 := blk_below (blk_drew H1.out) hb
    have h45 := blk_below (blk_drew H4.out) hb
    refine hK.out _ _ ⟨(blk_cell h15 0).trans rfl, (blk_cell h45 0).trans rfl⟩ (fun hHeld => ?_)
    clear hK K
    refine norm_ (a' := ?_) ?_ ?_
    rotate_left
    · show Act.put _ (some 25) _ = _
      simp only [Act.put, List.setIfInBounds_toArray, List.set_cons_zero, List.set_cons_succ, i64_w, i32_w]
      rfl
    obtain ⟨Ax, cx, rfl, hlx, hcx⟩ := Kd.R_reads ho
    refine one_ (i := 3) (N := some 26) #[true, true, true, true, false, false] rfl rfl (by kernel_rfl) (by decide) (fun K hK => ?_)
    rw [if_pos (by rfl)]
    go_simp
    refine hK.out _ _ ⟨(blk_cell (blk_alloc h15 _) 0).trans rfl, (blk_cell (blk_alloc h45 _) 0).trans rfl⟩ (fun hHeld => ?_)
    clear hK K
    have hsz' := HSZ.out
    have hb0 := HB2.out.size
    have hzw5 : W.heap.size ≤ w5.heap.size := by have := hb.size; simpa using this
    have hxR : Kd.R (Kd.int .i64) 3 w5 (w.heap.size + 2) (fun k => W.heap.size ≤ k ∧ some k ≠ (.slice Av pre.length cv : Value).ownBlock) (.slice Ax (castL x).length cx) (castL x) :=
      Kd.R_lower (Kd.R_mono (Kd.R_bound ho) (fun k hk => ⟨hk.2.1, fun e => by have h1 := Kd.R_lt H3.out k e.symm; have h2 := hk.2.1; omega⟩)) (by omega)
    have hbW : Below (w.heap.size + 2) W w5 := ((below_drew1 (Below.refl W.heap.size W)).trans hb).mono (by omega)
    refine one_ (i := 4) (N := some 27) #[true, true, true, true, true, false] rfl rfl (by kernel_rfl) (by decide) (fun K hK => ?_)
    refine Kd.R_append_step (Kd.slice 3 (Kd.int .i64)) (w0 := W) (W := w5) (w.heap.size + 2) rfl (.tmp 23) (.tmp 26) 51 24 (.slice none 0 0) 24 rfl Try.underlying51 info24 rfl (by decide) (by omega) (.slice Av pre.length cv) (pre.map castL) (castL x) [.slice Ax (castL x).length cx] (fun k => R k ∨ W.heap.size ≤ k) (fun k => W.heap.size ≤ k ∧ some k ≠ (.slice Av pre.length cv : Value).ownBlock) rfl rfl ⟨_, rfl, hxR⟩ (fun k hk => ⟨.inr hk.1, hk.2⟩) (fun k hk => .inr (by omega))
      (Kd.R_mono (Kd.R_below (Kd.R_drew H3.out) hb) (fun k hk => .inl hk)) hbW (by omega) (by rw [List.length_map]; omega) ?_
    intro v1 w6 hR6 hb6 hg6 hat6
    obtain ⟨A6, c6, rfl, hl6, hc6⟩ := Kd.R_reads hR6
    rw [show (pre.map castL ++ [castL x]).length = pre.length + 1 by simp] at hR6 hl6 hc6 ⊢
    have h16 : w6.heap[w.heap.size + 1]? = some (.cells #[.slice Av pre.length cv] 51 (0, 0)) := (hb6.block _ (by omega)).trans H1.out
    have h46 : w6.heap[w.heap.size]? = some (.cells #[.int .i64 64] 3 (0, 0)) := (hb6.block _ (by omega)).trans H4.out
    refine hK.out _ _ ⟨(blk_cell h16 0).trans rfl, (blk_cell h46 0).trans rfl⟩ (fun hHeld => ?_)
    clear hK K
    have hf6 := blk_frozen h16 0
    refine last_ (i := 5) (N := none) #[true, true, true, true, true, true] rfl rfl (by kernel_rfl) (by decide) (fun K hK => ?_)
    rw [if_pos (by rfl)]
    go_simp
    refine hK.out _ _ ?_
    refine done_ (by kernel_rfl) ?_
    have z1 := (blk_cell (blk_put h16 0 (.slice A6 (pre.length + 1) c6) (cs' := #[.slice A6 (pre.length + 1) c6]) rfl) 0).trans rfl
    have z2 := (blk_cell (blk_far h46 (p := ⟨w.heap.size + 1, 0, none⟩) (by show w.heap.size ≠ w.heap.size + 1; omega) (.slice A6 (pre.length + 1) c6)) 0).trans rfl
    have hne64 : ((pre.length : Int) + 1 == 64) = false := beq_eq_false_iff_ne.mpr (by omega)
    have HR6 := Aside0.mk hR6
    have H16 := Aside0.mk h16
    have H46 := Aside0.mk h46
    have HB6_ := Aside0.mk hb6
    have HG6 := Aside0.mk hg6
    have HB5 := Aside0.mk hb
    clear hR6 h16 h46 hb6 hg6 hat6 hb hxR hbW ho h15 h45 hcx hc6 hl6 hlx hK K hHeld
    gi_wp2
    have hw6s : W.heap.size ≤ w6.heap.size := HB6_.out.size
    have hset : ∀ v : Value, (w6.setCell ⟨w.heap.size + 1, 0, none⟩ v).heap.size = w6.heap.size := fun v => by simp [World.setCell]
    refine ⟨⟨⟨_, blk_put H16.out 0 _ rfl, ?_⟩, blk_far H46.out (by show w.heap.size ≠ w.heap.size + 1; omega) _, ?_⟩, ?_⟩
    · have := Kd.R_far (p := ⟨w.heap.size + 1, 0, none⟩) (Kd.R_bound HR6.out) (fun k hk => by have := hk.2.1; show k ≠ w.heap.size + 1; omega) (.slice A6 (pre.length + 1) c6)
      refine Kd.R_mono this (fun k hk => ?_)
      rcases hk.1 with h | h
      · exact .inl h
      · exact .inr ⟨h, by rw [hset]; exact hk.2.2.1⟩
    · exact (H2.out.trans (HB6_.out.mono (by omega))).setCell (p := ⟨w.heap.size + 1, 0, none⟩) (by show w.heap.size ≤ w.heap.size + 1; omega) _
    · refine KeepR.setCell (B := w6) ?_ _ _ (.inl rfl)
      refine (((KeepR.refl _ _ W).drew).of_below HB5.out).of_grown HG6.out (fun r hr => ?_)
      have := (H3.out).1 r hr
      exact .inr (.inl this)
  case done =>
    rintro R W ⟨⟨v, h1, h3⟩, h4, h2⟩ hR hK
    obtain ⟨Av, cv, rfl, hlv, hcv⟩ := Kd.R_reads h3
    have hc := (blk_cell h1 0).trans rfl
    have hf := blk_frozen h1 0
    have H3 := Aside0.mk h3
    have hb0 := hB2.size
    clear h3 hcv
    obtain ⟨Lh, hLh⟩ : ∃ Lh, Lh = (hangsL n l).map castL := ⟨_, rfl⟩
    rw [← hLh] at H3 hc h1 hlv
    have HLH := Aside0.mk hLh
    clear hLh
    gi_wp2
    obtain ⟨W', hW'⟩ : ∃ W', W' = W.setCell ⟨w.heap.size + 1, 0, none⟩ (.slice Av Lh.length cv) := ⟨_, rfl⟩
    have hK2 : W'.heap[w2.heap.size]? = some (.deferred (some [])) := by rw [hW']; exact (Below.heap_setCell W _ _ _ (by show w2.heap.size ≠ w.heap.size + 1; omega)).trans hK
    have h4' : W'.heap[w.heap.size + 1]? = some (.cells #[.slice Av Lh.length cv] 51 (0, 0)) := by rw [hW']; exact blk_put h1 0 _ rfl
    have hR4 : Kd.R (Kd.slice 3 (Kd.int .i64)) 24 W' (w.heap.size + 2) R (.slice Av Lh.length cv) Lh := by
      rw [hW']; exact Kd.R_mono (Kd.R_far (p := ⟨w.heap.size + 1, 0, none⟩) (Kd.R_bound H3.out) (fun k hk => by have := hk.2.1; show k ≠ w.heap.size + 1; omega) _) (fun k hk => hk.1)
    have hB4 : Below w.heap.size w W' := by rw [hW']; exact h2.setCell (p := ⟨w.heap.size + 1, 0, none⟩) (by show w.heap.size ≤ w.heap.size + 1; omega) _
    rw [← hW']
    refine ⟨by simp, .inl ⟨_, _, rfl, run_takeDeferred hK2, ?_⟩⟩
    have h5 : (W'.putObj w2.heap.size (.deferred none)).heap[w.heap.size + 1]? = some (.cells #[.slice Av Lh.length cv] 51 (0, 0)) := (World.putObj_heap_other (by omega)).trans h4'
    have hc5 := (blk_cell h5 0).trans rfl
    refine ⟨.tuple #[.slice Av Lh.length cv, .int .i64 0], ?_, _, rfl, ?_, ?_⟩
    · simp [results, Try.f40, go_sem, hc5]
    · rw [← HLH.out]
      exact Kd.R_lower (Kd.R_mono (Kd.R_step hR4 (fun k hk _ => World.putObj_heap_other (by have := (hR k hk).1; omega))) (fun _ _ => trivial)) (by omega)
    · exact below_of_apart hB4 ((Apart.refl w.heap.size (w2.heap.size + 1) _).putObj _ _ (by omega) (by omega)) (Nat.le_refl _) hB4.size
end Go.Proofs.Ytimkchehdaadeaa.P
end
