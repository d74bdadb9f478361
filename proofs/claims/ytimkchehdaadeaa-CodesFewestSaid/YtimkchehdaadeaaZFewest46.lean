/- Part 46 of a proof: the statement CodesFewest: for every input its law returns true (its texts without what nothing here names). -/
import Derived.Test.YtimkchehdaadeaaZFewest15
import Derived.Test.YtimkchehdaadeaaZFewest25
import Derived.Test.YtimkchehdaadeaaZFewest33
import Derived.Test.YtimkchehdaadeaaZFewest41
import Derived.Test.YtimkchehdaadeaaZFewest43
import Derived.Test.YtimkchehdaadeaaZFewest44
import Derived.Test.YtimkchehdaadeaaZFewest45

section
namespace Go.Proofs.Ytimkchehdaadeaa.P
open Go.RowKit Go.Shelf Go.Pad Go.Proofs.YtimkchehdaadeaaW.PrintWords Go.Proofs.YtimkchehdaadeaaW.PrintLast Go.Proofs.YtimkchehdaadeaaW.PrintMore
attribute [local go_sem] Oper.semAt_some
set_option linter.unusedVariables false
set_option linter.unusedSimpArgs false
def ChoosePost (r : List Int × Int) (w : World) (e : Ending) (w' : World) : Prop := ∃ (A : Option Addr) (c : Nat), e = .returned (.tuple #[.slice A r.1.length c, .int .i64 r.2]) ∧ r.1.length ≤ c ∧ Kd.C (Kd.int .i64) w' A r.1.length r.1 ∧ Below w.heap.size w w'
theorem ChoosePost.nil {x : Int} {w w' : World} (h : Below w.heap.size w w') : ChoosePost ([], x) w (.returned (.tuple #[.slice none 0 0, .int .i64 x])) w' := ⟨none, 0, rfl, Nat.le_refl _, Kd.C_nil _ _, h⟩
theorem C_putObj {w : World} {A : Option Addr} {n g : Nat} {xs : List Int} {d : Option (List Deferred)} {o : Obj} (h : Kd.C (Kd.int .i64) w A n xs) (hd : w.heap[g]? = some (.deferred d)) : Kd.C (Kd.int .i64) (w.putObj g o) A n xs := by
  obtain ⟨h1, h2, h3⟩ := h
  refine ⟨h1, h2, fun hp => ?_⟩
  obtain ⟨ad, e, h4⟩ := h3 hp
  refine ⟨ad, e, fun j p hj => ?_⟩
  obtain ⟨c, hc1, hc2, hc3⟩ := h4 j p hj
  refine ⟨c, hc1, hc2, fun i u hu => ?_⟩
  have h5 := hc3 i u hu
  rw [← h5]
  unfold World.cell?
  rw [World.putObj_heap_other (fun e2 => ?_)]
  rw [World.cell?, e2, hd] at h5
  simp at h5
theorem fin56 (v : Value) (c : Int) (W : World) (tmps : Array Value) (e4 : tmps[6]?.getD undef = v) (e5 : tmps[7]?.getD undef = .int .i64 c) {R : Ending → World → Prop} (hR : R (.returned (.tuple #[v, .int .i64 c])) W) :
    LeavesInM Fence.wide 5 Try.prog Try.f56 tmps R [] .returning W := by
  refine ⟨.tuple #[v, .int .i64 c], ?_, hR⟩
  simp [results, Try.f56, go_sem, e4, e5]
set_option maxHeartbeats 8000000 in
set_option maxRecDepth 100000 in
theorem codes_Choose.calls (W S : Int) (A1 : Option Addr) (c1 : Nat) (l : List S36) (A2 : Option Addr) (c2 : Nat) (code : List Int) (w : World) (g1 : Kd.C k36 w A1 l.length l) (e1 : l.length ≤ c1) (g2 : Kd.C (Kd.int .i64) w A2 code.length code) (e2 : code.length ≤ c2) :
    Calls Try.prog 56 #[.agg #[.int .i64 W, .int .i64 S], .slice A1 l.length c1, .slice A2 code.length c2] w (ChoosePost (chooseS W S l code) w) := by
  have hu23 := Try.underlying23
  have hu36 := Try.underlying36
  have hu24 := Try.underlying24
  have hmx := Kd.C_max g1
  obtain ⟨w0, hw0⟩ : ∃ w0, w0 = (w.alloc (.cells #[.int .i64 W, .int .i64 S] 23)).alloc (.cells #[.slice A1 l.length c1] 31) := ⟨_, rfl⟩
  have K0 : Aside0 (w0.heap[w.heap.size]? = some (.cells #[.int .i64 W, .int .i64 S] 23 (0, 0))) := ⟨by rw [hw0]; exact blk_alloc (blk_new w _) _⟩
  have K1 : Aside0 (w0.heap[w.heap.size + 1]? = some (.cells #[.slice A1 l.length c1] 31 (0, 0))) := ⟨by rw [hw0]; have := blk_new (w.alloc (.cells #[.int .i64 W, .int .i64 S] 23)) (.cells #[.slice A1 l.length c1] 31); rwa [World.size_alloc] at this⟩
  have HB : Aside0 (Below w.heap.size w w0) := ⟨by rw [hw0]; exact ((Below.refl w.heap.size w).alloc (Nat.le_refl _) _).alloc (by simp) _⟩
  have HW0 := Aside0.mk hw0
  have G1 := Aside0.mk g1
  have G2 := Aside0.mk g2
  clear g1 g2 hw0
  obtain ⟨a0, a1⟩ := cells2 K0.out
  have a2 := (blk_cell K1.out 0).trans rfl
  have C24g := fun r h w1 => codes_Check.calls W S r w1 h
  have C24 := Aside0.mk (C24g _ (Check_eq W S))
  have C62 := Aside0.mk (fun w1 (h1 : Below w.heap.size w w1) => codes_checkClues.calls W S A1 c1 l _ w1 (Kd.C_below G1.out h1) e1 (checkClues_eq W S l))
  have C28 := Aside0.mk (fun w1 (h1 : Below w.heap.size w w1) => codes_CheckCode.calls W S (fun k => k < w1.heap.size) A2 c2 code _ w1 (Kd.V_mk e2 (Kd.C_F (Kd.heap_int .i64) (Kd.C_below G2.out h1))) (CheckCode_eq W S code))
  clear C24g
  have H := Aside0.mk (rfl : chooseS W S l code = chooseS W S l code)
  refine (callsIn_wide (n := 5)).1 (callsIn_of_wp_marks Try.func56 rfl trivial ?_ rfl)
  simp only [Try.ntmps56, List.size_toArray, List.length_cons, List.length_nil, Nat.reduceAdd, Nat.reduceSub, Array.replicate_succ, Array.replicate_zero, List.push_toArray, List.append_toArray, List.nil_append, List.cons_append]
  by_cases hl : okLock W S
  case neg =>
    have hS : chooseS W S l code = ([], 10) := by unfold chooseS; rw [if_neg hl]
    rw [hS]
    rw [if_neg hl] at C24
    clear hS hl
    gi_wp2_with (first | (refine ⟨trivial, ?_⟩; gi_at_call 24; refine (callsIn_wide.2 (C24.out _)).mono ?_; rintro e w6 ⟨rfl, h6⟩; rw [← HW0.out] at h6; have HB6 := Aside0.mk (below_then HB.out HB.out.size h6); clear h6))
    exact fin56 _ _ _ _ rfl rfl (ChoosePost.nil HB6.out)
  rw [if_pos hl] at C24
  by_cases h12 : 12 < l.length
  · have hS : chooseS W S l code = ([], 2) := by unfold chooseS; rw [if_pos hl, if_pos h12]
    have d12 : decide ((12 : Int) < l.length) = true := decide_eq_true (by omega)
    rw [hS]
    clear hS hl h12
    gi_wp2_with (first | (refine ⟨trivial, ?_⟩; gi_at_call 24; refine (callsIn_wide.2 (C24.out _)).mono ?_; rintro e w6 ⟨rfl, h6⟩; rw [← HW0.out] at h6; have HB6 := Aside0.mk (below_then HB.out HB.out.size h6); have a26 := (blk_cell (blk_below K1.out h6) 0).trans rfl; clear h6))
    exact fin56 _ _ _ _ rfl rfl (ChoosePost.nil HB6.out)
  have d12 : decide ((12 : Int) < l.length) = false := decide_eq_false (by omega)
  by_cases hch : checkCluesS W S l = 0
  case neg =>
    have hS : chooseS W S l code = ([], checkCluesS W S l) := by unfold chooseS; rw [if_pos hl, if_neg h12, if_neg hch]
    rw [hS]
    have hne : (checkCluesS W S l != 0) = true := bne_iff_ne.mpr hch
    obtain ⟨ex, hex⟩ : ∃ ex, ex = checkCluesS W S l := ⟨_, rfl⟩
    rw [← hex] at C62 hne ⊢
    clear hS hl h12 hex hch
    gi_wp2_with (first
      | (refine ⟨trivial, ?_⟩; gi_at_call 62; refine (callsIn_wide.2 (C62.out _ HB6.out)).mono ?_; rintro e w7 ⟨rfl, h7⟩; have HB7 := Aside0.mk (below_then HB6.out HB6.out.size h7); clear h7)
      | (refine ⟨trivial, ?_⟩; gi_at_call 24; refine (callsIn_wide.2 (C24.out _)).mono ?_; rintro e w6 ⟨rfl, h6⟩; rw [← HW0.out] at h6; have HB6 := Aside0.mk (below_then HB.out HB.out.size h6); obtain ⟨b0, b1⟩ := cells2 (blk_below K0.out h6); have a26 := (blk_cell (blk_below K1.out h6) 0).trans rfl; clear h6))
    exact fin56 _ _ _ _ rfl rfl (ChoosePost.nil HB7.out)
  rw [hch] at C62
  by_cases hcd : isCodeB W S code = true
  case neg =>
    have hS : chooseS W S l code = ([], 12) := by unfold chooseS; rw [if_pos hl, if_neg h12, if_pos hch, if_neg hcd]
    rw [if_pos hl, if_neg hcd] at C28
    rw [hS]
    clear hS hl h12 hch hcd
    gi_wp2_with (first
      | (refine ⟨trivial, ?_⟩; gi_at_call 28; refine (callsIn_wide.2 (C28.out _ HB7.out)).mono ?_; rintro e w8 ⟨rfl, h8⟩; have HB8 := Aside0.mk (below_then HB7.out HB7.out.size h8); clear h8)
      | (refine ⟨trivial, ?_⟩; gi_at_call 62; refine (callsIn_wide.2 (C62.out _ HB6.out)).mono ?_; rintro e w7 ⟨rfl, h7⟩; have HB7 := Aside0.mk (below_then HB6.out HB6.out.size h7); clear b0 b1; obtain ⟨b0, b1⟩ := cells2 (blk_below K06.out h7); clear h7)
      | (refine ⟨trivial, ?_⟩; gi_at_call 24; refine (callsIn_wide.2 (C24.out _)).mono ?_; rintro e w6 ⟨rfl, h6⟩; rw [← HW0.out] at h6; have HB6 := Aside0.mk (below_then HB.out HB.out.size h6); have K06 := Aside0.mk (blk_below K0.out h6); obtain ⟨b0, b1⟩ := cells2 K06.out; have a26 := (blk_cell (blk_below K1.out h6) 0).trans rfl; clear h6))
    exact fin56 _ _ _ _ rfl rfl (ChoosePost.nil HB8.out)
  rw [if_pos hl, if_pos hcd] at C28
  obtain ⟨_, _, hv⟩ := checkClues_ok hch
  obtain ⟨n, s, rfl, rfl, hn1, hn4, hs2, hs10⟩ := lock_nat hl
  have HOK := Aside0.mk (ok_all hl hv)
  have hS : chooseS n s l code = foundS (findN (fun m => srch (oneT s n l) m [] (usable l code l.length)) 1 (usable l code l.length).length) := by unfold chooseS; rw [if_pos hl, if_neg h12, if_pos hch, if_pos hcd]; simp only [Int.toNat_natCast]
  rw [hS]
  have HOC := Aside0.mk (fun q (hq : q ∈ l) => okC_of_valid hl (List.all_eq_true.1 hv q hq) hcd)
  have h12' : l.length ≤ 12 := by omega
  have hmk := fun wx : World => run_makeB l.length wx (by omega)
  clear hS hl h12 hch hcd hv
  gi_wp2_with (first
      | (refine ⟨trivial, ?_⟩; gi_at_call 28; refine (callsIn_wide.2 (C28.out _ HB7.out)).mono ?_; rintro e w8 ⟨rfl, h8⟩; have HB8 := Aside0.mk (below_then HB7.out HB7.out.size h8); have K08 := Aside0.mk (blk_below K07.out h8); have K18 := Aside0.mk (blk_below K17.out h8); have a28 := (blk_cell K18.out 0).trans rfl; clear h8; obtain ⟨d0, d1⟩ := cells2 (blk_alloc (blk_alloc (blk_alloc K08.out (.cells (nilsB l.length) 110)) (.cells #[.slice (some ⟨w8.heap.size, 0, none⟩) l.length l.length, .int .i64 0] 108)) (.cells #[.pointer (some ⟨w8.heap.size + 1, 0, none⟩)] 105)))
      | (refine ⟨trivial, ?_⟩; gi_at_call 85; refine (callsIn_wide.2 (codes_codes.calls _ _ _)).mono ?_; rintro e w9 ⟨rfl, rfl⟩)
      | (refine ⟨trivial, ?_⟩; gi_at_call 62; refine (callsIn_wide.2 (C62.out _ HB6.out)).mono ?_; rintro e w7 ⟨rfl, h7⟩; have HB7 := Aside0.mk (below_then HB6.out HB6.out.size h7); clear b0 b1; have K07 := Aside0.mk (blk_below K06.out h7); have K17 := Aside0.mk (blk_below K16.out h7); obtain ⟨b0, b1⟩ := cells2 K07.out; clear h7)
      | (refine ⟨trivial, ?_⟩; gi_at_call 24; refine (callsIn_wide.2 (C24.out _)).mono ?_; rintro e w6 ⟨rfl, h6⟩; rw [← HW0.out] at h6; have HB6 := Aside0.mk (below_then HB.out HB.out.size h6); have K06 := Aside0.mk (blk_below K0.out h6); have K16 := Aside0.mk (blk_below K1.out h6); obtain ⟨b0, b1⟩ := cells2 K06.out; have a26 := (blk_cell K16.out 0).trans rfl; clear h6))
  obtain ⟨w9, hw9⟩ : ∃ w9, w9 = (((w8.alloc (.cells (nilsB l.length) 110)).alloc (.cells #[.slice (some ⟨w8.heap.size, 0, none⟩) l.length l.length, .int .i64 0] 108)).alloc (.cells #[.pointer (some ⟨w8.heap.size + 1, 0, none⟩)] 105)).alloc (.cells #[.int .i64 n, .int .i64 s] 83) := ⟨_, rfl⟩
  have hz9 : w9.heap.size = w8.heap.size + 4 := by rw [hw9]; simp
  have hSO : ∀ ok : Nat → Prop, ok w8.heap.size → Kd.S kBB 110 w9 w.heap.size ok (.slice (some ⟨w8.heap.size, 0, none⟩) l.length l.length) (rowsB l []) := fun ok hok => by
    rw [hw9, rowsB_nil]
    exact Kd.S_step (Kd.S_step (Kd.S_step (S_nilsB l.length w8 w.heap.size ok HB8.out.size hok (by omega)) (fun k _ hk => (Below.heap_alloc _ _ k hk))) (fun k _ hk => (Below.heap_alloc _ _ k hk))) (fun k _ hk => (Below.heap_alloc _ _ k hk))
  have hC9 : w9.heap[w8.heap.size + 1]? = some (.cells #[.slice (some ⟨w8.heap.size, 0, none⟩) l.length l.length, .int .i64 0] 108 (0, 0)) := by
    rw [hw9]; have := blk_new (w8.alloc (.cells (nilsB l.length) 110)) (.cells #[.slice (some ⟨w8.heap.size, 0, none⟩) l.length l.length, .int .i64 0] 108); rw [World.size_alloc] at this; exact blk_alloc (blk_alloc this _) _
  have hV9 : w9.heap[w8.heap.size + 1 + 1]? = some (.cells #[.pointer (some ⟨w8.heap.size + 1, 0, none⟩)] 105 (0, 0)) := by
    rw [hw9]; have := blk_new ((w8.alloc (.cells (nilsB l.length) 110)).alloc (.cells #[.slice (some ⟨w8.heap.size, 0, none⟩) l.length l.length, .int .i64 0] 108)) (.cells #[.pointer (some ⟨w8.heap.size + 1, 0, none⟩)] 105); rw [World.size_alloc, World.size_alloc] at this; exact blk_alloc this _
  have hL9 : w9.heap[w8.heap.size + 1 + 1 + 1]? = some (.cells #[.int .i64 n, .int .i64 s] 83 (0, 0)) := by
    rw [hw9]; have := blk_new (((w8.alloc (.cells (nilsB l.length) 110)).alloc (.cells #[.slice (some ⟨w8.heap.size, 0, none⟩) l.length l.length, .int .i64 0] 108)).alloc (.cells #[.pointer (some ⟨w8.heap.size + 1, 0, none⟩)] 105)) (.cells #[.int .i64 n, .int .i64 s] 83); rw [World.size_alloc, World.size_alloc, World.size_alloc] at this; exact this
  have k09 : w9.heap[w.heap.size]? = some (.cells #[.int .i64 n, .int .i64 s] 23 (0, 0)) := by rw [hw9]; exact blk_alloc (blk_alloc (blk_alloc (blk_alloc K08.out _) _) _) _
  have k19 : w9.heap[w.heap.size + 1]? = some (.cells #[.slice A1 l.length c1] 31 (0, 0)) := by rw [hw9]; exact blk_alloc (blk_alloc (blk_alloc (blk_alloc K18.out _) _) _) _
  have hB9 : Below w.heap.size w w9 := by rw [hw9]; have h8 := HB8.out.size; exact (((HB8.out.alloc h8 _).alloc (by simp; omega) _).alloc (by simp; omega) _).alloc (by simp; omega) _
  have hws : w.heap.size + 2 ≤ w8.heap.size := by have := blk_lt K18.out; omega
  rw [← hw9]
  clear hw9 d0 d1 a28
  obtain ⟨O, hO⟩ : ∃ O, O = w8.heap.size := ⟨_, rfl⟩
  rw [← hO] at hz9 hSO hC9 hV9 hL9 hws ⊢
  have hz9a : O + 4 ≤ w9.heap.size := Nat.le_of_eq hz9.symm
  have hz9b : w9.heap.size ≤ O + 4 := Nat.le_of_eq hz9
  clear hO hz9
  have hit : ∀ r : Loop, Iters Try.prog 109 #[.pointer (some ⟨O + 1 + 1 + 1, 0, none⟩)] (fun _ : List Int => #[.slice (some ⟨w9.heap.size + 2, 0, none⟩) n n]) (Lent (w9.heap.size + 2)) (allCodes s n) 1 (fun b => b = O ∨ b = O + 1) ((w9.alloc (.deferred (some []))).alloc (.loop r)) := fun r => by
    have := codes_iter n s hn4 ⟨hs2, hs10⟩ (O + 1 + 1 + 1) (fun b => b = O ∨ b = O + 1) ((w9.alloc (.deferred (some []))).alloc (.loop r)) (blk_alloc (blk_alloc hL9 _) _) (fun h => by omega) (fun b h => by simp; omega)
    have e : ((w9.alloc (.deferred (some []))).alloc (.loop r)).heap.size = w9.heap.size + 2 := by simp
    rwa [e] at this
  refine wpIn_iter (k := 1) (M := fun b => b = O ∨ b = O + 1) (gf := 109) (lb := #[.pointer (some ⟨O + 1 + 1 + 1, 0, none⟩)]) rfl (enters_of Try.func109 (by kernel_rfl) rfl) hit
    (fun b h => by omega) (fun _ => rfl) (fun x A B h hab => lent_apart h hab (by omega))
    (fun pre W => Kd.S kBB 110 W w.heap.size (fun k => k = O ∨ w9.heap.size + 3 ≤ k) (.slice (some ⟨O, 0, none⟩) l.length l.length) (rowsB l pre) ∧ W.heap[O + 1]? = some (.cells #[.slice (some ⟨O, 0, none⟩) l.length l.length, .int .i64 (pre.length : Nat)] 108 (0, 0)) ∧ W.heap[O + 1 + 1]? = some (.cells #[.pointer (some ⟨O + 1, 0, none⟩)] 105 (0, 0)) ∧ W.heap[w.heap.size]? = some (.cells #[.int .i64 n, .int .i64 s] 23 (0, 0)) ∧ W.heap[w.heap.size + 1]? = some (.cells #[.slice A1 l.length c1] 31 (0, 0)) ∧ Below w.heap.size w W)
    (fun _ _ _ => False) ?hI ?hIx ⟨hSO _ (.inl rfl), hC9, hV9, k09, k19, hB9⟩
    (fun x => { tmps := #[.agg #[.int .i64 n, .int .i64 s], .slice A1 l.length c1, .slice A2 code.length c2, .pointer (some ⟨w.heap.size, 0, none⟩), .pointer (some ⟨w.heap.size + 1, 0, none⟩), undef, .slice none 0 0, .int .i64 0, .int .i64 0, .int .i64 0, .int .i64 0, .pointer (some ⟨O + 1 + 1, 0, none⟩), .slice (some ⟨w9.heap.size + 2, 0, none⟩) n n, undef, undef, undef, undef, undef, undef, undef, .agg #[.int .i64 n, .int .i64 s], .int .i64 0, .int .i64 0, .bool false, undef, .slice A1 l.length c1, .int .i64 l.length, .bool false, .agg #[.int .i64 n, .int .i64 s], .slice A1 l.length c1, .int .i64 0, .int .i64 0, .bool false, undef, .agg #[.int .i64 n, .int .i64 s], .slice A2 code.length c2, .int .i64 0, .int .i64 0, .bool false, undef, .slice A1 l.length c1, .int .i64 l.length, .slice (some ⟨O, 0, none⟩) l.length l.length, .agg #[.slice (some ⟨O, 0, none⟩) l.length l.length, .int .i64 0], .pointer (some ⟨O + 1, 0, none⟩), .agg #[.int .i64 n, .int .i64 s], .func (.func 109) #[] #[.pointer (some ⟨O + 1 + 1 + 1, 0, none⟩)], .slice (some ⟨w9.heap.size + 2, 0, none⟩) n n, undef, undef, undef, undef, undef, undef, undef, undef, undef, undef, undef, undef, undef, undef, undef, undef, undef, undef, undef, undef, undef, undef, undef, undef, undef, undef, undef, undef, undef, undef, undef, undef, undef, undef, undef, undef, undef, undef, undef, undef, undef, undef, undef, undef, undef, undef, undef, undef, undef, undef, undef, undef, undef, undef, undef, undef, undef, undef, undef, undef, undef], defers := [] }) ?assign ?body ?done ?stop
  case hI =>
    rintro pre A B ⟨h1, h2, h3, h4, h5, h6⟩ hab
    exact ⟨Kd.S_step h1 (fun k hk hlt => hab.block k hlt (by omega)), (hab.block _ (blk_lt h2) (.inl (by omega))).trans h2, (hab.block _ (blk_lt h3) (.inl (by omega))).trans h3, (hab.block _ (blk_lt h4) (.inl (by omega))).trans h4, (hab.block _ (blk_lt h5) (.inl (by omega))).trans h5, below_of_apart h6 hab (by omega) h6.size⟩
  case hIx => exact fun _ _ _ _ h _ => h.elim
  case assign =>
    intro l' x W K hK
    gi_wp2
    exact hK
  case body =>
    rintro l' pre x W hpre ⟨h1, h2, h3, h4, h5, h6⟩ hx hsz
    have hmem : x ∈ allCodes s n := hpre.subset (by simp)
    have hxl : x.length = n := by
      have := (isCodeB_iff.1 (allCodes_isCode (by omega) hmem)).1; omega
    have hple : pre.length + 1 ≤ 10000 := by
      have := hpre.length_le
      have h2 := codes_many hn4 hs10
      simp at this
      omega
    have HOX := Aside0.mk (HOK.out x hmem)
    have H1 := Aside0.mk h1
    have H2 := Aside0.mk h2
    have H3 := Aside0.mk h3
    have H5 := Aside0.mk h5
    have H4 := Aside0.mk h4
    have H6 := Aside0.mk h6
    have HX := Aside0.mk hx
    have HXL := Aside0.mk hxl
    have z5 := (blk_cell h5 0).trans rfl
    clear h1 h2 h3 h4 h5 h6 hx hmem hpre hxl
    gi_wp2
    clear z5
    gi_loopw [50] (fun v50 wr => ∃ j : Nat, Aside0 (j ≤ l.length) ∧ v50 = .int .i64 j ∧ Aside0 (Kd.S kBB 110 wr w.heap.size (fun k => k = O ∨ w9.heap.size + 3 ≤ k) (.slice (some ⟨O, 0, none⟩) l.length l.length) (rowsT l pre x j)) ∧ Aside0 (wr.heap[O + 1]? = some (.cells #[.slice (some ⟨O, 0, none⟩) l.length l.length, .int .i64 (pre.length : Nat)] 108 (0, 0))) ∧ Aside0 (KeepM (w9.heap.size + 3) (fun b => b = O ∨ b = O + 1) W wr) ∧ Aside0 (Below w.heap.size w wr)) (fun v50 _ => l.length - (intOf v50).toNat)
    case atStart => exact ⟨0, ⟨Nat.zero_le _⟩, rfl, ⟨by rw [rowsT_zero]; exact H1.out⟩, H2, ⟨KeepM.refl _ _ W⟩, H6⟩
    case round =>
      obtain ⟨j, hj, rfl, HS, HC, HKM, HBR⟩ := hrel
      have HV := Aside0.mk ((HKM.out.block _ (by omega) (by omega)).trans H3.out)
      have HXr := Aside0.mk ((HKM.out.block _ (by omega) (by omega)).trans HX.out)
      have hzr : w9.heap.size + 3 ≤ wr.heap.size := Nat.le_trans hsz HKM.out.size
      by_cases hlt : j < l.length
      · obtain ⟨adl, A5, c5, el, k0, k1, k2, k3, k4, k5, k6, hl5, hg5⟩ := at_T36 G1.out (j : Int) (by omega) (by omega)
        subst el
        have hokq := HOX.out (rd_T36 l (j : Int)) (by
          have e : rd_T36 l (j : Int) = l[j] := by simp [rd_T36, List.getD_eq_getElem?_getD, List.getElem?_eq_getElem hlt]
          rw [e]; exact List.getElem_mem _)
        have hset := rowsT_set l pre x j hlt
        have hget := rowsT_get l pre x j hlt
        obtain ⟨q, hq⟩ : ∃ q, q = rd_T36 l (j : Int) := ⟨_, rfl⟩
        rw [← hq] at k0 k1 k2 k3 k4 k5 k6 hl5 hg5 hokq hset hget
        rw [Int.toNat_natCast] at k0 k1 k2 k3 k4 k5 k6
        have mv := fun (a : Addr) (v : Value) (h : w.cell? a = some v) => (HBR.out.cell (World.block_lt_of_cell? w _ h)).trans h
        replace k0 := mv _ _ k0
        replace k1 := mv _ _ k1
        replace k2 := mv _ _ k2
        replace k3 := mv _ _ k3
        replace k4 := mv _ _ k4
        replace k5 := mv _ _ k5
        replace k6 := mv _ _ k6
        have C70 := Aside0.mk (fun w1 (h1 : Below w.heap.size w w1) (h2 : w1.heap[w9.heap.size + 2]? = wr.heap[w9.heap.size + 2]?) => codes_holds.calls q.f0 q.f1 q.f2 q.f3 q.f4 A5 c5 q.f5 q.f6 (some ⟨w9.heap.size + 2, 0, none⟩) x.length x (holdsC q x) w1 (Kd.C_below hg5 h1) hl5 (lent_C (h2.trans HXr.out) (by rw [HXL.out]; omega)) (Nat.le_refl _) (holds_eq q x hokq))
        rw [HXL.out] at C70
        obtain ⟨b, hb⟩ : ∃ b, b = holdsC q x := ⟨_, rfl⟩
        rw [← hb] at C70 hset
        obtain ⟨X, hX⟩ : ∃ X, X = pre.map (holdsC q) := ⟨_, rfl⟩
        have hXl : X.length = pre.length := by rw [hX, List.length_map]
        rw [← hX] at hset hget
        have HSET := Aside0.mk hset
        have HGET := Aside0.mk hget
        have HXLEN := Aside0.mk hXl
        have HL5 := Aside0.mk hl5
        clear hq hb hX hset hget hXl mv hg5 hl5 hokq
        gi_wp2
        have hzq : (wr.alloc (.cells #[.int .i64 q.f0, .int .i64 q.f1, .int .i64 q.f2, .int .i64 q.f3, .int .i64 q.f4, .slice A5 q.f5.length c5, .bool q.f6] 36)).heap.size = wr.heap.size + 1 := by simp
        obtain ⟨wq, hwq⟩ : ∃ wq, wq = wr.alloc (.cells #[.int .i64 q.f0, .int .i64 q.f1, .int .i64 q.f2, .int .i64 q.f3, .int .i64 q.f4, .slice A5 q.f5.length c5, .bool q.f6] 36) := ⟨_, rfl⟩
        rw [← hwq] at hzq ⊢
        have HBq : Aside0 (Below wr.heap.size wr wq) := ⟨by rw [hwq]; exact (Below.refl _ _).alloc (Nat.le_refl _) _⟩
        have b1 : wq.heap[wr.heap.size]? = some (.cells #[.int .i64 q.f0, .int .i64 q.f1, .int .i64 q.f2, .int .i64 q.f3, .int .i64 q.f4, .slice A5 q.f5.length c5, .bool q.f6] 36 (0, 0)) := by rw [hwq]; exact blk_new wr _
        have HSq := Aside0.mk (Kd.S_below HS.out HBq.out)
        have HCq := Aside0.mk (blk_below HC.out HBq.out)
        have HVq := Aside0.mk (blk_below HV.out HBq.out)
        clear hwq
        obtain ⟨oki, Ai, ci, hRi, hli, hci, hoki, _⟩ := row_putB hlt (fun k hk => .inr (by omega)) HSq.out
        rw [HGET.out] at hRi hli hci
        have HB1 := Aside0.mk b1
        clear hRi hli hoki b1
        refine startR_ (n := 19) (S := fun w' => w'.heap[O + 1 + 1]? = some (.cells #[.pointer (some ⟨O + 1, 0, none⟩)] 105 (0, 0)) ∧ w'.heap[O + 1]? = some (.cells #[.slice (some ⟨O, 0, none⟩) l.length l.length, .int .i64 (pre.length : Nat)] 108 (0, 0)) ∧ w'.cell? ⟨O, j, none⟩ = some (.slice Ai X.length ci) ∧ w'.heap[wr.heap.size]? = some (.cells #[.int .i64 q.f0, .int .i64 q.f1, .int .i64 q.f2, .int .i64 q.f3, .int .i64 q.f4, .slice A5 q.f5.length c5, .bool q.f6] 36 (0, 0))) (ds := [18]) #[false, false, false, false, false, false, false, false, false, false, false, false, false, false, false, false, false, false, false] (by kernel_rfl) rfl rfl (noDefer_spec (by kernel_rfl)) (by rintro ⟨a, w, h⟩; exact h) ⟨blk_drew HVq.out, blk_drew HCq.out, hci, blk_drew HB1.out⟩ (fun hHeld => ?_)
        refine take_ (i := 0) (N := some 55) (v := ?_) (a' := ?_) #[true, false, false, false, false, false, false, false, false, false, false, false, false, false, false, false, false, false, false] rfl rfl (by kernel_rfl) (fun _ _ _ h => h) (Or.inl ⟨by rfl, ?_⟩) hHeld ?_ ?_
        rotate_left
        · rintro w' ⟨s0, s1, s2, s3⟩
          have s00 := (blk_cell s0 0).trans rfl
          obtain ⟨s10, s11⟩ := cells2 s1
          obtain ⟨q0, q1, q2, q3, q4, q5, q6⟩ := cells7 s3
          go_simp
          with_reducible rfl
        rotate_left
        · simp only [Act.put, List.setIfInBounds_toArray, List.set_cons_zero, List.set_cons_succ, i64_w, i32_w]
          rfl
        refine pure_ (i := 1) (N := some 56) (v := ?_) (a' := ?_) #[true, true, false, false, false, false, false, false, false, false, false, false, false, false, false, false, false, false, false] rfl rfl (by kernel_rfl) (fun _ _ _ h => h) (Or.inl ⟨by rfl, ?_⟩) ?_ ?_
        rotate_left
        · intro w'
          go_simp
          with_reducible rfl
        rotate_left
        · simp only [Act.put, List.setIfInBounds_toArray, List.set_cons_zero, List.set_cons_succ, i64_w, i32_w]
          rfl
        refine pure_ (i := 2) (N := some 57) (v := ?_) (a' := ?_) #[true, true, true, false, false, false, false, false, false, false, false, false, false, false, false, false, false, false, false] rfl rfl (by kernel_rfl) (fun _ _ _ h => h) (Or.inl ⟨by rfl, ?_⟩) ?_ ?_
        rotate_left
        · intro w'
          go_simp
          with_reducible rfl
        rotate_left
        · simp only [Act.put, List.setIfInBounds_toArray, List.set_cons_zero, List.set_cons_succ, i64_w, i32_w]
          rfl
        refine take_ (i := 3) (N := some 58) (v := ?_) (a' := ?_) #[true, true, true, true, false, false, false, false, false, false, false, false, false, false, false, false, false, false, false] rfl rfl (by kernel_rfl) (fun _ _ _ h => h) (Or.inl ⟨by rfl, ?_⟩) hHeld ?_ ?_
        rotate_left
        · rintro w' ⟨s0, s1, s2, s3⟩
          have s00 := (blk_cell s0 0).trans rfl
          obtain ⟨s10, s11⟩ := cells2 s1
          obtain ⟨q0, q1, q2, q3, q4, q5, q6⟩ := cells7 s3
          go_simp
          with_reducible rfl
        rotate_left
        · simp only [Act.put, List.setIfInBounds_toArray, List.set_cons_zero, List.set_cons_succ, i64_w, i32_w]
          rfl
        refine pure_ (i := 4) (N := some 59) (v := ?_) (a' := ?_) #[true, true, true, true, true, false, false, false, false, false, false, false, false, false, false, false, false, false, false] rfl rfl (by kernel_rfl) (fun _ _ _ h => h) (Or.inl ⟨by rfl, ?_⟩) ?_ ?_
        rotate_left
        · intro w'
          go_simp
          with_reducible rfl
        rotate_left
        · simp only [Act.put, List.setIfInBounds_toArray, List.set_cons_zero, List.set_cons_succ, i64_w, i32_w]
          rfl
        refine take_ (i := 5) (N := some 60) (v := ?_) (a' := ?_) #[true, true, true, true, true, true, false, false, false, false, false, false, false, false, false, false, false, false, false] rfl rfl (by kernel_rfl) (fun _ _ _ h => h) (Or.inl ⟨by rfl, ?_⟩) hHeld ?_ ?_
        rotate_left
        · rintro w' ⟨s0, s1, s2, s3⟩
          have s00 := (blk_cell s0 0).trans rfl
          obtain ⟨s10, s11⟩ := cells2 s1
          obtain ⟨q0, q1, q2, q3, q4, q5, q6⟩ := cells7 s3
          go_simp
          with_reducible rfl
        rotate_left
        · simp only [Act.put, List.setIfInBounds_toArray, List.set_cons_zero, List.set_cons_succ, i64_w, i32_w]
          rfl
        refine pure_ (i := 6) (N := some 61) (v := ?_) (a' := ?_) #[true, true, true, true, true, true, true, false, false, false, false, false, false, false, false, false, false, false, false] rfl rfl (by kernel_rfl) (fun _ _ _ h => h) (Or.inl ⟨by rfl, ?_⟩) ?_ ?_
        rotate_left
        · intro w'
          go_simp
          with_reducible rfl
        rotate_left
        · simp only [Act.put, List.setIfInBounds_toArray, List.set_cons_zero, List.set_cons_succ, i64_w, i32_w]
          rfl
        refine pure_ (i := 7) (N := some 62) (v := ?_) (a' := ?_) #[true, true, true, true, true, true, true, true, false, false, false, false, false, false, false, false, false, false, false] rfl rfl (by kernel_rfl) (fun _ _ _ h => h) (Or.inl ⟨by rfl, ?_⟩) ?_ ?_
        rotate_left
        · intro w'
          go_simp
          with_reducible rfl
        rotate_left
        · simp only [Act.put, List.setIfInBounds_toArray, List.set_cons_zero, List.set_cons_succ, i64_w, i32_w]
          rfl
        refine take_ (i := 8) (N := some 63) (v := ?_) (a' := ?_) #[true, true, true, true, true, true, true, true, true, false, false, false, false, false, false, false, false, false, false] rfl rfl (by kernel_rfl) (fun _ _ _ h => h) (Or.inl ⟨by rfl, ?_⟩) hHeld ?_ ?_
        rotate_left
        · rintro w' ⟨s0, s1, s2, s3⟩
          have s00 := (blk_cell s0 0).trans rfl
          obtain ⟨s10, s11⟩ := cells2 s1
          obtain ⟨q0, q1, q2, q3, q4, q5, q6⟩ := cells7 s3
          go_simp
          with_reducible rfl
        rotate_left
        · simp only [Act.put, List.setIfInBounds_toArray, List.set_cons_zero, List.set_cons_succ, i64_w, i32_w]
          rfl
        refine pure_ (i := 9) (N := some 64) (v := ?_) (a' := ?_) #[true, true, true, true, true, true, true, true, true, true, false, false, false, false, false, false, false, false, false] rfl rfl (by kernel_rfl) (fun _ _ _ h => h) (Or.inl ⟨by rfl, ?_⟩) ?_ ?_
        rotate_left
        · intro w'
          go_simp
          with_reducible rfl
        rotate_left
        · simp only [Act.put, List.setIfInBounds_toArray, List.set_cons_zero, List.set_cons_succ, i64_w, i32_w]
          rfl
        refine pure_ (i := 10) (N := some 65) (v := ?_) (a' := ?_) #[true, true, true, true, true, true, true, true, true, true, true, false, false, false, false, false, false, false, false] rfl rfl (by kernel_rfl) (fun _ _ _ h => h) (Or.inl ⟨by rfl, ?_⟩) ?_ ?_
        rotate_left
        · intro w'
          go_simp
          with_reducible rfl
        rotate_left
        · simp only [Act.put, List.setIfInBounds_toArray, List.set_cons_zero, List.set_cons_succ, i64_w, i32_w]
          rfl
        refine take_ (i := 11) (N := some 66) (v := ?_) (a' := ?_) #[true, true, true, true, true, true, true, true, true, true, true, true, false, false, false, false, false, false, false] rfl rfl (by kernel_rfl) (fun _ _ _ h => h) (Or.inl ⟨by rfl, ?_⟩) hHeld ?_ ?_
        rotate_left
        · rintro w' ⟨s0, s1, s2, s3⟩
          have s00 := (blk_cell s0 0).trans rfl
          obtain ⟨s10, s11⟩ := cells2 s1
          obtain ⟨q0, q1, q2, q3, q4, q5, q6⟩ := cells7 s3
          go_simp
          with_reducible rfl
        rotate_left
        · simp only [Act.put, List.setIfInBounds_toArray, List.set_cons_zero, List.set_cons_succ, i64_w, i32_w]
          rfl
        refine take_ (i := 12) (N := some 67) (v := ?_) (a' := ?_) #[true, true, true, true, true, true, true, true, true, true, true, true, true, false, false, false, false, false, false] rfl rfl (by kernel_rfl) (fun _ _ _ h => h) (Or.inl ⟨by rfl, ?_⟩) hHeld ?_ ?_
        rotate_left
        · rintro w' ⟨s0, s1, s2, s3⟩
          have s00 := (blk_cell s0 0).trans rfl
          obtain ⟨s10, s11⟩ := cells2 s1
          obtain ⟨q0, q1, q2, q3, q4, q5, q6⟩ := cells7 s3
          go_simp
          with_reducible rfl
        rotate_left
        · simp only [Act.put, List.setIfInBounds_toArray, List.set_cons_zero, List.set_cons_succ, i64_w, i32_w]
          rfl
        refine pure_ (i := 13) (N := some 68) (v := ?_) (a' := ?_) #[true, true, true, true, true, true, true, true, true, true, true, true, true, true, false, false, false, false, false] rfl rfl (by kernel_rfl) (fun _ _ _ h => h) (Or.inl ⟨by rfl, ?_⟩) ?_ ?_
        rotate_left
        · intro w'
          go_simp
          with_reducible rfl
        rotate_left
        · simp only [Act.put, List.setIfInBounds_toArray, List.set_cons_zero, List.set_cons_succ, i64_w, i32_w]
          rfl
        refine one_ (i := 14) (N := some 69) #[true, true, true, true, true, true, true, true, true, true, true, true, true, true, true, false, false, false, false] rfl rfl (by kernel_rfl) (by decide) (fun K hK => ?_)
        refine goes_ Try.func70 (by kernel_rfl) rfl #[.agg #[.int .i64 q.f0, .int .i64 q.f1, .int .i64 q.f2, .int .i64 q.f3, .int .i64 q.f4, .slice A5 q.f5.length c5, .bool q.f6], .slice (some ⟨w9.heap.size + 2, 0, none⟩) n n] (by rfl) rfl rfl (by (try simp only [List.map_toArray, List.map_cons, List.map_nil]); first | done | rfl) ?_
        have HBWq := Aside0.mk (HBR.out.trans (HBq.out.mono HBR.out.size)).drew
        refine (C70.out _ HBWq.out (HBq.out.block _ (by omega))).mono ?_
        rintro e w5 ⟨rfl, h5⟩
        refine ⟨_, rfl, ?_⟩
        have hS5 : ∀ a v, wq.drew.cell? a = some v → w5.cell? a = some v := fun a v h => (h5.cell (World.block_lt_of_cell? wq.drew _ h)).trans h
        refine hK.out _ _ ⟨blk_below hHeld.1 h5, blk_below hHeld.2.1 h5, hS5 _ _ hHeld.2.2.1, blk_below hHeld.2.2.2 h5⟩ (fun hHeld => ?_)
        clear hK K
        have hz5 : wr.heap.size + 1 ≤ w5.heap.size := by have := h5.size; simp at this; omega
        have HS5 := Aside0.mk (Kd.S_below (Kd.S_drew HSq.out) h5)
        have HB5 := Aside0.mk (HBWq.out.trans (h5.mono HBWq.out.size))
        have HK5 := Aside0.mk (((HKM.out.of_below HBq.out (by omega)).drew).of_below h5 (by simp; omega))
        clear h5 hS5
        obtain ⟨oki', Ai', ci', hRi, hli, hci', hoki, hput⟩ := row_putB hlt (fun k hk => .inr (by omega)) HS5.out
        rw [HGET.out] at hRi hli hci' hput
        obtain ⟨rfl, rfl⟩ : Ai' = Ai ∧ ci' = ci := by
          have := hci'.symm.trans hHeld.2.2.1
          simp at this; exact this
        have HPUT := Aside0.mk hput
        have HRI := Aside0.mk hRi
        have HOKI := Aside0.mk hoki
        clear hput hRi hoki hli hci hci'
        refine norm_ (a' := ?_) ?_ ?_
        rotate_left
        · show Act.put _ (some 69) _ = _
          simp only [Act.put, List.setIfInBounds_toArray, List.set_cons_zero, List.set_cons_succ, i64_w, i32_w]
          rfl
        refine one_ (i := 15) (N := some 70) #[true, true, true, true, true, true, true, true, true, true, true, true, true, true, true, true, false, false, false] rfl rfl (by kernel_rfl) (by decide) (fun K hK => ?_)
        rw [if_pos (by rfl)]
        go_simp
        refine hK.out _ _ ⟨blk_alloc hHeld.1 _, blk_alloc hHeld.2.1 _, (((Below.refl w5.heap.size w5).alloc (Nat.le_refl _) _).cell (World.block_lt_of_cell? w5 _ hHeld.2.2.1)).trans hHeld.2.2.1, blk_alloc hHeld.2.2.2 _⟩ (fun hHeld2 => ?_)
        clear hK K hHeld2
        refine one_ (i := 16) (N := some 71) #[true, true, true, true, true, true, true, true, true, true, true, true, true, true, true, true, true, false, false] rfl rfl (by kernel_rfl) (by decide) (fun K hK => ?_)
        refine Kd.R_append_step Kd.bool (w0 := w) (W := w5) w.heap.size rfl (.tmp 66) (.tmp 70) 110 4 (.bool false) 1 rfl Try.underlying110 info4 rfl (by decide) (by omega) (.slice Ai' X.length ci') X b [.bool b] (fun k => oki' k ∨ w5.heap.size ≤ k) (fun _ => False) rfl rfl rfl (fun _ hk => hk.elim) (fun k hk => .inr hk) (Kd.R_mono HRI.out (fun k hk => .inl hk)) HB5.out HB5.out.size (by rw [HXLEN.out]; omega) ?_
        intro v1 w7 hR7 hB7 hg7 hat7
        obtain ⟨A7, c7, rfl, hl7, hC7⟩ := Kd.R_reads hR7
        obtain ⟨hS7, hf7, u7, hu7⟩ := HPUT.out w7 _ _ hg7 hR7
        rw [HSET.out, List.length_append, List.length_singleton] at hS7
        have hrow7 : ∀ k, k < w5.heap.size → ¬ (k = O ∨ w9.heap.size + 3 ≤ k) ∨ k = O → w7.heap[k]? = w5.heap[k]? := fun k hk hn => hg7.block k hk (fun e => by
          have := HOKI.out k (HRI.out.1 k e.symm)
          omega)
        have HK7 := Aside0.mk (HK5.out.of_grown hg7 (by omega) (fun r hr => by
          have := HOKI.out r (HRI.out.1 r hr)
          omega))
        have hV7 := (hrow7 (O + 1 + 1) (blk_lt hHeld.1) (by omega)).trans hHeld.1
        have hC7' := (hrow7 (O + 1) (blk_lt hHeld.2.1) (by omega)).trans hHeld.2.1
        have hO7 : w7.cell? ⟨O, j, none⟩ = some (.slice Ai' X.length ci') := by
          rw [← hHeld.2.2.1]
          have hOl := World.block_lt_of_cell? w5 _ hHeld.2.2.1
          unfold World.cell?
          rw [hrow7 O hOl (by omega)]
        have hQ7 : w7.heap[wr.heap.size]? = some (.cells #[.int .i64 q.f0, .int .i64 q.f1, .int .i64 q.f2, .int .i64 q.f3, .int .i64 q.f4, .slice A5 q.f5.length c5, .bool q.f6] 36 (0, 0)) := (hg7.block _ (by omega) (Kd.R_ne HRI.out hHeld.2.2.2 (by decide))).trans hHeld.2.2.2
        refine hK.out _ _ ⟨hV7, hC7', hO7, hQ7⟩ (fun hHeld7 => ?_)
        clear hK K
        refine norm_ (a' := ?_) ?_ ?_
        rotate_left
        · show Act.put _ (some 71) _ = _
          simp only [Act.put, List.setIfInBounds_toArray, List.set_cons_zero, List.set_cons_succ, i64_w, i32_w]
          rfl
        refine pure_ (i := 17) (N := some 72) (v := ?_) (a' := ?_) #[true, true, true, true, true, true, true, true, true, true, true, true, true, true, true, true, true, true, false] rfl rfl (by kernel_rfl) (fun _ _ _ h => h) (Or.inl ⟨by rfl, ?_⟩) ?_ ?_
        rotate_left
        · intro w'
          go_simp
          with_reducible rfl
        rotate_left
        · simp only [Act.put, List.setIfInBounds_toArray, List.set_cons_zero, List.set_cons_succ, i64_w, i32_w]
          rfl
        refine last_ (i := 18) (N := none) #[true, true, true, true, true, true, true, true, true, true, true, true, true, true, true, true, true, true, true] rfl rfl (by kernel_rfl) (by decide) (fun K hK => ?_)
        rw [if_pos (by rfl)]
        go_simp
        refine hK.out _ _ ?_
        refine done_ (by kernel_rfl) ?_
        gi_wp2
        refine ⟨⟨j + 1, ⟨by omega⟩, by go_num, ⟨hS7⟩, ⟨blk_far hC7' (by show O + 1 ≠ O; omega) _⟩, ⟨HK7.out.setCell _ _ (.inl (.inl rfl))⟩, ⟨hB7.setCell (p := ⟨O, j, none⟩) (by show w.heap.size ≤ O; omega) _⟩⟩, ?_⟩
        simp [intOf]; omega
      · have hje : j = l.length := by have := hj.out; omega
        subst hje
        have HSn := Aside0.mk (show Kd.S kBB 110 wr w.heap.size (fun k => k = O ∨ w9.heap.size + 3 ≤ k) (.slice (some ⟨O, 0, none⟩) l.length l.length) (rowsB l (pre ++ [x])) by rw [← rowsT_all]; exact HS.out)
        have v0 := (blk_cell HV.out 0).trans rfl
        obtain ⟨s10, s11⟩ := cells2 HC.out
        have sf := blk_frozen HC.out 1
        have h4r := (HKM.out.block _ (by omega) (by omega)).trans H4.out
        have h5r := (HKM.out.block _ (by omega) (by omega)).trans H5.out
        have H4r := Aside0.mk h4r
        have H5r := Aside0.mk h5r
        clear HS h4r h5r
        gi_wp2
        refine ⟨⟨Kd.S_step HSn.out (fun k hk _ => Below.heap_setCell _ _ _ k (by show k ≠ O + 1; omega)), ?_, blk_far HV.out (by show O + 1 + 1 ≠ O + 1; omega) _, blk_far H4r.out (by show w.heap.size ≠ O + 1; omega) _, blk_far H5r.out (by show w.heap.size + 1 ≠ O + 1; omega) _, HBR.out.setCell (p := ⟨O + 1, 1, none⟩) (by show w.heap.size ≤ O + 1; omega) _⟩, (HKM.out.setCell _ _ (.inl (.inr rfl))).mono (by omega) (fun _ h => h)⟩
        refine blk_put HC.out 1 _ ?_
        rw [List.length_append, List.length_singleton]
        rfl
  case done =>
    rintro W ⟨h1, h2, h3, h4, h5, h6⟩ hK
    rename_i hcont
    refine hcont _ _ (wpIn_wide.2 ?_)
    clear hcont
    have hCr := (Kd.S_reads' h1).2.2
    have hz := hK
    have hWl := blk_lt h3
    have CM : Aside0 (∀ (nn : Nat) (us : List Nat) (A : Option Addr) (c : Nat) (w1 : World), Below W.heap.size W w1 → (∀ i ∈ us, i < l.length) → Kd.C (Kd.int .i64) w1 A us.length (castL us) → us.length ≤ c → 0 < nn → nn ≤ 100 → us.length ≤ 100 → Calls Try.prog 86 #[.pointer (some ⟨O + 1, 0, none⟩), .slice none 0 0, .slice A us.length c, .int .i64 (nn : Int)] w1 (MorePost (srch (oneT s n l) nn [] us) w1)) := ⟨fun nn us A c w1 hb1 hus hC hc h0 h1 h2' => by
      have := codes_more.calls (O + 1) l.length (allCodes s n).length (some ⟨O, 0, none⟩) (rowsB l (allCodes s n)) (Nat.le_trans (codes_many hn4 hs10) (by omega)) (fun i hi => by rw [rowsB_len] at hi; rw [rowsB_get l _ i hi, List.length_map]) nn none 0 [] A c us w1 (by rw [rowsB_len]; exact blk_below h2 hb1) (by rw [rowsB_len] at hCr ⊢; exact Kd.C_below hCr hb1) (fun i hi => by cases hi) (fun i hi => by rw [rowsB_len]; exact hus i hi) (Kd.C_nil _ _) (Nat.le_refl _) hC hc (fun _ => h0) (by simp; omega) (by omega)
      rw [srch_congr (T := fun b => sumB (rowsB l (allCodes s n)) b (allCodes s n).length == 1) (T' := oneT s n l) (L := l.length) (fun r hr => by rw [sumB_rows s n l r hr]; rfl) us nn [] hus (fun i hi => by cases hi)] at this
      exact this⟩
    have H6 := Aside0.mk h6
    have H3w := Aside0.mk h3
    have HKD := Aside0.mk hK
    have H5 := Aside0.mk h5
    have z5 := (blk_cell h5 0).trans rfl
    clear h1 h2 h3 h4 h5 h6 hK hCr hit hSO hC9 hV9 hL9 k09 k19 hz
    go_wp2
    clear z5
    go_loopw [15, 83] (fun v15 v83 wr => ∃ (j : Nat) (A : Option Addr) (c : Nat), Aside0 (j ≤ l.length) ∧ v83 = .int .i64 j ∧ v15 = .slice A (usable l code j).length c ∧ Aside0 (Kd.R (Kd.int .i64) 3 wr W.heap.size (fun _ => True) (.slice A (usable l code j).length c) (castL (usable l code j))) ∧ Aside0 (Below W.heap.size W wr)) (fun _ v83 _ => l.length - (intOf v83).toNat)
    case atStart => exact ⟨0, none, 0, ⟨Nat.zero_le _⟩, rfl, rfl, ⟨Kd.R_nil _ _ _ _ _⟩, ⟨Below.refl _ _⟩⟩
    case round =>
      obtain ⟨j, A, c, hj, rfl, rfl, HO, HBR⟩ := hrel
      by_cases hlt : j < l.length
      · have HBW := Aside0.mk (H6.out.trans (HBR.out.mono H6.out.size))
        obtain ⟨adl, A5, c5, el, k0, k1, k2, k3, k4, k5, k6, hl5, hg5⟩ := at_T36 G1.out (j : Int) (by omega) (by omega)
        subst el
        have hokq := HOC.out (rd_T36 l (j : Int)) (by
          have e : rd_T36 l (j : Int) = l[j] := by simp [rd_T36, List.getD_eq_getElem?_getD, List.getElem?_eq_getElem hlt]
          rw [e]; exact List.getElem_mem _)
        have hsuc := usable_succ l code j
        have husl := usable_len l code j
        obtain ⟨q, hq⟩ : ∃ q, q = rd_T36 l (j : Int) := ⟨_, rfl⟩
        rw [← hq] at k0 k1 k2 k3 k4 k5 k6 hl5 hg5 hokq hsuc
        rw [Int.toNat_natCast] at k0 k1 k2 k3 k4 k5 k6
        have mv := fun (a : Addr) (v : Value) (h : w.cell? a = some v) => (HBW.out.cell (World.block_lt_of_cell? w _ h)).trans h
        replace k0 := mv _ _ k0
        replace k1 := mv _ _ k1
        replace k2 := mv _ _ k2
        replace k3 := mv _ _ k3
        replace k4 := mv _ _ k4
        replace k5 := mv _ _ k5
        replace k6 := mv _ _ k6
        have hbq := (Below.refl wr.heap.size wr).alloc (Nat.le_refl _) (.cells #[.int .i64 q.f0, .int .i64 q.f1, .int .i64 q.f2, .int .i64 q.f3, .int .i64 q.f4, .slice A5 q.f5.length c5, .bool q.f6] 36)
        have C70 := Aside0.mk (codes_holds.calls q.f0 q.f1 q.f2 q.f3 q.f4 A5 c5 q.f5 q.f6 A2 c2 code (holdsC q code) _ (Kd.C_below (Kd.C_below hg5 HBW.out) hbq) hl5 (Kd.C_below (Kd.C_below G2.out HBW.out) hbq) e2 (holds_eq q code hokq))
        have HBQ := Aside0.mk hbq
        obtain ⟨Y, hY⟩ : ∃ Y, Y = usable l code j := ⟨_, rfl⟩
        rw [← hY] at HO hsuc husl ⊢
        obtain ⟨b, hb⟩ : ∃ b, b = holdsC q code := ⟨_, rfl⟩
        rw [← hb] at C70 hsuc
        clear hq hb hY mv hg5 hl5 hokq hbq
        cases b
        · have hsuc2 : usable l code (j + 1) = Y := by rw [hsuc]; rfl
          have HSUC := Aside0.mk hsuc2
          clear hsuc hsuc2
          go_wp2_with (go_at_call 70; refine C70.out.mono ?_; rintro e w5 ⟨rfl, h5⟩; have HB5 := Aside0.mk (below_then (HBR.out.trans (HBQ.out.mono HBR.out.size)) (HBR.out.trans (HBQ.out.mono HBR.out.size)).size h5); have HO5 := Aside0.mk (Kd.R_below (Kd.R_below HO.out HBQ.out) h5); clear h5)
          refine ⟨⟨j + 1, A, c, ⟨by omega⟩, by go_num, by rw [HSUC.out], ⟨by rw [HSUC.out]; exact HO5.out⟩, HB5⟩, ?_⟩
          simp [intOf]; omega
        · have hsuc2 : usable l code (j + 1) = Y ++ [j] := by rw [hsuc]; rfl
          have HSUC := Aside0.mk hsuc2
          have hYl : (castL Y).length = Y.length := castL_len Y
          have HYL := Aside0.mk hYl
          clear hsuc hsuc2 hYl
          go_wp2_with (first
            | (go_at_call 70; refine C70.out.mono ?_; rintro e w5 ⟨rfl, h5⟩; have HB5 := Aside0.mk (below_then (HBR.out.trans (HBQ.out.mono HBR.out.size)) (HBR.out.trans (HBQ.out.mono HBR.out.size)).size h5); have HO5 := Aside0.mk (Kd.R_below (Kd.R_below HO.out HBQ.out) h5); clear h5)
            | ((with_reducible refine gate_builtin (b := .append) (xs := #[.tmp 91, .tmp 93]) rfl ?_); at_builtin; refine Kd.R_append (Kd.int .i64) (w0 := W) W.heap.size rfl (.tmp 91) (.tmp 93) 24 3 (.int .i64 0) 8 rfl Try.underlying24 info3 rfl (by decide) (by omega) (.slice A Y.length c) (castL Y) (j : Int) [.int .i64 (j : Int)] (fun _ => True) (fun _ => False) rfl rfl rfl (fun _ hk => hk.elim) (fun _ _ => trivial) HO5.out HB5.out HB5.out.size (by rw [HYL.out]; omega) ?_; intro v1 w1 ho hb1 hg hat; rw [← castL_snoc] at ho; obtain ⟨A1_, c1_, rfl, hl1_, hC1_⟩ := Kd.R_reads ho; rw [castL_len] at ho; have HO6 := Aside0.mk ho; have HB6_ := Aside0.mk hb1; clear hb1 hg hat ho hC1_ hl1_))
          refine ⟨⟨j + 1, A1_, c1_, ⟨by omega⟩, by go_num, by rw [HSUC.out, castL_len], ⟨by rw [HSUC.out]; exact HO6.out⟩, HB6_⟩, ?_⟩
          simp [intOf]; omega
      · have hje : j = l.length := by have := hj.out; omega
        subst hje
        obtain ⟨hcl, hlc, hCU⟩ := Kd.R_reads' HO.out
        rw [castL_len] at hCU hcl
        have husl := usable_len l code l.length
        have HUS := Aside0.mk (usable_lt l code l.length)
        obtain ⟨us, hus⟩ : ∃ us, us = usable l code l.length := ⟨_, rfl⟩
        rw [← hus] at hlc hCU husl HUS ⊢
        have HCU := Aside0.mk hCU
        have HUL := Aside0.mk hlc
        have HUE := Aside0.mk hus
        obtain ⟨wx, hwx⟩ : ∃ wx, wx = wr := ⟨_, rfl⟩
        subst hwx
        clear hcl hus hCU HO hlc
        go_wp2
        go_loopw [18] (fun v18 wr => ∃ m : Nat, Aside0 (1 ≤ m ∧ m ≤ us.length + 1) ∧ v18 = .int .i64 m ∧ Aside0 (findN (fun m => srch (oneT s n l) m [] us) 1 us.length = findN (fun m => srch (oneT s n l) m [] us) m (us.length + 1 - m)) ∧ Aside0 (Below wx.heap.size wx wr)) (fun v18 _ => us.length + 1 - (intOf v18).toNat)
        case atStart => exact ⟨1, ⟨by omega⟩, rfl, ⟨rfl⟩, ⟨Below.refl _ _⟩⟩
        case round =>
          obtain ⟨m, hm, rfl, HF, HBX⟩ := hrel
          obtain ⟨hm1, hm2⟩ := hm.out
          have HBWr := Aside0.mk (HBR.out.trans (HBX.out.mono HBR.out.size))
          have v0 := (blk_cell (blk_below H3w.out HBWr.out) 0).trans rfl
          by_cases hlt : m ≤ us.length
          · have C86 := Aside0.mk (CM.out m us A c wr HBWr.out HUS.out (Kd.C_below HCU.out HBX.out) HUL.out (by omega) (by omega) (by omega))
            obtain ⟨o2, hs⟩ : ∃ o2, srch (oneT s n l) m [] us = o2 := ⟨_, rfl⟩
            rw [hs] at C86
            have hcnt : us.length + 1 - m = (us.length + 1 - (m + 1)) + 1 := by omega
            rcases o2 with _ | b
            · have HF2 := Aside0.mk (HF.out.trans (by rw [hcnt, findN_miss hs]))
              have heq := fun (u : World) => Go.run_neq_slice_nil_any (P := Try.prog) u 24 3 none 0 0 0 0 hu24
              clear hs hcnt
              go_wp2_with (go_at_call 86; refine C86.out.mono ?_; rintro e w8 ⟨v8, rfl, hF8, hB8⟩; obtain rfl : v8 = .slice none 0 0 := hF8; have HB8_ := Aside0.mk (below_then HBX.out HBX.out.size hB8); clear hB8)
              refine ⟨⟨m + 1, ⟨by omega⟩, by go_num, HF2, HB8_⟩, ?_⟩
              simp [intOf]; omega
            · have HF2 := Aside0.mk (HF.out.trans (by rw [hcnt, findN_hit hs]))
              have heq := fun (u : World) (A8 : Addr) (c8 : Nat) => Go.run_neq_slice_nil_any (P := Try.prog) u 24 3 (some A8) b.length c8 0 0 hu24
              clear hs hcnt
              go_wp2_with (go_at_call 86; refine C86.out.mono ?_; rintro e w8 ⟨v8, rfl, ⟨A8, c8, rfl, hl8, hC8⟩, hB8⟩; have HC8 := Aside0.mk hC8; have HL8 := Aside0.mk hl8; have HB8_ := Aside0.mk (below_then HBWr.out HBWr.out.size hB8); clear hB8 hC8 hl8)
              have hKD := (HB8_.out.block _ (blk_lt HKD.out)).trans HKD.out
              have HKDr := Aside0.mk hKD
              clear hKD
              refine ⟨by simp, .inl ⟨_, _, rfl, run_takeDeferred HKDr.out, ?_⟩⟩
              refine fin56 _ _ _ _ rfl rfl ?_
              rw [← HUE.out, HF2.out]
              have hB4 := H6.out.trans (HB8_.out.mono H6.out.size)
              have hcb : (castL b).length = b.length := castL_len b
              refine ⟨some A8, c8, by show _ = Ending.returned (.tuple #[.slice (some A8) (castL b).length c8, .int .i64 0]); rw [hcb]; rfl, by show (castL b).length ≤ c8; rw [hcb]; exact HL8.out, ?_, below_of_apart hB4 ((Apart.refl w.heap.size (w9.heap.size + 1) _).putObj _ _ (by omega) (by omega)) (Nat.le_refl _) hB4.size⟩
              show Kd.C (Kd.int .i64) _ (some A8) (castL b).length (castL b)
              rw [hcb]
              exact C_putObj HC8.out HKDr.out
          · have hme : m = us.length + 1 := by omega
            have hF := HF.out
            rw [hme, Nat.sub_self, findN_zero] at hF
            have HF2 := Aside0.mk hF
            have hdm : decide ((m : Int) ≤ us.length) = false := decide_eq_false (by omega)
            clear hF hme
            go_wp2
            have hKD := (HBWr.out.block _ (blk_lt HKD.out)).trans HKD.out
            refine ⟨by simp, .inl ⟨_, _, rfl, run_takeDeferred hKD, ?_⟩⟩
            refine fin56 _ _ _ _ rfl rfl ?_
            rw [← HUE.out, HF2.out]
            have hB4 := H6.out.trans (HBWr.out.mono H6.out.size)
            exact ChoosePost.nil (below_of_apart hB4 ((Apart.refl w.heap.size (w9.heap.size + 1) _).putObj _ _ (by omega) (by omega)) (Nat.le_refl _) hB4.size)
  case stop => exact fun _ _ _ _ _ h _ => h.elim
end Go.Proofs.Ytimkchehdaadeaa.P
end
section
namespace Go.Proofs.Ytimkchehdaadeaa.P
open Go.RowKit Go.Shelf Go.Proofs.YtimkchehdaadeaaW.PrintWords Go.Proofs.YtimkchehdaadeaaW.PrintLast Go.Proofs.YtimkchehdaadeaaW.PrintMore
set_option linter.unusedVariables false
set_option linter.unusedSimpArgs false
theorem codes_two {s n : Nat} (hn : 1 ≤ n) (hs : 2 ≤ s) : 2 ≤ (allCodes s n).length := by
  unfold allCodes codesN
  rw [List.length_map, List.length_range]
  calc 2 ≤ s := hs
    _ = s ^ 1 := (Nat.pow_one s).symm
    _ ≤ s ^ n := Nat.pow_le_pow_right (by omega) hn
theorem oneT_nil {s n : Nat} (hn : 1 ≤ n) (hs : 2 ≤ s) (l : List S36) : oneT s n l [] = false := by
  unfold oneT
  have e : readingsL s n (pick l []) = allCodes s n := by
    unfold readingsL
    rw [List.filter_eq_self]
    intro c _
    rfl
  rw [e]
  have := codes_two hn hs
  exact beq_eq_false_iff_ne.mpr (by omega)
end Go.Proofs.Ytimkchehdaadeaa.P
end
