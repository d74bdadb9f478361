/- Part 49 of a proof: the statement TopPortraits: for every input its law returns true (its texts without what nothing here names). -/
import Derived.Test.YtimkchehdaadeaaZTop48
import Derived.Laws.EntriesVeiled
section
namespace Go.Proofs.Ytimkchehdaadeaa.P
open Go.RowKit Go.Shelf Go.Pad Go.Proofs.YtimkchehdaadeaaW.PrintWords Go.Proofs.YtimkchehdaadeaaW.PrintLast Go.Proofs.YtimkchehdaadeaaW.PrintMore
set_option linter.unusedVariables false
set_option linter.unusedSimpArgs false
set_option maxHeartbeats 1000000 in
set_option maxRecDepth 100000 in
theorem pz_hangings.calls (n : Int) (v : Value) (hv : v.oneCell' = true) (w : World) :
    Calls Try.prog 77 #[.int .i64 n, v] w fun e w' => e = .returned (.func (.func 104) #[] #[.pointer (some ⟨w.heap.size, 0, none⟩), .pointer (some ⟨w.heap.size + 1, 0, none⟩)]) ∧ w' = (w.alloc (.cells #[.int .i64 n] 3)).alloc (.cells #[v] 55) := by
  go_enter Try.func77, Try.ntmps77
  go_wp2
  go_ret
  exact ⟨rfl, rfl⟩
set_option maxHeartbeats 8000000 in
set_option maxRecDepth 100000 in
theorem hangings_iter (n : Nat) (hn : n = 2 ∨ n = 3 ∨ n = 4) (l : List S57) (Al : Option Addr) (cl N L : Nat) (M : Nat → Prop) (w0 w : World) (hN : w.heap[N]? = some (.cells #[.int .i64 (n : Int)] 3 (0, 0))) (hL : w.heap[L]? = some (.cells #[.slice Al l.length cl] 55 (0, 0)))
    (hk : Kd.C k57 w0 Al l.length l) (hcl : l.length ≤ cl) (hB : Below w0.heap.size w0 w) (hM : ∀ b, M b → w0.heap.size ≤ b ∧ b < w.heap.size) (hMN : ¬ M N ∧ ¬ M L) (hkind : ∀ q ∈ l, q.f0 = 1 ∧ 0 ≤ q.f1 ∧ q.f1 < (n : Int)) :
    ItersO Try.prog 104 #[.pointer (some ⟨N, 0, none⟩), .pointer (some ⟨L, 0, none⟩)] (HgLent w.heap.size) ((hang n n []).filter (okH l n)) M w := by
  intro ly J hJ hY hJ0
  have hNl := blk_lt hN
  have hLl := blk_lt hL
  have K1 : Aside0 ((((w.alloc (.cells #[.func (.yield ly) #[] #[]] 115)).alloc (.cells #[.slice none 0 0] 24)).alloc (.cells #[.int .i64 (-1)] 3)).heap[w.heap.size + 1 + 1]? = some (.cells #[.int .i64 (-1)] 3 (0, 0))) := ⟨by
    have := blk_new ((w.alloc (.cells #[.func (.yield ly) #[] #[]] 115)).alloc (.cells #[.slice none 0 0] 24)) (.cells #[.int .i64 (-1)] 3)
    rwa [World.size_alloc, World.size_alloc] at this⟩
  have K2 : Aside0 ((((w.alloc (.cells #[.func (.yield ly) #[] #[]] 115)).alloc (.cells #[.slice none 0 0] 24)).alloc (.cells #[.int .i64 (-1)] 3)).heap[w.heap.size + 1]? = some (.cells #[.slice none 0 0] 24 (0, 0))) := ⟨by
    have := blk_new (w.alloc (.cells #[.func (.yield ly) #[] #[]] 115)) (.cells #[.slice none 0 0] 24)
    rw [World.size_alloc] at this
    exact blk_alloc this _⟩
  have K3 := Aside0.mk (blk_alloc (blk_alloc (blk_new w (.cells #[.func (.yield ly) #[] #[]] 115)) (.cells #[.slice none 0 0] 24)) (.cells #[.int .i64 (-1)] 3))
  have HB3 := Aside0.mk ((((Below.refl w.heap.size w).alloc (Nat.le_refl _) (.cells #[.func (.yield ly) #[] #[]] 115)).alloc (by simp) (.cells #[.slice none 0 0] 24)).alloc (by simp; omega) (.cells #[.int .i64 (-1)] 3))
  have zN := (blk_cell (blk_alloc (blk_alloc (blk_alloc hN (.cells #[.func (.yield ly) #[] #[]] 115)) (.cells #[.slice none 0 0] 24)) (.cells #[.int .i64 (-1)] 3)) 0).trans rfl
  have C105 := Aside0.mk (slices_Repeat.calls n hn (w.heap.size + 1 + 1) _ K1.out)
  have HJ := Aside0.mk hJ
  have HY := Aside0.mk hY
  have HJ0 := Aside0.mk hJ0
  have HN := Aside0.mk hN
  have HL := Aside0.mk hL
  have HK := Aside0.mk hk
  have HB := Aside0.mk hB
  have HM := Aside0.mk hM
  have HMN := Aside0.mk hMN
  have HKI := Aside0.mk hkind
  have HNN := Aside0.mk hn
  have HNL := Aside0.mk hNl
  have HLL := Aside0.mk hLl
  clear hJ hY hJ0 hN hL hk hB hM hMN hkind hn hNl hLl
  show Calls Try.prog 104 #[.func (.yield ly) #[] #[], .pointer (some ⟨N, 0, none⟩), .pointer (some ⟨L, 0, none⟩)] w _
  go_enter Try.func104, Try.ntmps104
  go_wp2_with (first
    | (go_at_call 105; refine C105.out.mono ?_; rintro e w6 ⟨g, rfl, hgl, hg, h6⟩; have HG6 := Aside0.mk hg; have HGL := Aside0.mk hgl; have HB6 := Aside0.mk h6; clear hgl hg h6))
  obtain ⟨C, hC⟩ : ∃ C : HgC, C = { n := n, l := l, Al := Al, cl := cl, ly := ly, LO := w.heap.size, Y := w.heap.size, H := w.heap.size + 1, P := w6.heap.size, X := w6.heap.size + 1, g := g, N := N, L := L, w0 := w0, M := M } := ⟨_, rfl⟩
  obtain ⟨w9, hw9⟩ : ∃ w9, w9 = (w6.alloc (.cells #[.slice (some ⟨g, 0, none⟩) n n] 24)).alloc (.cells #[.func (.func 106) #[] (hgArgs C)] 28) := ⟨_, rfl⟩
  have hz3 : w.heap.size + 3 ≤ w6.heap.size := by have := HB6.out.size; simp at this; omega
  have hgl : w.heap.size + 3 ≤ g := by have := HGL.out; simp at this; omega
  have hglt := blk_lt HG6.out
  have hNl := HNL.out
  have hLl := HLL.out
  have hB36 : ∀ (b : Nat) (o : Obj), (((w.alloc (.cells #[.func (.yield ly) #[] #[]] 115)).alloc (.cells #[.slice none 0 0] 24)).alloc (.cells #[.int .i64 (-1)] 3)).heap[b]? = some o → w9.heap[b]? = some o := fun b o h => by
    rw [hw9]; exact blk_alloc (blk_alloc (blk_below h HB6.out) _) _
  have hBw : ∀ (b : Nat) (o : Obj), w.heap[b]? = some o → w9.heap[b]? = some o := fun b o h => hB36 b o (blk_alloc (blk_alloc (blk_alloc h _) _) _)
  have hBel : Below w.heap.size w w9 := by rw [hw9]; have h6 := below_then HB3.out HB3.out.size HB6.out; exact (h6.alloc h6.size _).alloc (by have := h6.size; simp; omega) _
  have hOk : HgOk C := by
    subst hC
    have hn := HNN.out
    refine ⟨⟨Nat.le_refl _, by simp, by simp only; omega, by simp only; omega, by simp only; omega, hNl, hLl⟩, ⟨by simp, by simp only; omega, by simp only; omega, by simp only; omega, by simp only; omega, by simp only; omega, by simp only; omega⟩, HM.out, HMN.out, HB.out.size, HK.out, hcl, by simp only; omega, HKI.out⟩
  have hAt : HgAt C [] (fun _ => False) w9 := by
    subst hC
    refine ⟨⟨none, 0, hB36 _ _ K2.out, Kd.R_nil _ _ _ _ _⟩, hBw _ _ HN.out, hBw _ _ HL.out, ?_, ?_, hB36 _ _ K3.out, ?_, HB.out.trans (hBel.mono HB.out.size), fun k hk => hk.elim⟩
    · rw [hw9]; exact blk_alloc (blk_new w6 _) _
    · rw [hw9]; simp only [plc_nil]; exact blk_alloc (blk_alloc HG6.out _) _
    · rw [hw9]; have := blk_new (w6.alloc (.cells #[.slice (some ⟨g, 0, none⟩) n n] 24)) (.cells #[.func (.func 106) #[] (hgArgs { n := n, l := l, Al := Al, cl := cl, ly := ly, LO := w.heap.size, Y := w.heap.size, H := w.heap.size + 1, P := w6.heap.size, X := w6.heap.size + 1, g := g, N := N, L := L, w0 := w0, M := M })] 28); rw [World.size_alloc] at this; exact this
  have hHeld : Held w.heap.size (fun _ => False) w w9 := (Held.refl _ _ w).of_below hBel
  have hcall := hang_calls C hOk ((hang n n []).filter (okH l n)) J (by subst hC; exact HJ.out) (by subst hC; exact HY.out) n [] (by subst hC; simp) (fun _ => False) [] w9 hAt (HJ.out _ _ _ _ HJ0.out hHeld) (by subst hC; exact List.prefix_refl _)
  have hfin : ∀ (R' : Nat → Prop) (w' : World), HgAt C [] R' w' → ∀ k, R' k → w.heap.size ≤ k ∧ k < w'.heap.size := fun R' w' h k hk => by
    have := h.rs k hk
    subst hC
    exact ⟨this.1, this.2.1⟩
  have HF := Aside0.mk hfin
  have hcall2 : Calls Try.prog 106 (hgArgs C) w9 (HgPost C [] (fun _ => False) J ([] ++ (hang n n []).filter (okH l n)) w9) := by subst hC; exact hcall
  rw [hw9] at hcall2
  clear hcall hHeld hAt hOk hBel hBw hB36 hw9 hfin
  subst hC
  refine hcall2.mono ?_
  clear hcall2
  rintro e w8 ⟨rfl, R', s', j', _, _⟩
  have HR8 := Aside0.mk (HF.out R' w8 s')
  have HJ8 := Aside0.mk j'
  clear s' j'
  go_wp2
  go_end0
  exact ⟨⟨_, rfl⟩, R', HJ8.out, HR8.out⟩
end Go.Proofs.Ytimkchehdaadeaa.P
end
section
namespace Go.Proofs.Ytimkchehdaadeaa.P
open Go.RowKit Go.Shelf Go.Pad Go.Proofs.YtimkchehdaadeaaW.PrintWords Go.Proofs.YtimkchehdaadeaaW.PrintLast Go.Proofs.YtimkchehdaadeaaW.PrintMore
attribute [local go_sem] Oper.semAt_some
set_option linter.unusedVariables false
set_option linter.unusedSimpArgs false
def hangsL (n : Nat) (l : List S57) : List (List Nat) := (hang n n []).filter (okH l n)
theorem hangsL_len {n : Nat} (hn : n = 2 ∨ n = 3 ∨ n = 4) (l : List S57) : (hangsL n l).length ≤ 24 := by
  refine Nat.le_trans (List.length_filter_le _ _) ?_
  rcases hn with rfl | rfl | rfl <;> decide
theorem hangs_all {n : Nat} (hn : n = 2 ∨ n = 3 ∨ n = 4) (l : List S57) : ∀ x ∈ hangsL n l, x.length = n := fun x hx => by
  have hx := (List.mem_filter.1 hx).1
  have key : ∀ n, n = 2 ∨ n = 3 ∨ n = 4 → ∀ x ∈ hang n n [], x.length = n := by
    intro n hn
    rcases hn with rfl | rfl | rfl <;> decide
  exact key n hn x hx
theorem said_kind {n : Nat} {l : List S57} (hk : ∀ x ∈ l, x.f0 = 1) (ha : l.all (saidB n) = true) : ∀ q ∈ l, q.f0 = 1 ∧ 0 ≤ q.f1 ∧ q.f1 < (n : Int) := fun q hq => by
  have := List.all_eq_true.1 ha q hq
  unfold saidB at this
  rw [Bool.and_eq_true] at this
  have h1 := inRange_iff.1 this.1
  exact ⟨hk q hq, h1.1, by omega⟩
theorem apart_held {lo hi : Nat} {LO : Nat} {x : List Nat} {args : Array Value} {A B : World} (h : HgLent LO x args A) (hab : Apart lo hi A B) (hh : hi ≤ LO) (hx : 0 < x.length) : HgLent LO x args B := by
  obtain ⟨ad, c, h1, h2, h3, h4, h5, h6⟩ := h
  refine ⟨ad, c, h1, h2, h3, h4, h5, fun hp => ?_⟩
  obtain ⟨ad', e, h7⟩ := h6 hp
  obtain rfl : ad = ad' := by injection e
  refine ⟨ad, rfl, fun j p hj => ?_⟩
  obtain ⟨c', hc1, hc2, hc3⟩ := h7 j p hj
  refine ⟨c', hc1, hc2, fun i u hu => ?_⟩
  have h8 := hc3 i u hu
  rw [← h8]
  have hb : (ad.add (j * (Kd.int .i64).sz + i)).block = ad.block := by unfold Addr.add; split <;> rfl
  have hlt := World.block_lt_of_cell? A _ h8
  unfold World.cell?
  rw [hab.block _ hlt (.inr (by rw [hb]; omega))]
set_option maxHeartbeats 8000000 in
set_option maxRecDepth 100000 in
theorem pz_Hangings.calls (n : Nat) (hn : n = 2 ∨ n = 3 ∨ n = 4) (A : Option Addr) (c : Nat) (l : List S57) (w : World) (hC : Kd.C k57 w A l.length l) (hc : l.length ≤ c) (hk : ∀ x ∈ l, x.f0 = 1) (hl : l.length ≤ 20) :
    Calls Try.prog 39 #[.int .i64 (n : Int), .slice A l.length c] w fun e w' => e = .returned (.tuple #[.int .i64 (if l.all (saidB n) then ((hangsL n l).length : Nat) else 0), .int .i64 (if l.all (saidB n) then 0 else 31)]) ∧ Below w.heap.size w w' := by
  have C76 := Aside0.mk (fun w1 (h1 : Below w.heap.size w w1) => pz_check.calls n (by omega) A c l w1 (Kd.C_below hC h1) hc hk hl)
  have HB0 := Aside0.mk ((Below.refl w.heap.size w).alloc (Nat.le_refl _) (.cells #[.int .i64 0] 3))
  have K0 := Aside0.mk (blk_new w (.cells #[.int .i64 0] 3))
  by_cases ha : l.all (saidB n) = true
  case neg =>
    rw [if_neg ha] at C76 ⊢
    rw [if_neg ha]
    clear ha hk hC
    refine (callsIn_wide (n := 5)).1 (callsIn_of_wp_marks Try.func39 rfl trivial ?_ rfl)
    simp only [Try.ntmps39, List.size_toArray, List.length_cons, List.length_nil, Nat.reduceAdd, Nat.reduceSub, Array.replicate_succ, Array.replicate_zero, List.push_toArray, List.append_toArray, List.nil_append, List.cons_append]
    gi_wp2_with (first | (refine ⟨trivial, ?_⟩; gi_at_call 76; refine (callsIn_wide.2 (C76.out _ HB0.out)).mono ?_; rintro e w6 ⟨rfl, h6⟩; have HB6 := Aside0.mk (below_then HB0.out HB0.out.size h6); have K6 := Aside0.mk (blk_below K0.out h6); have z6 := (blk_cell K6.out 0).trans rfl; have f6 := blk_frozen K6.out 0; clear h6))
    have h3 := (blk_cell (blk_put K6.out 0 (.int .i64 0) (cs' := #[.int .i64 0]) rfl) 0).trans rfl
    refine ⟨.tuple #[.int .i64 0, .int .i64 31], ?_, rfl, ?_⟩
    · simp [results, Try.f39, go_sem, h3]
    · exact HB6.out.setCell (p := ⟨w.heap.size, 0, none⟩) (Nat.le_refl _) _
  rw [if_pos ha] at C76 ⊢
  rw [if_pos ha]
  have hkind := said_kind hk ha
  have hxl := hangsL_len hn l
  have HKI := Aside0.mk hkind
  have HC := Aside0.mk hC
  have HNN := Aside0.mk hn
  clear ha hk hC hkind
  refine (callsIn_wide (n := 5)).1 (callsIn_of_wp_marks Try.func39 rfl trivial ?_ rfl)
  simp only [Try.ntmps39, List.size_toArray, List.length_cons, List.length_nil, Nat.reduceAdd, Nat.reduceSub, Array.replicate_succ, Array.replicate_zero, List.push_toArray, List.append_toArray, List.nil_append, List.cons_append]
  gi_wp2_with (first
    | (refine ⟨trivial, ?_⟩; gi_at_call 76; refine (callsIn_wide.2 (C76.out _ HB0.out)).mono ?_; rintro e w6 ⟨rfl, h6⟩; have HB6 := Aside0.mk (below_then HB0.out HB0.out.size h6); have K6 := Aside0.mk (blk_below K0.out h6); clear h6)
    | (refine ⟨trivial, ?_⟩; gi_at_call 77; refine (callsIn_wide.2 (pz_hangings.calls _ _ rfl _)).mono ?_; rintro e w7 ⟨rfl, rfl⟩))
  obtain ⟨w2, hw2⟩ : ∃ w2, w2 = (w6.alloc (.cells #[.int .i64 (n : Int)] 3)).alloc (.cells #[.slice A l.length c] 55) := ⟨_, rfl⟩
  have hz2 : w2.heap.size = w6.heap.size + 2 := by rw [hw2]; simp
  have hcb : w2.heap[w.heap.size]? = some (.cells #[.int .i64 0] 3 (0, 0)) := by rw [hw2]; exact blk_alloc (blk_alloc K6.out _) _
  have hNb : w2.heap[w6.heap.size]? = some (.cells #[.int .i64 (n : Int)] 3 (0, 0)) := by rw [hw2]; exact blk_alloc (blk_new w6 _) _
  have hLb : w2.heap[w6.heap.size + 1]? = some (.cells #[.slice A l.length c] 55 (0, 0)) := by
    rw [hw2]; have := blk_new (w6.alloc (.cells #[.int .i64 (n : Int)] 3)) (.cells #[.slice A l.length c] 55); rwa [World.size_alloc] at this
  have hB2 : Below w.heap.size w w2 := by rw [hw2]; exact (HB6.out.alloc HB6.out.size _).alloc (by have := HB6.out.size; simp; omega) _
  have hw6 : w.heap.size < w6.heap.size := blk_lt K6.out
  rw [← hw2]
  clear hw2
  have hit : ∀ r : Loop, ItersO Try.prog 104 #[.pointer (some ⟨w6.heap.size, 0, none⟩), .pointer (some ⟨w6.heap.size + 1, 0, none⟩)] (HgLent (w2.heap.size + 2)) (hangsL n l) (fun b => b = w.heap.size) ((w2.alloc (.deferred (some []))).alloc (.loop r)) := fun r => by
    have := hangings_iter n HNN.out l A c w6.heap.size (w6.heap.size + 1) (fun b => b = w.heap.size) w ((w2.alloc (.deferred (some []))).alloc (.loop r)) (blk_alloc (blk_alloc hNb _) _) (blk_alloc (blk_alloc hLb _) _) HC.out hc ((hB2.alloc hB2.size _).alloc (by have := hB2.size; simp; omega) _) (fun b h => by simp; omega) ⟨by omega, by omega⟩ HKI.out
    have e : ((w2.alloc (.deferred (some []))).alloc (.loop r)).heap.size = w2.heap.size + 2 := by simp
    rwa [e] at this
  have hn1 : 0 < n := by have := HNN.out; omega
  refine wpIn_iterO (M := fun b => b = w.heap.size) (gf := 104) (lb := #[.pointer (some ⟨w6.heap.size, 0, none⟩), .pointer (some ⟨w6.heap.size + 1, 0, none⟩)]) (elem := fun (x : List Nat) args W => x.length = n ∧ HgLent (w2.heap.size + 2) x args W) (xs := hangsL n l) rfl (enters_of Try.func104 (by kernel_rfl) rfl)
    ?hit (fun b h => by omega) (fun x args W h => by obtain ⟨_, ad, cc, rfl, _⟩ := h; rfl) (fun (x : List Nat) args A B h hab => ⟨h.1, apart_held h.2 hab (by omega) (by have := h.1; omega)⟩)
    (fun R pre W => W.heap[w.heap.size]? = some (.cells #[.int .i64 (pre.length : Nat)] 3 (0, 0)) ∧ Below w.heap.size w W) ?hI ⟨hcb, hB2⟩
    (fun args => { tmps := #[.int .i64 (n : Int), .slice A l.length c, undef, undef, .pointer (some ⟨w.heap.size, 0, none⟩), .int .i64 0, .int .i64 0, .int .i64 (n : Int), .slice A l.length c, .int .i64 0, .int .i64 0, .bool false, undef, .int .i64 (n : Int), .slice A l.length c, .func (.func 104) #[] #[.pointer (some ⟨w6.heap.size, 0, none⟩), .pointer (some ⟨w6.heap.size + 1, 0, none⟩)], args.getD 0 undef, undef, undef, undef], defers := [] }) ?assign ?body ?done
  case hit =>
    intro r l' J h1 h2 h3
    refine hit r l' J h1 (fun R pre x args W1 hp hj he hs hr => h2 R pre x args W1 hp hj ⟨hangs_all HNN.out l x (hp.subset (by simp)), he⟩ hs hr) h3
  case hI =>
    rintro R pre A B ⟨h1, h2⟩ hab ho ht hp hs
    exact ⟨(hab _ (blk_lt h1) (.inl (by omega))).trans h1, ⟨ho.trans h2.os, ht.trans h2.tape, hp.trans h2.output, Nat.le_trans h2.size hs, fun k hk => (hab k (Nat.lt_of_lt_of_le hk h2.size) (.inl (by have := hB2.size; omega))).trans (h2.block k hk)⟩⟩
  case assign =>
    rintro l' x args W K ⟨_, ad, cc, rfl, _⟩ hK
    gi_wp2
    simpa using hK
  case body =>
    rintro l' R pre x args W hpre ⟨h1, h2⟩ hx hsz hR
    have hc := (blk_cell h1 0).trans rfl
    have hf := blk_frozen h1 0
    have hle : pre.length + 1 ≤ 24 := by
      have := hpre.length_le
      simp at this
      omega
    gi_wp2
    refine ⟨⟨blk_put h1 _ _ ?_, h2.setCell (p := ⟨w.heap.size, 0, none⟩) (Nat.le_refl _) _⟩, (KeepR.refl _ _ W).setCell _ _ (.inl rfl)⟩
    rfl
  case done =>
    rintro R W ⟨h1, h2⟩ hR hK
    have hc := (blk_cell h1 0).trans rfl
    have hf := blk_frozen h1 0
    gi_wp2
    have hK2 : (W.setCell ⟨w.heap.size, 0, none⟩ (.int .i64 ((hangsL n l).length : Nat))).heap[w2.heap.size]? = some (.deferred (some [])) := (Below.heap_setCell W _ _ _ (by show w2.heap.size ≠ w.heap.size; omega)).trans hK
    refine ⟨by simp, .inl ⟨_, _, rfl, run_takeDeferred hK2, ?_⟩⟩
    have h3 : ((W.setCell ⟨w.heap.size, 0, none⟩ (.int .i64 ((hangsL n l).length : Nat))).putObj w2.heap.size (.deferred none)).heap[w.heap.size]? = some (.cells #[.int .i64 ((hangsL n l).length : Nat)] 3 (0, 0)) := (World.putObj_heap_other (by omega)).trans (blk_put h1 0 _ rfl)
    have hc5 := (blk_cell h3 0).trans rfl
    refine ⟨.tuple #[.int .i64 ((hangsL n l).length : Nat), .int .i64 0], ?_, rfl, ?_⟩
    · simp [results, Try.f39, go_sem, hc5]
    · exact below_of_apart (h2.setCell (p := ⟨w.heap.size, 0, none⟩) (Nat.le_refl _) _) ((Apart.refl w.heap.size (w2.heap.size + 1) _).putObj _ _ (by omega) (by omega)) (Nat.le_refl _) (by have := h2.size; simpa [World.setCell] using this)
end Go.Proofs.Ytimkchehdaadeaa.P
end
