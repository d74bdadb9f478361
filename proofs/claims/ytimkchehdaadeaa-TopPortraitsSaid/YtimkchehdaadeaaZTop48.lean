/- Part 48 of a proof: the statement TopPortraits: for every input its law returns true (its texts without what nothing here names). -/
import Derived.Test.YtimkchehdaadeaaZTop25
import Derived.Test.YtimkchehdaadeaaZTop45
import Derived.Test.YtimkchehdaadeaaZTop46
import Derived.Test.YtimkchehdaadeaaZTop47

section
namespace Go.Proofs.Ytimkchehdaadeaa.P
open Go.RowKit Go.Shelf Go.Pad Go.Proofs.YtimkchehdaadeaaW.PrintWords Go.Proofs.YtimkchehdaadeaaW.PrintLast Go.Proofs.YtimkchehdaadeaaW.PrintMore
attribute [local go_sem] Oper.semAt_some
set_option linter.unusedVariables false
set_option linter.unusedSimpArgs false
structure HgC where
  n : Nat
  l : List S57
  Al : Option Addr
  cl : Nat
  ly : Nat
  LO : Nat
  Y : Nat
  H : Nat
  P : Nat
  X : Nat
  g : Nat
  N : Nat
  L : Nat
  w0 : World
  M : Nat → Prop
structure HgOk (C : HgC) : Prop where
  lo : C.LO ≤ C.Y ∧ C.LO ≤ C.H ∧ C.LO ≤ C.P ∧ C.LO ≤ C.X ∧ C.LO ≤ C.g ∧ C.N < C.LO ∧ C.L < C.LO
  ne : C.H ≠ C.Y ∧ C.H ≠ C.P ∧ C.H ≠ C.X ∧ C.H ≠ C.g ∧ C.g ≠ C.Y ∧ C.g ≠ C.P ∧ C.g ≠ C.X
  m : ∀ b, C.M b → C.w0.heap.size ≤ b ∧ b < C.LO
  mn : ¬ C.M C.N ∧ ¬ C.M C.L
  w0 : C.w0.heap.size ≤ C.LO
  k57 : Kd.C k57 C.w0 C.Al C.l.length C.l
  cl : C.l.length ≤ C.cl
  n1 : 1 ≤ C.n ∧ C.n ≤ 6
  kind : ∀ q ∈ C.l, q.f0 = 1 ∧ 0 ≤ q.f1 ∧ q.f1 < (C.n : Int)
structure HgAt (C : HgC) (h : List Nat) (R : Nat → Prop) (W : World) : Prop where
  row : ∃ (A : Option Addr) (c : Nat), W.heap[C.H]? = some (.cells #[.slice A h.length c] 24 (0, 0)) ∧ Kd.R (Kd.int .i64) 3 W C.LO (fun k => ¬ R k ∧ k ≠ C.g) (.slice A h.length c) (castL h)
  bN : W.heap[C.N]? = some (.cells #[.int .i64 (C.n : Int)] 3 (0, 0))
  bL : W.heap[C.L]? = some (.cells #[.slice C.Al C.l.length C.cl] 55 (0, 0))
  bP : W.heap[C.P]? = some (.cells #[.slice (some ⟨C.g, 0, none⟩) C.n C.n] 24 (0, 0))
  bg : W.heap[C.g]? = some (.cells (ints (plc C.n h)) 3 (0, 0))
  bY : W.heap[C.Y]? = some (.cells #[.func (.yield C.ly) #[] #[]] 115 (0, 0))
  bX : W.heap[C.X]? = some (.cells #[.func (.func 106) #[] #[.pointer (some ⟨C.H, 0, none⟩), .pointer (some ⟨C.N, 0, none⟩), .pointer (some ⟨C.L, 0, none⟩), .pointer (some ⟨C.P, 0, none⟩), .pointer (some ⟨C.Y, 0, none⟩), .pointer (some ⟨C.X, 0, none⟩)]] 28 (0, 0))
  below : Below C.w0.heap.size C.w0 W
  rs : ∀ k, R k → C.LO ≤ k ∧ k < W.heap.size ∧ k ≠ C.Y ∧ k ≠ C.H ∧ k ≠ C.P ∧ k ≠ C.X ∧ k ≠ C.g
theorem HgAt.of_below {C : HgC} {h : List Nat} {R : Nat → Prop} {W W1 : World} (s : HgAt C h R W) (hC : HgOk C) (hb : Below W.heap.size W W1) : HgAt C h R W1 := by
  obtain ⟨A, c, h1, h2⟩ := s.row
  exact ⟨⟨A, c, blk_below h1 hb, Kd.R_below h2 hb⟩, blk_below s.bN hb, blk_below s.bL hb, blk_below s.bP hb, blk_below s.bg hb, blk_below s.bY hb, blk_below s.bX hb, s.below.trans (hb.mono s.below.size), fun k hk => by obtain ⟨a, b, c⟩ := s.rs k hk; exact ⟨a, Nat.lt_of_lt_of_le b hb.size, c⟩⟩
theorem HgAt.of_keep {C : HgC} {h : List Nat} {R : Nat → Prop} {W W1 : World} (s : HgAt C h R W) (hC : HgOk C) (hk : KeepR C.M R W W1) : HgAt C h (grewR R W W1) W1 := by
  obtain ⟨A, c, h1, h2⟩ := s.row
  obtain ⟨l1, l2, l3, l4, l5, l6, l7⟩ := hC.lo
  have key : ∀ (b : Nat) (o : Obj), W.heap[b]? = some o → (C.LO ≤ b ∨ ¬ C.M b) → ¬ R b → W1.heap[b]? = some o := fun b o hb hm hr => (hk.block b (blk_lt hb) (fun h => by
    rcases hm with hm | hm
    · have := (hC.m b h).2; omega
    · exact hm h) hr).trans hb
  have nr : ∀ b, (b = C.Y ∨ b = C.H ∨ b = C.P ∨ b = C.X ∨ b = C.g ∨ b < C.LO) → ¬ R b := fun b hb hr => by
    obtain ⟨a1, a2, a3, a4, a5, a6, a7⟩ := s.rs b hr
    rcases hb with h | h | h | h | h | h
    · exact a3 h
    · exact a4 h
    · exact a5 h
    · exact a6 h
    · exact a7 h
    · omega
  refine ⟨⟨A, c, key _ _ h1 (.inl l2) (nr _ (.inr (.inl rfl))), ?_⟩, key _ _ s.bN (.inr hC.mn.1) (nr _ (.inr (.inr (.inr (.inr (.inr l6)))))), key _ _ s.bL (.inr hC.mn.2) (nr _ (.inr (.inr (.inr (.inr (.inr l7)))))), key _ _ s.bP (.inl l3) (nr _ (.inr (.inr (.inl rfl)))), key _ _ s.bg (.inl l5) (nr _ (.inr (.inr (.inr (.inr (.inl rfl)))))), key _ _ s.bY (.inl l1) (nr _ (.inl rfl)), key _ _ s.bX (.inl l4) (nr _ (.inr (.inr (.inr (.inl rfl))))), ?_, ?_⟩
  · refine Kd.R_mono (Kd.R_step (Kd.R_bound h2) (fun k hk' hlt => hk.block k hlt (fun hm => by have := (hC.m k hm).2; have := hk'.2.1; omega) hk'.1.1)) (fun k hk' => ⟨fun hg => ?_, hk'.1.2⟩)
    rcases hg with hg | hg
    · exact hk'.1.1 hg
    · have := hk'.2.2.1; omega
  · exact ⟨hk.os.trans s.below.os, hk.tape.trans s.below.tape, hk.output.trans s.below.output, Nat.le_trans s.below.size hk.size, fun k hlt => (hk.block k (Nat.lt_of_lt_of_le hlt s.below.size) (fun hm => by have := (hC.m k hm).1; omega) (nr k (.inr (.inr (.inr (.inr (.inr (Nat.lt_of_lt_of_le hlt hC.w0)))))))).trans (s.below.block k hlt)⟩
  · intro k hg
    have hsz := hk.size
    rcases hg with hg | hg
    · obtain ⟨a, b, c⟩ := s.rs k hg; exact ⟨a, by omega, c⟩
    · have b1 := blk_lt s.bY; have b2 := blk_lt h1; have b3 := blk_lt s.bP; have b4 := blk_lt s.bX; have b5 := blk_lt s.bg
      exact ⟨by omega, hg.2, by omega, by omega, by omega, by omega, by omega⟩
def HgLent (LO : Nat) (x : List Nat) (args : Array Value) (W : World) : Prop := ∃ (A : Addr) (c : Nat), args = #[.slice (some A) x.length c] ∧ LO ≤ A.block ∧ x.length ≤ c ∧ Kd.C (Kd.int .i64) W (some A) x.length (castL x)
def HgPost (C : HgC) (h : List Nat) (R : Nat → Prop) (J : (Nat → Prop) → List (List Nat) → World → Prop) (xs : List (List Nat)) (W : World) (e : Ending) (W' : World) : Prop :=
  e = .returned (.bool true) ∧ ∃ R', HgAt C h R' W' ∧ J R' xs W' ∧ (∀ k, R k → R' k) ∧ W.heap.size ≤ W'.heap.size
def hgArgs (C : HgC) : Array Value := #[.pointer (some ⟨C.H, 0, none⟩), .pointer (some ⟨C.N, 0, none⟩), .pointer (some ⟨C.L, 0, none⟩), .pointer (some ⟨C.P, 0, none⟩), .pointer (some ⟨C.Y, 0, none⟩), .pointer (some ⟨C.X, 0, none⟩)]
def HgYield (C : HgC) (J : (Nat → Prop) → List (List Nat) → World → Prop) (XS : List (List Nat)) : Prop :=
  ∀ R pre x args W1, (pre ++ [x]) <+: XS → J R pre W1 → HgLent C.LO x args W1 → C.LO ≤ W1.heap.size → (∀ k, R k → C.LO ≤ k ∧ k < W1.heap.size) →
       YieldAt Fence.wide 0 Try.prog C.ly args W1 fun e W' => e = .returned (.bool true) ∧ J (grewR R W1 W') (pre ++ [x]) W' ∧ KeepR C.M R W1 W'
set_option maxHeartbeats 8000000 in
set_option maxRecDepth 100000 in
theorem hang_leaf (C : HgC) (hC : HgOk C) (XS : List (List Nat)) (J : (Nat → Prop) → List (List Nat) → World → Prop) (hJ : ∀ R s A B, J R s A → Held C.LO R A B → J R s B) (hY : HgYield C J XS) (h : List Nat) (hl : h.length = C.n) (R : Nat → Prop) (pre : List (List Nat)) (W : World) (s : HgAt C h R W) (hj : J R pre W) (hp : (pre ++ [h].filter (okH C.l C.n)) <+: XS) :
    Calls Try.prog 106 (hgArgs C) W (HgPost C h R J (pre ++ [h].filter (okH C.l C.n)) W) := by
  obtain ⟨A, c, hH, hrow⟩ := s.row
  have h2 := s.rs
  have zH := (blk_cell hH 0).trans rfl
  have zN := (blk_cell s.bN 0).trans rfl
  have zL := (blk_cell s.bL 0).trans rfl
  have hnl : ((h.length : Int) == (C.n : Int)) = true := beq_iff_eq.mpr (by omega)
  have HC101 := contains_port 107 #[.pointer (some ⟨C.P, 0, none⟩)] (enters_of Try.func107 (by kernel_rfl) rfl) (fun q => !hangsB (plc C.n h) q) C.Al C.cl C.l W (Kd.C_below hC.k57 s.below) hC.cl (fun q hq W1 hW1 => ask_hangs1 C.P q (hC.kind q hq).1 (some ⟨C.g, 0, none⟩) C.n (plc C.n h) W1 ⟨(hC.kind q hq).2.1, by rw [plc_len]; exact (hC.kind q hq).2.2⟩ (by
    have := lent_C (D := C.g) (x := plc C.n h) (blk_below s.bg hW1) (by rw [plc_len]; have := hC.n1; omega)
    exact this) (by rw [plc_len]; exact Nat.le_refl _) (by rw [plc_len]; exact blk_below s.bP hW1))
  obtain ⟨ad, rfl, hadb, hle, hCh⟩ : ∃ ad, A = some ad ∧ C.LO ≤ ad.block ∧ h.length ≤ c ∧ Kd.C (Kd.int .i64) W (some ad) h.length (castL h) := by
    obtain ⟨_, h4, h5⟩ := Kd.R_reads' hrow
    rw [castL_len] at h5
    obtain ⟨ad, e, _⟩ := h5.2.2 (by have := hC.n1; omega)
    subst e
    exact ⟨ad, rfl, Kd.R_base hrow ad.block (by simp [Value.ownBlock]), h4, h5⟩
  have HCH := Aside0.mk hCh
  have hok : okH C.l C.n h = !(C.l.any fun q => !hangsB (plc C.n h) q) := rfl
  obtain ⟨b, hb⟩ : ∃ b, b = C.l.any fun q => !hangsB (plc C.n h) q := ⟨_, rfl⟩
  rw [← hb] at HC101 hok
  have C101 := Aside0.mk HC101
  have HS := Aside0.mk s
  have HJ := Aside0.mk hJ
  have HJ0 := Aside0.mk hj
  have HROW := Aside0.mk hrow
  have HH := Aside0.mk hH
  have HY := Aside0.mk hY
  have HCC := Aside0.mk hC
  have HP := Aside0.mk hp
  have HOK := Aside0.mk hok
  have HL := Aside0.mk hl
  clear hb HC101 s hJ hj hrow hY hC hp hok h2 hCh hl
  unfold hgArgs
  refine (callsIn_wide (n := 1)).1 (callsIn_of_wp Try.func106 rfl trivial ?_ rfl)
  simp only [Try.ntmps106, List.size_toArray, List.length_cons, List.length_nil, Nat.reduceAdd, Nat.reduceSub, Array.replicate_succ, Array.replicate_zero, List.push_toArray, List.append_toArray, List.nil_append, List.cons_append]
  cases b
  · have hfil : [h].filter (okH C.l C.n) = [h] := by rw [List.filter_cons_of_pos (by rw [HOK.out]; rfl), List.filter_nil]
    rw [hfil] at HP ⊢
    have hYY := fun (w5 : World) (h5 : Below W.heap.size W w5) => HY.out R pre h #[.slice (some ad) h.length c] w5 HP.out (HJ.out _ _ _ _ HJ0.out ((Held.refl _ _ W).of_below h5)) ⟨ad, c, rfl, hadb, hle, Kd.C_below HCH.out h5⟩ (by have := h5.size; have := blk_lt HS.out.bg; have := HCC.out.lo; omega) (fun k hk => by obtain ⟨a, b, _⟩ := HS.out.rs k hk; have := h5.size; exact ⟨a, by omega⟩)
    have HYY := Aside0.mk hYY
    clear hYY hfil
    gi_wp2_with (first | (refine ⟨trivial, ?_⟩; gi_at_call 101; refine (callsIn_wide.2 C101.out).mono ?_; rintro e w5 ⟨rfl, h5⟩; have HB5 := Aside0.mk h5; have zY := (blk_cell (blk_below HS.out.bY h5) 0).trans rfl; have zH5 := (blk_cell (blk_below HH.out h5) 0).trans rfl; obtain ⟨fn, tmps, assign, body, hy, hR⟩ := yieldAt_wide (m := 0) (HYY.out w5 h5); clear h5))
    refine hR.mono ?_
    rintro e W3 ⟨rfl, hj3, hk3⟩
    have HS3 := Aside0.mk ((HS.out.of_below HCC.out HB5.out).of_keep HCC.out hk3)
    have HJ3 := Aside0.mk hj3
    have hz3 : W.heap.size ≤ W3.heap.size := Nat.le_trans HB5.out.size hk3.size
    clear hk3 hj3 hy hR
    gi_wp2
    go_ret
    exact ⟨rfl, _, HS3.out, HJ3.out, fun k hk => .inl hk, hz3⟩
  · have hfil : [h].filter (okH C.l C.n) = [] := by rw [List.filter_cons_of_neg (by rw [HOK.out]; decide), List.filter_nil]
    rw [hfil, List.append_nil] at HP ⊢
    clear hfil
    gi_wp2_with (first | (refine ⟨trivial, ?_⟩; gi_at_call 101; refine (callsIn_wide.2 C101.out).mono ?_; rintro e w5 ⟨rfl, h5⟩; have HB5 := Aside0.mk h5; clear h5))
    refine ⟨fun _ h => (by cases h), ?_⟩
    gi_wp2
    go_ret
    exact ⟨rfl, R, HS.out.of_below HCC.out HB5.out, HJ.out _ _ _ _ HJ0.out ((Held.refl _ _ W).of_below HB5.out), fun k hk => hk, HB5.out.size⟩
end Go.Proofs.Ytimkchehdaadeaa.P
end
section
namespace Go.Proofs.Ytimkchehdaadeaa.P
open Go.RowKit Go.Shelf Go.Pad Go.Proofs.YtimkchehdaadeaaW.PrintWords Go.Proofs.YtimkchehdaadeaaW.PrintLast Go.Proofs.YtimkchehdaadeaaW.PrintMore
set_option linter.unusedVariables false
set_option linter.unusedSimpArgs false
theorem castL_app' (a b : List Nat) : castL (a ++ b) = castL a ++ castL b := by simp [castL]
theorem wrap_natH (n : Nat) (h : n ≤ 1000) : wrap64 (n : Int) = (n : Int) := by unfold wrap64; omega
theorem filter_to (p : List Nat → Bool) (n d m : Nat) (h : List Nat) (hm : m ∉ h) : (hangTo n d (m + 1) h).filter p = (hangTo n d m h).filter p ++ (hang n d (h ++ [m])).filter p := by
  rw [hangTo_succ, if_neg hm, List.filter_append]
theorem filter_skip (p : List Nat → Bool) (n d m : Nat) (h : List Nat) (hm : m ∈ h) : (hangTo n d (m + 1) h).filter p = (hangTo n d m h).filter p := by
  rw [hangTo_succ, if_pos hm, List.append_nil]
set_option maxHeartbeats 8000000 in
set_option maxRecDepth 100000 in
theorem hang_calls (C : HgC) (hC : HgOk C) (XS : List (List Nat)) (J : (Nat → Prop) → List (List Nat) → World → Prop) (hJ : ∀ R s A B, J R s A → Held C.LO R A B → J R s B) (hY : HgYield C J XS) : ∀ (d : Nat) (h : List Nat) (hl : h.length + d = C.n) (R : Nat → Prop) (pre : List (List Nat)) (W : World) (s : HgAt C h R W) (hj : J R pre W) (hp : (pre ++ (hang C.n d h).filter (okH C.l C.n)) <+: XS),
    Calls Try.prog 106 (hgArgs C) W (HgPost C h R J (pre ++ (hang C.n d h).filter (okH C.l C.n)) W) := by
  intro d
  induction d with
  | zero => intro h hl R pre W s hj hp; exact hang_leaf C hC XS J hJ hY h hl R pre W s hj hp
  | succ d ih =>
    intro h hl R pre W s hj hp
    obtain ⟨A, c, hH, hrow⟩ := s.row
    have zH := (blk_cell hH 0).trans rfl
    have zN := (blk_cell s.bN 0).trans rfl
    have hnl : ((h.length : Int) == (C.n : Int)) = false := beq_eq_false_iff_ne.mpr (by omega)
    have IH := Aside0.mk ih
    have HS := Aside0.mk s
    have HJ := Aside0.mk hJ
    have HJ0 := Aside0.mk hj
    have HCC := Aside0.mk hC
    have HP := Aside0.mk hp
    have HL := Aside0.mk hl
    clear ih s hJ hj hrow hY hC hp hl hH
    unfold hgArgs
    go_enter Try.func106, Try.ntmps106
    go_wp2
    clear zH zN hnl
    go_loopw [21] (fun v21 wr => ∃ (p : Nat) (R1 : Nat → Prop), Aside0 (p ≤ C.n) ∧ v21 = .int .i64 p ∧ Aside0 (HgAt C h R1 wr) ∧ Aside0 (J R1 (pre ++ (hangTo C.n d p h).filter (okH C.l C.n)) wr) ∧ Aside0 (∀ k, R k → R1 k) ∧ Aside0 (W.heap.size ≤ wr.heap.size)) (fun v21 _ => C.n - (intOf v21).toNat)
    case atStart => exact ⟨0, R, ⟨Nat.zero_le _⟩, rfl, HS, ⟨by rw [hangTo_zero, List.filter_nil, List.append_nil]; exact HJ0.out⟩, ⟨fun _ h => h⟩, ⟨Nat.le_refl _⟩⟩
    case round =>
      clear HS HJ0
      obtain ⟨p, R1, hpn, rfl, HS, HJ1, HR1, hsz⟩ := hrel
      by_cases hlt : p < C.n
      · have s := HS.out
        have hxc := (blk_cell s.bg p).trans (ints_get _ p (by rw [plc_len]; exact hlt))
        rw [plc_rd C.n h p hlt] at hxc
        have zP := (blk_cell s.bP 0).trans rfl
        have hn6 := HCC.out.n1
        by_cases hmem : p ∈ h
        · rw [if_pos hmem] at hxc
          obtain ⟨i, hi⟩ : ∃ i, i = h.idxOf p := ⟨_, rfl⟩
          rw [← hi] at hxc
          have hd0 : decide ((0 : Int) ≤ (i : Int)) = true := decide_eq_true (by omega)
          have HJ2 := Aside0.mk (show J R1 (pre ++ (hangTo C.n d (p + 1) h).filter (okH C.l C.n)) wr by rw [filter_skip _ _ _ _ _ hmem]; exact HJ1.out)
          clear hmem hi s
          go_wp2
          refine ⟨⟨p + 1, R1, ⟨by omega⟩, by go_num, HS, HJ2, HR1, hsz⟩, ?_⟩
          simp [intOf]; omega
        · rw [if_neg hmem] at hxc
          obtain ⟨A, c, hH, hrow⟩ := s.row
          have zH := (blk_cell hH 0).trans rfl
          have zX := (blk_cell s.bX 0).trans rfl
          have hf := blk_frozen s.bg p
          have hrs := s.rs
          obtain ⟨l1, l2, l3, l4, l5, l6, l7⟩ := HCC.out.lo
          obtain ⟨n1, n2, n3, n4, n5, n6, n7⟩ := HCC.out.ne
          have bgl := blk_lt s.bg
          have bHl := blk_lt hH
          have nr : ∀ b, (b = C.Y ∨ b = C.H ∨ b = C.P ∨ b = C.X ∨ b = C.g ∨ b < C.LO) → ¬ R1 b := fun b hb hr => by
            obtain ⟨a1, a2, a3, a4, a5, a6, a7⟩ := hrs b hr
            rcases hb with h | h | h | h | h | h
            · exact a3 h
            · exact a4 h
            · exact a5 h
            · exact a6 h
            · exact a7 h
            · omega
          have hput := plc_put C.n h p hlt hmem
          have hbak := plc_back C.n h p hlt hmem
          have hft := filter_to (okH C.l C.n) C.n d p h hmem
          
          obtain ⟨w1, hw1⟩ : ∃ w1, w1 = wr.setCell ⟨C.g, p, none⟩ (.int .i64 (h.length : Int)) := ⟨_, rfl⟩
          have g1 : w1.heap[C.g]? = some (.cells (ints (plc C.n (h ++ [p]))) 3 (0, 0)) := by rw [hw1]; exact blk_put s.bg p _ (by rw [ints_set, hput])
          have far1 : ∀ (b : Nat) (cs : Array Value) (t : TypeId), b ≠ C.g → wr.heap[b]? = some (.cells cs t (0, 0)) → w1.heap[b]? = some (.cells cs t (0, 0)) := fun b cs t hb hx => by rw [hw1]; exact blk_far hx hb _
          have H1 := far1 _ _ _ n4 hH
          have N1 := far1 _ _ _ (by omega) s.bN
          have L1 := far1 _ _ _ (by omega) s.bL
          have P1 := far1 _ _ _ (fun e => n6 e.symm) s.bP
          have Y1 := far1 _ _ _ (fun e => n5 e.symm) s.bY
          have X1 := far1 _ _ _ (fun e => n7 e.symm) s.bX
          have row1 : Kd.R (Kd.int .i64) 3 w1 C.LO (fun k => ¬ R1 k ∧ k ≠ C.g) (.slice A h.length c) (castL h) := by rw [hw1]; exact Kd.R_far hrow (fun k hk => hk.2) _
          have hz1 : w1.heap.size = wr.heap.size := by rw [hw1]; simp [World.setCell]
          have hd1 : Held C.LO R1 wr w1 := by rw [hw1]; exact (Held.refl _ _ wr).setCell _ _ l5 (nr _ (.inr (.inr (.inr (.inr (.inl rfl))))))
          have b1 : Below C.w0.heap.size C.w0 w1 := by rw [hw1]; exact s.below.setCell (p := ⟨C.g, p, none⟩) (by show C.w0.heap.size ≤ C.g; have := HCC.out.w0; omega) _
          have HD1 := Aside0.mk hd1
          have B1 := Aside0.mk b1
          have HZ1 := Aside0.mk hz1
          have ROW1 := Aside0.mk row1
          have G1 := Aside0.mk g1
          have HH1 := Aside0.mk H1
          have HN1 := Aside0.mk N1
          have HL1 := Aside0.mk L1
          have HP1 := Aside0.mk P1
          have HY1 := Aside0.mk Y1
          have HX1 := Aside0.mk X1
          have NR := Aside0.mk nr
          have HRS := Aside0.mk hrs
          have HPUT := Aside0.mk hput
          have HBAK := Aside0.mk hbak
          have HFT := Aside0.mk hft
          have zH1 := (blk_cell H1 0).trans rfl
          have FR := Aside0.mk (fun (k : Nat) (hk : w1.heap.size ≤ k) => (⟨fun hr => by have := hrs k hr; omega, by omega⟩ : ¬ R1 k ∧ k ≠ C.g))
          have LOW := Aside0.mk (show C.LO ≤ w1.heap.size by omega)
          clear hd1 b1 hz1 row1 g1 H1 N1 L1 P1 Y1 X1 nr hrs hput hbak hft far1 hH hrow s
          subst hw1
          go_wp2_with (first
            | ((with_reducible refine gate_builtin (b := .append) (xs := #[.tmp 34, .tmp 36]) rfl ?_); at_builtin; refine Kd.R_append (Kd.int .i64) (w0 := wr.setCell ⟨C.g, p, none⟩ (.int .i64 (h.length : Int))) C.LO rfl (.tmp 34) (.tmp 36) 24 3 (.int .i64 0) 8 rfl Try.underlying24 info3 rfl (by decide) (by omega) (.slice A h.length c) (castL h) (p : Int) [.int .i64 (p : Int)] (fun k => ¬ R1 k ∧ k ≠ C.g) (fun _ => False) rfl (by rw [HZ1.out]; rfl) rfl (fun _ hk => hk.elim) FR.out ROW1.out (Below.refl _ _) LOW.out (by rw [castL_len]; have := HL.out; omega) ?_; intro v1 w2 ho hb2 hg2 hat2; rw [← castL_snoc] at ho; obtain ⟨A2, c2, rfl, hl2, hC2⟩ := Kd.R_reads ho; rw [castL_len, List.length_append, List.length_singleton] at ho; rw [castL_len, List.length_append, List.length_singleton]; have H2 := (hg2.block C.H (blk_lt HH1.out) (Kd.R_ne ROW1.out HH1.out (by decide))).trans HH1.out; have zH2 := (blk_cell H2 0).trans rfl; have hfH := blk_frozen H2 0; have X2 := (hg2.block C.X (blk_lt HX1.out) (Kd.R_ne ROW1.out HX1.out (by decide))).trans HX1.out; have zX3 := (blk_cell (blk_far X2 (p := ⟨C.H, 0, none⟩) (show C.X ≠ C.H from fun e => n3 e.symm) (.slice A2 (h.length + 1) c2)) 0).trans rfl; have HO2 := Aside0.mk ho; have HG2 := Aside0.mk hg2; have HB2 := Aside0.mk hb2; have HH2 := Aside0.mk H2; have HX2 := Aside0.mk X2; clear ho hg2 hb2 hat2 hl2 hC2 H2 X2))
          have hE3 : ∀ q, q ∈ 3 :: (Kd.int .i64).E → q ≠ 24 := by intro q hq; simp [Kd.int, Kd.scalar] at hq; omega
          have hg2 := HG2.out
          have hrow1 := ROW1.out
          have G2 := (hg2.block C.g (blk_lt G1.out) (fun e => (hrow1.1 _ e.symm).2 rfl)).trans G1.out
          have N2 := (HB2.out.block C.N l6).trans HN1.out
          have L2 := (HB2.out.block C.L l7).trans HL1.out
          have P2 := (hg2.block C.P (blk_lt HP1.out) (Kd.R_ne hrow1 HP1.out (by decide))).trans HP1.out
          have Y2 := (hg2.block C.Y (blk_lt HY1.out) (Kd.R_ne hrow1 HY1.out (by decide))).trans HY1.out
          have hl1 : (h ++ [p]).length = h.length + 1 := by simp
          have hat3 : HgAt C (h ++ [p]) R1 (w2.setCell ⟨C.H, 0, none⟩ (.slice A2 (h.length + 1) c2)) := by
            refine ⟨⟨A2, c2, ?_, ?_⟩, blk_far N2 (by show C.N ≠ C.H; omega) _, blk_far L2 (by show C.L ≠ C.H; omega) _, blk_far P2 (by show C.P ≠ C.H; exact fun e => n2 e.symm) _, blk_far G2 (by show C.g ≠ C.H; exact fun e => n4 e.symm) _, blk_far Y2 (by show C.Y ≠ C.H; exact fun e => n1 e.symm) _, blk_far HX2.out (by show C.X ≠ C.H; exact fun e => n3 e.symm) _, ?_, ?_⟩
            · rw [hl1]; exact blk_put HH2.out 0 _ rfl
            · rw [hl1]; exact Kd.R_set HO2.out HH2.out hE3 0 _
            · exact ((B1.out.trans (HB2.out.mono HCC.out.w0))).setCell (p := ⟨C.H, 0, none⟩) (by show C.w0.heap.size ≤ C.H; have := HCC.out.w0; omega) _
            · intro k hk
              obtain ⟨a1, a2, a3⟩ := HRS.out k hk
              refine ⟨a1, ?_, a3⟩
              have h1 := hg2.size
              have h2 := HZ1.out
              simp [World.setCell] at h1 ⊢
              omega
          have hj3 : J R1 (pre ++ (hangTo C.n d p h).filter (okH C.l C.n)) (w2.setCell ⟨C.H, 0, none⟩ (.slice A2 (h.length + 1) c2)) :=
            HJ.out _ _ _ _ HJ1.out ((HD1.out.of_grown hg2 (fun r hr => ⟨Kd.R_base hrow1 r hr, (hrow1.1 r hr).1⟩)).setCell _ _ l2 (NR.out _ (.inr (.inl rfl))))
          have hp3 : (pre ++ (hangTo C.n d p h).filter (okH C.l C.n) ++ (hang C.n d (h ++ [p])).filter (okH C.l C.n)) <+: XS := by
            rw [List.append_assoc, ← HFT.out]
            refine List.IsPrefix.trans ?_ HP.out
            rw [← hangTo_all]
            exact (List.prefix_append_right_inj pre).2 ((hangTo_prefix C.n d h (by omega)).filter _)
          have hcall := IH.out (h ++ [p]) (by rw [hl1]; have := HL.out; omega) R1 _ _ hat3 hj3 hp3
          rw [List.append_assoc, ← HFT.out] at hcall
          have hwsz : wr.heap.size ≤ (w2.setCell ⟨C.H, 0, none⟩ (.slice A2 (h.length + 1) c2)).heap.size := by
            have h1 := hg2.size
            have h2 := HZ1.out
            simp [World.setCell] at h1 ⊢
            omega
          have HWSZ := Aside0.mk hwsz
          have HL1_ := Aside0.mk hl1
          clear hE3 hg2 hrow1 G2 N2 L2 P2 Y2 hat3 hj3 hp3 hl1 hwsz zX zX3 zH2 hfH hxc zP zH zH1 hf HG2 HB2 HO2 HH2 HX2 G1 HH1 HN1 HL1 HP1 HY1 HX1 ROW1 HD1 B1 HZ1 FR LOW HPUT
          refine hcall.mono ?_
          clear hcall
          rintro e w4 ⟨rfl, R2, s4, j4, hR12, hsz4⟩
          have SZ4 := Aside0.mk hsz4
          clear hsz4
          obtain ⟨A4, c4, hH4, hrow4⟩ := s4.row
          rw [HL1_.out] at hH4 hrow4
          have hl4 := (Kd.R_reads' hrow4).2.1
          have zH4 := (blk_cell hH4 0).trans rfl
          have fH4 := blk_frozen hH4 0
          have zP4 := (blk_cell (blk_far s4.bP (p := ⟨C.H, 0, none⟩) (show C.P ≠ C.H from fun e => n2 e.symm) (.slice A4 h.length c4)) 0).trans rfl
          have G4 := blk_far s4.bg (p := ⟨C.H, 0, none⟩) (show C.g ≠ C.H from fun e => n4 e.symm) (.slice A4 h.length c4)
          have zg4 := (blk_cell G4 p).trans (ints_get _ p (by rw [plc_len]; exact hlt))
          have fg4 := blk_frozen G4 p
          have hhc : h.length ≤ c4 := by omega
          have HWL := Aside0.mk (wrap_natH h.length (by have := HL.out; omega))
          have S4 := Aside0.mk s4
          have J4 := Aside0.mk j4
          have ROW4 := Aside0.mk hrow4
          have HH4 := Aside0.mk hH4
          have R12 := Aside0.mk hR12
          have GG4 := Aside0.mk G4
          clear s4 j4 hrow4 hH4 hR12 G4
          dsimp only
          iterate 24 go_step
          rw [HWL.out]
          go_wp2
          have s4 := S4.out
          have hE3 : ∀ q, q ∈ 3 :: (Kd.int .i64).E → q ≠ 24 := by intro q hq; simp [Kd.int, Kd.scalar] at hq; omega
          have nH : ¬ R2 C.H := fun hr => (s4.rs _ hr).2.2.2.1 rfl
          have ng : ¬ R2 C.g := fun hr => (s4.rs _ hr).2.2.2.2.2.2 rfl
          have rowt : Kd.R (Kd.int .i64) 3 w4 C.LO (fun k => ¬ R2 k ∧ k ≠ C.g) (.slice A4 h.length c4) (castL h) := by
            have := Kd.R_take (m := h.length) ROW4.out (by rw [castL_len, HL1_.out]; omega)
            rwa [castL_app', List.take_append_of_le_length (by rw [castL_len]; exact Nat.le_refl _), List.take_of_length_le (by rw [castL_len]; exact Nat.le_refl _)] at this
          have hw0 := HCC.out.w0
          refine ⟨⟨p + 1, R2, ⟨by omega⟩, by go_num, ⟨?_⟩, ⟨?_⟩, ⟨fun k hk => R12.out k (HR1.out k hk)⟩, ⟨?_⟩⟩, by simp [intOf]; omega⟩
          · refine ⟨⟨A4, c4, blk_far (blk_put HH4.out 0 _ rfl) (by show C.H ≠ C.g; exact n4) _, Kd.R_far (Kd.R_set rowt HH4.out hE3 0 _) (fun k hk => hk.2) _⟩, blk_far (blk_far s4.bN (by show C.N ≠ C.H; omega) _) (by show C.N ≠ C.g; omega) _, blk_far (blk_far s4.bL (by show C.L ≠ C.H; omega) _) (by show C.L ≠ C.g; omega) _, blk_far (blk_far s4.bP (by show C.P ≠ C.H; exact fun e => n2 e.symm) _) (by show C.P ≠ C.g; exact fun e => n6 e.symm) _, blk_put GG4.out p _ (by rw [ints_set, HBAK.out]), blk_far (blk_far s4.bY (by show C.Y ≠ C.H; exact fun e => n1 e.symm) _) (by show C.Y ≠ C.g; exact fun e => n5 e.symm) _, blk_far (blk_far s4.bX (by show C.X ≠ C.H; exact fun e => n3 e.symm) _) (by show C.X ≠ C.g; exact fun e => n7 e.symm) _, (s4.below.setCell (p := ⟨C.H, 0, none⟩) (by show C.w0.heap.size ≤ C.H; omega) _).setCell (p := ⟨C.g, p, none⟩) (by show C.w0.heap.size ≤ C.g; omega) _, fun k hk => ?_⟩
            obtain ⟨a1, a2, a3⟩ := s4.rs k hk
            exact ⟨a1, by simpa [World.setCell] using a2, a3⟩
          · exact HJ.out _ _ _ _ J4.out (((Held.refl _ _ w4).setCell _ _ l2 nH).setCell _ _ l5 ng)
          · have h1 := hsz.out
            have h2 := HWSZ.out
            have h3 := SZ4.out
            have h4 : ((w4.setCell ⟨C.H, 0, none⟩ (.slice A4 h.length c4)).setCell ⟨C.g, p, none⟩ (.int .i64 (-1))).heap.size = w4.heap.size := by simp [World.setCell]
            rw [h4]
            exact Nat.le_trans h1 (Nat.le_trans h2 h3)
      · have hpe : p = C.n := by have := hpn.out; omega
        have hq := HJ1.out
        rw [hpe, hangTo_all] at hq
        have HJ2 := Aside0.mk hq
        clear HJ1 hpe hq
        go_wp2
        go_ret
        exact ⟨rfl, R1, HS.out, HJ2.out, HR1.out, hsz.out⟩
end Go.Proofs.Ytimkchehdaadeaa.P
end
