/- Part 44 of a proof: the statement CodesFewest: for every input its law returns true (its texts without what nothing here names). -/
import Derived.Test.YtimkchehdaadeaaZFewest19
import Derived.Test.YtimkchehdaadeaaZFewest32
import Derived.Test.YtimkchehdaadeaaZFewest41
import Derived.Test.YtimkchehdaadeaaZFewest42
import Derived.WalkSpells
namespace Go.Proofs.Ytimkchehdaadeaa.P
open Go.RowKit Go.Shelf Go.Proofs.YtimkchehdaadeaaW.PrintWords Go.Proofs.YtimkchehdaadeaaW.PrintLast Go.Proofs.YtimkchehdaadeaaW.PrintMore
set_option linter.unusedVariables false
set_option linter.unusedSimpArgs false
def FoundV (o : Option (List Nat)) (v : Value) (w : World) : Prop := match o with
  | none => v = .slice none 0 0
  | some b => ∃ (A : Addr) (c : Nat), v = .slice (some A) b.length c ∧ b.length ≤ c ∧ Kd.C (Kd.int .i64) w (some A) b.length (castL b)
def MorePost (o : Option (List Nat)) (w : World) (e : Ending) (w' : World) : Prop := ∃ v, e = .returned v ∧ FoundV o v w' ∧ Below w.heap.size w w'
theorem wrap_nat (n : Nat) (h : n ≤ 1000) : wrap64 (n : Int) = (n : Int) := by unfold wrap64; omega
set_option maxHeartbeats 8000000 in
set_option maxRecDepth 100000 in
theorem codes_more.calls (BS rc m : Nat) (RA : Option Addr) (rows : List (List Bool)) (hm : m ≤ 100000) (hrow : ∀ i, i < rows.length → (rows.getD i []).length = m) : ∀ (n : Nat) (A : Option Addr) (c : Nat) (ch : List Nat) (Au : Option Addr) (cu : Nat) (us : List Nat) (w : World)
    (hS : w.heap[BS]? = some (.cells #[.slice RA rows.length rc, .int .i64 (m : Int)] 108 (0, 0))) (hR : Kd.C kBB w RA rows.length rows) (hch : ∀ i ∈ ch, i < rows.length) (hus : ∀ i ∈ us, i < rows.length)
    (hC : Kd.C (Kd.int .i64) w A ch.length (castL ch)) (hc : ch.length ≤ c) (hU : Kd.C (Kd.int .i64) w Au us.length (castL us)) (hcu : us.length ≤ cu) (h0 : A = none → 0 < n) (hb : ch.length + n ≤ 1000) (hbu : us.length ≤ 1000),
    Calls Try.prog 86 #[.pointer (some ⟨BS, 0, none⟩), .slice A ch.length c, .slice Au us.length cu, .int .i64 (n : Int)] w (MorePost (srch (fun b => sumB rows b m == 1) n ch us) w) := by
  intro n
  induction n with
  | zero =>
    intro A c ch Au cu us w hS hR hch hus hC hc hU hcu h0 hb hbu
    obtain ⟨ad, rfl⟩ : ∃ ad, A = some ad := by
      cases A with
      | none => exact absurd (h0 rfl) (by omega)
      | some ad => exact ⟨ad, rfl⟩
    have C110 := Aside0.mk (codes_single.calls BS rc m RA rows (some ad) c ch w hS hm hR hrow hch hC hc)
    rw [srch_zero]
    have HC := Aside0.mk hC
    clear hS hR hch hus hC hU h0 hrow
    obtain ⟨b, hb⟩ : ∃ b, b = (sumB rows ch m == 1) := ⟨_, rfl⟩
    rw [← hb] at C110 ⊢
    clear hb
    cases b
    · go_enter Try.func86, Try.ntmps86
      go_wp2_with (go_at_call 110; refine C110.out.mono ?_; rintro e w1 ⟨rfl, h1⟩; have HB1 := Aside0.mk h1; clear h1)
      go_ret
      exact ⟨_, rfl, rfl, HB1.out⟩
    · go_enter Try.func86, Try.ntmps86
      go_wp2_with (go_at_call 110; refine C110.out.mono ?_; rintro e w1 ⟨rfl, h1⟩; have HB1 := Aside0.mk h1; clear h1)
      go_ret
      exact ⟨_, rfl, ⟨ad, c, rfl, hc, Kd.C_below HC.out HB1.out⟩, HB1.out⟩
  | succ n ih =>
    intro A c ch Au cu us w hS hR hch hus hC hc hU hcu h0 hb hbu
    have hu24 := Try.underlying24
    have IH := Aside0.mk ih
    have HS := Aside0.mk hS
    have HR := Aside0.mk hR
    have HCH := Aside0.mk hch
    have HUS := Aside0.mk hus
    have HC := Aside0.mk hC
    have HU := Aside0.mk hU
    have hcu' := Kd.C_max hU
    obtain ⟨o, ho⟩ : ∃ o, o = srch (fun b => sumB rows b m == 1) (n + 1) ch us := ⟨_, rfl⟩
    rw [← ho]
    have HO := Aside0.mk ho
    clear ih hS hR hch hus hC hU h0 ho hrow
    have hn1 : ((n + 1 : Nat) : Int) = (n : Int) + 1 := by omega
    rw [hn1]
    have hnz : ((n : Int) + 1 == 0) = false := beq_eq_false_iff_ne.mpr (by omega)
    have hsb : (n : Int) + 1 - 1 = (n : Int) := by omega
    have HN1 := Aside0.mk hn1
    have HSB := Aside0.mk hsb
    clear hn1 hsb
    go_enter Try.func86, Try.ntmps86
    go_wp2
    go_loopw [20] (fun v20 wr => ∃ k : Nat, Aside0 (k ≤ us.length) ∧ v20 = .int .i64 k ∧ Aside0 (o = srch (fun b => sumB rows b m == 1) (n + 1) ch (us.drop k)) ∧ Aside0 (Below w.heap.size w wr)) (fun v20 _ => us.length - (intOf v20).toNat)
    case atStart => exact ⟨0, ⟨Nat.zero_le _⟩, rfl, HO, ⟨Below.refl _ _⟩⟩
    case round =>
      clear HO
      obtain ⟨k, hk, rfl, HO, HB⟩ := hrel
      by_cases hlt : k < us.length
      · obtain ⟨adu, rfl, hcell⟩ := Kd.at_int HU.out (k : Int) (by omega) (by omega)
        rw [Int.toNat_natCast, castL_rd us k hlt] at hcell
        replace hcell := (HB.out.cell (World.block_lt_of_cell? w _ hcell)).trans hcell
        have hil := HUS.out _ (List.getElem_mem hlt)
        have hdrop : us.drop k = us[k] :: us.drop (k + 1) := List.drop_eq_getElem_cons hlt
        have hO := HO.out
        rw [hdrop] at hO
        obtain ⟨i, hi⟩ : ∃ i, i = us[k] := ⟨_, rfl⟩
        rw [← hi] at hcell hil hO
        have HO1 := Aside0.mk hO
        clear hi hdrop hO
        obtain ⟨wd, hwd⟩ : ∃ wd, wd = wr.drew := ⟨_, rfl⟩
        have HBd : Aside0 (Below w.heap.size w wd) := ⟨by rw [hwd]; exact below_drew1 HB.out⟩
        have C73 := Aside0.mk (fun w1 (h1 : Below wd.heap.size wd w1) => slices_Clone_int_int.calls A c (castL ch) (castL ch) w1 (by rw [castL_len]; exact Kd.C_below HC.out (below_then HBd.out HBd.out.size h1)) (by rw [castL_len]; exact hc) (by unfold slices_Clone_int_int.f; rw [if_pos (by rw [castL_len]; omega)]))
        rw [castL_len] at C73
        have hwn := wrap_next (i := k) (n := 1000) (by omega) (by omega)
        have hw1 : wrap64 (n : Int) = (n : Int) := by unfold wrap64; omega
        have h01 : (0 : Int) ≤ (k : Int) + 1 := by omega
        have hku : (k : Int) + 1 ≤ (us.length : Int) := by omega
        have FD0 := Kd.C_drop (m := k + 1) (c := cu) (xs := castL us) (by rw [castL_len]; exact HU.out) (by rw [castL_len]; omega) (by rw [castL_len]; exact hcu)
        have hdl : ((castL us).drop (k + 1)) = castL (us.drop (k + 1)) := by simp [castL]
        rw [hdl, castL_len, List.length_drop] at FD0
        replace FD0 : Kd.C (Kd.int .i64) w (if cu = k + 1 then some adu else some (adu.add (k + 1))) (us.length - (k + 1)) (castL (us.drop (k + 1))) := by simpa [show (Kd.int .i64).sz = 1 from rfl] using FD0
        clear hdl
        have hadd : adu.add (k + 1) = ⟨adu.block, adu.off + (k + 1), none⟩ := by simp [Addr.add]
        rw [hadd] at FD0
        obtain ⟨AU, hAU⟩ : ∃ AU : Option Addr, (if cu = k + 1 then some adu else some (⟨adu.block, adu.off + (k + 1), none⟩ : Addr)) = AU := ⟨_, rfl⟩
        rw [hAU] at FD0
        clear hadd
        have FD := Aside0.mk FD0
        clear FD0
        have HWD := Aside0.mk hwd
        clear hwd
        go_wp2
        refine start_ (n := 14) (S := fun _ => True) (ds := []) #[false, false, false, false, false, false, false, false, false, false, false, false, false, false] (by kernel_rfl) rfl rfl trivial (fun hHeld => ?_)
        refine pure_ (i := 0) (N := some 25) (v := ?_) (a' := ?_) #[true, false, false, false, false, false, false, false, false, false, false, false, false, false] rfl rfl (by kernel_rfl) (fun _ _ _ h => h) (Or.inl ⟨by rfl, ?_⟩) ?_ ?_
        rotate_left
        · intro w'
          go_simp
          with_reducible rfl
        rotate_left
        · simp only [Act.put, List.setIfInBounds_toArray, List.set_cons_zero, List.set_cons_succ, i64_w, i32_w]
          rfl
        refine pure_ (i := 1) (N := some 26) (v := ?_) (a' := ?_) #[true, true, false, false, false, false, false, false, false, false, false, false, false, false] rfl rfl (by kernel_rfl) (fun _ _ _ h => h) (Or.inl ⟨by rfl, ?_⟩) ?_ ?_
        rotate_left
        · intro w'
          go_simp
          with_reducible rfl
        rotate_left
        · simp only [Act.put, List.setIfInBounds_toArray, List.set_cons_zero, List.set_cons_succ, i64_w, i32_w]
          rfl
        refine pure_ (i := 3) (N := some 28) (v := ?_) (a' := ?_) #[true, true, false, true, false, false, false, false, false, false, false, false, false, false] rfl rfl (by kernel_rfl) (fun _ _ _ h => h) (Or.inl ⟨by rfl, ?_⟩) ?_ ?_
        rotate_left
        · intro w'
          go_simp
          with_reducible rfl
        rotate_left
        · simp only [Act.put, List.setIfInBounds_toArray, List.set_cons_zero, List.set_cons_succ, i64_w, i32_w]
          rfl
        refine pure_ (i := 6) (N := some 31) (v := ?_) (a' := ?_) #[true, true, false, true, false, false, true, false, false, false, false, false, false, false] rfl rfl (by kernel_rfl) (fun _ _ _ h => h) (Or.inl ⟨by rfl, ?_⟩) ?_ ?_
        rotate_left
        · intro w'
          go_simp
          with_reducible rfl
        rotate_left
        · simp only [Act.put, List.setIfInBounds_toArray, List.set_cons_zero, List.set_cons_succ, i64_w, i32_w]
          rfl
        refine pure_ (i := 7) (N := some 32) (v := ?_) (a' := ?_) #[true, true, false, true, false, false, true, true, false, false, false, false, false, false] rfl rfl (by kernel_rfl) (fun _ _ _ h => h) (Or.inl ⟨by rfl, ?_⟩) ?_ ?_
        rotate_left
        · intro w'
          go_simp
          with_reducible rfl
        rotate_left
        · simp only [Act.put, List.setIfInBounds_toArray, List.set_cons_zero, List.set_cons_succ, i64_w, i32_w]
          rfl
        refine pure_ (i := 8) (N := some 33) (v := ?_) (a' := ?_) #[true, true, false, true, false, false, true, true, true, false, false, false, false, false] rfl rfl (by kernel_rfl) (fun _ _ _ h => h) (Or.inl ⟨by rfl, ?_⟩) ?_ ?_
        rotate_left
        · intro w'
          go_simp
          with_reducible rfl
        rotate_left
        · simp only [Act.put, List.setIfInBounds_toArray, List.set_cons_zero, List.set_cons_succ, i64_w, i32_w]
          rfl
        refine pure_ (i := 9) (N := some 34) (v := ?_) (a' := ?_) #[true, true, false, true, false, false, true, true, true, true, false, false, false, false] rfl rfl (by kernel_rfl) (fun _ _ _ h => h) (Or.inl ⟨by rfl, ?_⟩) ?_ ?_
        rotate_left
        · intro w'
          go_simp
          with_reducible rfl
        rotate_left
        · simp only [Act.put, List.setIfInBounds_toArray, List.set_cons_zero, List.set_cons_succ, i64_w, i32_w]
          rfl
        refine pure_ (i := 10) (N := some 35) (v := ?_) (a' := ?_) #[true, true, false, true, false, false, true, true, true, true, true, false, false, false] rfl rfl (by kernel_rfl) (fun _ _ _ h => h) (Or.inl ⟨by rfl, ?_⟩) ?_ ?_
        rotate_left
        · intro w'
          go_simp
          with_reducible rfl
        rotate_left
        · simp only [Act.put, List.setIfInBounds_toArray, List.set_cons_zero, List.set_cons_succ, i64_w, i32_w]
          rfl
        refine pure_ (i := 11) (N := some 36) (v := ?_) (a' := ?_) #[true, true, false, true, false, false, true, true, true, true, true, true, false, false] rfl rfl (by kernel_rfl) (fun _ _ _ h => h) (Or.inl ⟨by rfl, ?_⟩) ?_ ?_
        rotate_left
        · intro w'
          go_simp
          with_reducible rfl
        rotate_left
        · simp only [Act.put, List.setIfInBounds_toArray, List.set_cons_zero, List.set_cons_succ, i64_w, i32_w]
          rfl
        rw [← HWD.out]
        clear hAU hwn hw1 h01 hku
        refine join_ (σ := Value × Value × Option Addr × Nat) 2 #[true, true, true, true, true, true, true, true, true, true, true, true, false, false] (fun s => [(27, s.1), (29, s.2.1), (30, .slice s.2.2.1 (ch.length + 1) s.2.2.2)]) (fun s w' => ch.length + 1 ≤ s.2.2.2 ∧ Kd.C (Kd.int .i64) w' s.2.2.1 (ch.length + 1) (castL (ch ++ [i])) ∧ Below wd.heap.size wd w') ?_ ?_
        rotate_left
        · intro hcont
          refine two_ (i := 2) (j := 4) (Ni := some 27) (Nj := some 29) #[true, true, true, true, false, false, true, true, true, true, true, true, false, false] #[true, true, false, true, true, false, true, true, true, true, true, true, false, false] rfl rfl rfl rfl (by kernel_rfl) (by decide) (by decide) (fun K hK => ?_) (fun K hK => ?_)
          · refine goes_ Try.func73 (by kernel_rfl) rfl #[.slice A ch.length c] (by rfl) rfl rfl (by (try simp only [List.map_toArray, List.map_cons, List.map_nil]); first | done | rfl) ?_
            refine (C73.out wd (Below.refl _ _)).mono ?_
            rintro e w6 ⟨v1, rfl, hR1, hB6⟩
            refine ⟨_, rfl, ?_⟩
            refine hK.out _ _ trivial (fun hHeld => ?_)
            clear hK K
            refine one_ (i := 4) (N := some 29) #[true, true, true, true, true, false, true, true, true, true, true, true, false, false] rfl rfl (by kernel_rfl) (by decide) (fun K hK => ?_)
            rw [if_pos (by rfl)]
            go_simp
            refine hK.out _ _ trivial (fun hHeld => ?_)
            clear hK K
            refine one_ (i := 5) (N := some 30) #[true, true, true, true, true, true, true, true, true, true, true, true, false, false] rfl rfl (by kernel_rfl) (by decide) (fun K hK => ?_)
            refine Kd.R_append_step (Kd.int .i64) (w0 := wd) (W := w6) wd.heap.size rfl (.tmp 27) (.tmp 29) 24 3 (.int .i64 0) 8 rfl Try.underlying24 info3 rfl (by decide) (by omega) v1 (castL ch) (i : Int) [.int .i64 (i : Int)] (fun _ => True) (fun _ => False) rfl rfl rfl (fun _ hk => hk.elim) (fun _ _ => trivial) hR1 hB6 hB6.size (by rw [castL_len]; omega) ?_
            intro v2 w7 hR2 hB7 hg7 hat7
            rw [← castL_snoc] at hR2
            obtain ⟨A7, c7, rfl, hl7, hC7⟩ := Kd.R_reads hR2
            rw [castL_len, List.length_append, List.length_singleton] at hl7 hC7
            rw [castL_len, List.length_append, List.length_singleton]
            refine hK.out _ _ trivial (fun _ => ?_)
            exact norm_ rfl (hcont (v1, .slice (some ⟨w6.heap.size, 0, none⟩) 1 1, A7, c7) w7 ⟨hl7, hC7, hB7⟩)
          · rw [if_pos (by rfl)]
            go_simp
            have hBb := (Below.refl wd.heap.size wd).alloc (Nat.le_refl _) (.cells [Value.int .i64 (i : Int)].toArray 3)
            refine hK.out _ _ trivial (fun hHeld => ?_)
            clear hK K
            refine one_ (i := 2) (N := some 27) #[true, true, true, true, true, false, true, true, true, true, true, true, false, false] rfl rfl (by kernel_rfl) (by decide) (fun K hK => ?_)
            refine goes_ Try.func73 (by kernel_rfl) rfl #[.slice A ch.length c] (by rfl) rfl rfl (by (try simp only [List.map_toArray, List.map_cons, List.map_nil]); first | done | rfl) ?_
            refine (C73.out _ hBb).mono ?_
            rintro e w6 ⟨v1, rfl, hR1, hB6⟩
            refine ⟨_, rfl, ?_⟩
            refine hK.out _ _ trivial (fun hHeld => ?_)
            clear hK K
            have hlit : Kd.C (Kd.int .i64) w6 (some ⟨wd.heap.size, 0, none⟩) 1 [(i : Int)] := lent_C (x := [(i : Int)]) (blk_below (blk_new wd (.cells #[.int .i64 (i : Int)] 3)) hB6) (by simp)
            refine one_ (i := 5) (N := some 30) #[true, true, true, true, true, true, true, true, true, true, true, true, false, false] rfl rfl (by kernel_rfl) (by decide) (fun K hK => ?_)
            refine Kd.R_append_rows_step (Kd.int .i64) (Rr := fun (x : Int) (cs : List Value) => cs = [.int .i64 x]) (w0 := wd.alloc (.cells [Value.int .i64 (i : Int)].toArray 3)) (W := w6) (wd.alloc (.cells [Value.int .i64 (i : Int)].toArray 3)).heap.size rfl (.tmp 27) (.tmp 29) 24 3 (.int .i64 0) 8 rfl Try.underlying24 info3 rfl (by decide) (by omega) v1 (castL ch) [(i : Int)] (some ⟨wd.heap.size, 0, none⟩) 1 1 (fun _ => True) (fun _ => False) rfl rfl hR1 hlit (fun _ _ h => h) (fun _ hk => hk.elim) (fun _ _ => trivial) hB6 hB6.size (by rw [castL_len]; omega) ?_
            intro v2 w7 hR2 hB7 hg7 hat7
            rw [← castL_snoc] at hR2
            obtain ⟨A7, c7, rfl, hl7, hC7⟩ := Kd.R_reads hR2
            rw [castL_len, List.length_append, List.length_singleton] at hl7 hC7
            rw [castL_len, List.length_append, List.length_singleton]
            refine hK.out _ _ trivial (fun _ => ?_)
            exact norm_ rfl (hcont (v1, .slice (some ⟨wd.heap.size, 0, none⟩) 1 1, A7, c7) w7 ⟨hl7, hC7, below_then hBb hBb.size hB7⟩)
        rintro ⟨v1, vb, A7, c7⟩ w7 ⟨hl7, hC7, hB7⟩
        refine norm_ (a' := ?_) ?_ ?_
        rotate_left
        · show putAll _ _ = _
          simp only [putAll, Act.put, List.setIfInBounds_toArray, List.set_cons_zero, List.set_cons_succ, i64_w, i32_w]
          rfl
        simp only at hl7 hC7 ⊢
        obtain ⟨ad7, rfl⟩ : ∃ ad7, A7 = some ad7 := by
          obtain ⟨ad7, e7, _⟩ := hC7.2.2 (by omega)
          exact ⟨ad7, e7⟩
        have HB7 := Aside0.mk (below_then HBd.out HBd.out.size hB7)
        have hCX := IH.out (some ad7) c7 (ch ++ [i]) AU (cu - (k + 1)) (us.drop (k + 1)) w7 (blk_below HS.out HB7.out) (Kd.C_below HR.out HB7.out) (fun j hj => by
          rcases List.mem_append.1 hj with h | h
          · exact HCH.out j h
          · rw [List.mem_singleton.1 h]; exact hil) (fun j hj => HUS.out j (List.mem_of_mem_drop hj)) (by rw [List.length_append, List.length_singleton]; exact hC7) (by rw [List.length_append, List.length_singleton]; exact hl7) (by rw [List.length_drop]; exact Kd.C_below FD.out HB7.out) (by rw [List.length_drop]; omega) (fun h => by cases h) (by rw [List.length_append, List.length_singleton]; omega) (by rw [List.length_drop]; omega)
        rw [List.length_append, List.length_singleton, List.length_drop, ← wrap_nat n (by omega)] at hCX
        have CX := Aside0.mk hCX
        clear hCX
        refine one_ (i := 12) (N := some 37) #[true, true, true, true, true, true, true, true, true, true, true, true, true, false] rfl rfl (by kernel_rfl) (by decide) (fun K hK => ?_)
        refine goes_ Try.func86 (by kernel_rfl) rfl #[.pointer (some ⟨BS, 0, none⟩), .slice (some ad7) (ch.length + 1) c7, .slice AU (us.length - (k + 1)) (cu - (k + 1)), .int .i64 (wrap64 (n : Int))] (by rfl) rfl rfl (by (try simp only [List.map_toArray, List.map_cons, List.map_nil]); first | done | rfl) ?_
        refine CX.out.mono ?_
        rintro e w8 ⟨v8, rfl, hF8, hB8⟩
        refine ⟨_, rfl, ?_⟩
        refine hK.out _ _ trivial (fun hHeld => ?_)
        clear hK K
        have HB8 := Aside0.mk (below_then HB7.out HB7.out.size hB8)
        obtain ⟨o2, hs⟩ : ∃ o2, srch (fun b => sumB rows b m == 1) n (ch ++ [i]) (us.drop (k + 1)) = o2 := ⟨_, rfl⟩
        rw [hs] at hF8
        rcases o2 with _ | b
        · skip
          obtain rfl : v8 = .slice none 0 0 := hF8
          have HO2 := Aside0.mk (HO1.out.trans (srch_miss hs))
          clear hs hC7 hB7 hB8
          refine norm_ (a' := ?_) ?_ ?_
          rotate_left
          · show Act.put _ (some 37) _ = _
            simp only [Act.put, List.setIfInBounds_toArray, List.set_cons_zero, List.set_cons_succ, i64_w, i32_w]
            rfl
          refine pure_ (i := 13) (N := some 11) (v := ?_) (a' := ?_) #[true, true, true, true, true, true, true, true, true, true, true, true, true, true] rfl rfl (by kernel_rfl) (fun _ _ _ h => h) (Or.inl ⟨by rfl, ?_⟩) ?_ ?_
          rotate_left
          · intro w'
            go_simp
            with_reducible rfl
          rotate_left
          · simp only [Act.put, List.setIfInBounds_toArray, List.set_cons_zero, List.set_cons_succ, i64_w, i32_w]
            rfl
          refine done_ (by kernel_rfl) ?_
          have heq := fun (u : World) => Go.run_neq_slice_nil_any (P := Try.prog) u 24 3 none 0 0 0 0 hu24
          go_wp2
          refine ⟨⟨k + 1, ⟨by omega⟩, by go_num, HO2, HB8⟩, ?_⟩
          simp [intOf]; omega
        · skip
          obtain ⟨A8, c8, rfl, hl8, hC8⟩ := hF8
          have HO2 := Aside0.mk (HO1.out.trans (srch_hit hs))
          have HC8 := Aside0.mk hC8
          have HL8 := Aside0.mk hl8
          clear hs hl8 hC8 hC7 hB7 hB8
          refine norm_ (a' := ?_) ?_ ?_
          rotate_left
          · show Act.put _ (some 37) _ = _
            simp only [Act.put, List.setIfInBounds_toArray, List.set_cons_zero, List.set_cons_succ, i64_w, i32_w]
            rfl
          refine pure_ (i := 13) (N := some 11) (v := ?_) (a' := ?_) #[true, true, true, true, true, true, true, true, true, true, true, true, true, true] rfl rfl (by kernel_rfl) (fun _ _ _ h => h) (Or.inl ⟨by rfl, ?_⟩) ?_ ?_
          rotate_left
          · intro w'
            go_simp
            with_reducible rfl
          rotate_left
          · simp only [Act.put, List.setIfInBounds_toArray, List.set_cons_zero, List.set_cons_succ, i64_w, i32_w]
            rfl
          refine done_ (by kernel_rfl) ?_
          have heq := fun (u : World) => Go.run_neq_slice_nil_any (P := Try.prog) u 24 3 (some A8) b.length c8 0 0 hu24
          go_wp2
          go_ret
          exact ⟨_, rfl, by rw [HO2.out]; exact ⟨A8, c8, rfl, HL8.out, HC8.out⟩, HB8.out⟩
      · have hke : k = us.length := by have := hk.out; omega
        subst hke
        have hO := HO.out
        rw [List.drop_length, srch_nil] at hO
        have HO1 := Aside0.mk hO
        clear hO HO
        go_wp2
        go_ret
        refine ⟨_, rfl, ?_, HB.out⟩
        rw [HO1.out]; rfl
end Go.Proofs.Ytimkchehdaadeaa.P
