/- Part 44 of a proof: the statement CodesOne: for every input its law returns true (its texts without what nothing here names). -/
import Derived.Test.YtimkchehdaadeaaZOne24
import Derived.Test.YtimkchehdaadeaaZOne30
import Derived.Test.YtimkchehdaadeaaZOne41
import Derived.Test.YtimkchehdaadeaaZOne43

namespace Go.Proofs.Ytimkchehdaadeaa.P
open Go.RowKit Go.Shelf Go.Pad Go.Proofs.YtimkchehdaadeaaW.PrintWords Go.Proofs.YtimkchehdaadeaaW.PrintLast Go.Proofs.YtimkchehdaadeaaW.PrintMore
attribute [local go_sem] Oper.semAt_some
set_option linter.unusedVariables false
set_option linter.unusedSimpArgs false
theorem run_idx99 (L : List (List Int)) (i j : Nat) (h : j < 10) (W : World) : (Instr.index 99 (.agg (rowA L i)) (.int .i64 (j : Int))).run Try.prog W = .ok (.bool (showB L i j)) W := by
  have h1 := rowA_get L i j h
  have h2 : (0 ≤ (j : Int) ∧ (j : Int) < 10) := by omega
  simp [Instr.index, run_underlying Try.underlying99, asIntOf, h2, go_sem, h1]
  intro hh; omega
theorem fin47 (v : Value) (c : Int) (W : World) (tmps : Array Value) (e4 : tmps[4]?.getD undef = v) (e5 : tmps[5]?.getD undef = .int .i64 c) {R : Ending → World → Prop} (hR : R (.returned (.tuple #[v, .int .i64 c])) W) :
    LeavesInM Fence.wide 5 Try.prog Try.f47 tmps R [] .returning W := by
  refine ⟨.tuple #[v, .int .i64 c], ?_, hR⟩
  simp [results, Try.f47, go_sem, e4, e5]
set_option maxHeartbeats 8000000 in
set_option maxRecDepth 100000 in
theorem codes_Shows.calls (a0_0 : Int) (a0_1 : Int) (A1 : Option Addr) (c1 : Nat) (l1 : List S36) (r1 : List (List Int)) (r2 : Int) (w : World) (hr1 : Kd.C k36 w A1 l1.length l1) (hc1 : l1.length ≤ c1) (h : showsS a0_0 a0_1 l1 10 = (r1, r2)) :
    Calls Try.prog 47 #[.agg #[.int .i64 a0_0, .int .i64 a0_1], .slice A1 l1.length c1] w fun e w' => ∃ v : Value, e = .returned (.tuple #[v, .int .i64 r2]) ∧ Kd.S (Kd.slice 3 (Kd.int .i64)) 24 w' w.heap.size (fun _ => True) v r1 ∧ Below w.heap.size w w' := by
  have hu23 := Try.underlying23
  have K0 := Aside0.mk (blk_new w (.cells #[.int .i64 a0_0, .int .i64 a0_1] 23))
  have HB0 := Aside0.mk ((Below.refl w.heap.size w).alloc (Nat.le_refl _) (.cells #[.int .i64 a0_0, .int .i64 a0_1] 23))
  have C62 := Aside0.mk (codes_checkClues.calls a0_0 a0_1 A1 c1 l1 _ _ (Kd.C_below hr1 HB0.out) hc1 (checkClues_eq a0_0 a0_1 l1))
  have HR1 := Aside0.mk hr1
  have H := h
  clear hr1 h
  unfold showsS at H
  refine (callsIn_wide (n := 5)).1 (callsIn_of_wp_marks Try.func47 rfl trivial ?_ rfl)
  simp only [Try.ntmps47, List.size_toArray, List.length_cons, List.length_nil, Nat.reduceAdd, Nat.reduceSub, Array.replicate_succ, Array.replicate_zero, List.push_toArray, List.append_toArray, List.nil_append, List.cons_append]
  by_cases he : checkCluesS a0_0 a0_1 l1 = 0
  case neg =>
    rw [if_neg he] at H
    have hne : (checkCluesS a0_0 a0_1 l1 != 0) = true := bne_iff_ne.mpr he
    obtain ⟨e1, he1⟩ : ∃ e1, e1 = checkCluesS a0_0 a0_1 l1 := ⟨_, rfl⟩
    rw [← he1] at H C62 hne
    clear he he1
    simp only [Prod.mk.injEq] at H
    obtain ⟨rfl, rfl⟩ := H
    gi_wp2_with (first | (refine ⟨trivial, ?_⟩; gi_at_call 62; refine (callsIn_wide.2 C62.out).mono ?_; rintro e w6 ⟨rfl, h6⟩))
    exact fin47 _ _ _ _ rfl rfl ⟨_, rfl, Kd.S_nil _ _ _ _ _, below_then HB0.out HB0.out.size h6⟩
  obtain ⟨hl, hm, hv⟩ := checkClues_ok he
  rw [if_pos he] at H
  rw [he] at C62
  obtain ⟨n, s, rfl, rfl, hn1, hn4, hs2, hs10⟩ := lock_nat hl
  have HOK := Aside0.mk (ok_all hl hv)
  simp only [Int.toNat_natCast] at H
  have HH := Aside0.mk H
  clear H hl hv he
  gi_wp2_with (first
      | (refine ⟨trivial, ?_⟩; gi_at_call 62; refine (callsIn_wide.2 C62.out).mono ?_; rintro e w6 ⟨rfl, h6⟩; have HB6 := Aside0.mk (below_then HB0.out HB0.out.size h6); have k06 := Aside0.mk (blk_below K0.out h6); obtain ⟨d0, d1⟩ := cells2 (blk_alloc k06.out (.cells #[.bool false, .bool false, .bool false, .bool false, .bool false, .bool false, .bool false, .bool false, .bool false, .bool false, .bool false, .bool false, .bool false, .bool false, .bool false, .bool false, .bool false, .bool false, .bool false, .bool false, .bool false, .bool false, .bool false, .bool false, .bool false, .bool false, .bool false, .bool false, .bool false, .bool false, .bool false, .bool false, .bool false, .bool false, .bool false, .bool false, .bool false, .bool false, .bool false, .bool false] 100)); have z6 := h6.size; clear h6)
      | (refine ⟨trivial, ?_⟩; gi_at_call 72; refine (callsIn_wide.2 (codes_readings.calls _ _ _ rfl _)).mono ?_; rintro e w1 ⟨rfl, rfl⟩))
  obtain ⟨w9, hw9⟩ : ∃ w9, w9 = ((w6.alloc (.cells #[.bool false, .bool false, .bool false, .bool false, .bool false, .bool false, .bool false, .bool false, .bool false, .bool false, .bool false, .bool false, .bool false, .bool false, .bool false, .bool false, .bool false, .bool false, .bool false, .bool false, .bool false, .bool false, .bool false, .bool false, .bool false, .bool false, .bool false, .bool false, .bool false, .bool false, .bool false, .bool false, .bool false, .bool false, .bool false, .bool false, .bool false, .bool false, .bool false, .bool false] 100)).alloc (.cells #[.int .i64 n, .int .i64 s] 83)).alloc (.cells #[.slice A1 l1.length c1] 31) := ⟨_, rfl⟩
  have hz9 : w6.heap.size + 3 ≤ w9.heap.size := by rw [hw9]; simp
  have hD9 : w9.heap[w6.heap.size]? = some (.cells (grid40 (showB [])) 100 (0, 0)) := by rw [hw9, grid40_zero]; exact blk_alloc (blk_alloc (blk_new w6 _) _) _
  have hl9 : w9.heap[w6.heap.size + 1]? = some (.cells #[.int .i64 n, .int .i64 s] 83 (0, 0)) := by
    rw [hw9]; refine blk_alloc ?_ _
    have := blk_new (w6.alloc (.cells #[.bool false, .bool false, .bool false, .bool false, .bool false, .bool false, .bool false, .bool false, .bool false, .bool false, .bool false, .bool false, .bool false, .bool false, .bool false, .bool false, .bool false, .bool false, .bool false, .bool false, .bool false, .bool false, .bool false, .bool false, .bool false, .bool false, .bool false, .bool false, .bool false, .bool false, .bool false, .bool false, .bool false, .bool false, .bool false, .bool false, .bool false, .bool false, .bool false, .bool false] 100)) (.cells #[.int .i64 n, .int .i64 s] 83); rwa [World.size_alloc] at this
  have hc9 : w9.heap[w6.heap.size + 1 + 1]? = some (.cells #[.slice A1 l1.length c1] 31 (0, 0)) := by
    rw [hw9]; have := blk_new ((w6.alloc (.cells #[.bool false, .bool false, .bool false, .bool false, .bool false, .bool false, .bool false, .bool false, .bool false, .bool false, .bool false, .bool false, .bool false, .bool false, .bool false, .bool false, .bool false, .bool false, .bool false, .bool false, .bool false, .bool false, .bool false, .bool false, .bool false, .bool false, .bool false, .bool false, .bool false, .bool false, .bool false, .bool false, .bool false, .bool false, .bool false, .bool false, .bool false, .bool false, .bool false, .bool false] 100)).alloc (.cells #[.int .i64 n, .int .i64 s] 83)) (.cells #[.slice A1 l1.length c1] 31); rwa [World.size_alloc, World.size_alloc] at this
  have k09 : w9.heap[w.heap.size]? = some (.cells #[.int .i64 n, .int .i64 s] 23 (0, 0)) := by rw [hw9]; exact blk_alloc (blk_alloc (blk_alloc k06.out _) _) _
  have hB9 : Below w.heap.size w w9 := by rw [hw9]; exact ((HB6.out.alloc HB6.out.size _).alloc (by have := HB6.out.size; simp; omega) _).alloc (by have := HB6.out.size; simp; omega) _
  have hws : w.heap.size + 1 ≤ w6.heap.size := by simpa using z6
  rw [← hw9]
  clear hw9 d0 d1 z6
  obtain ⟨D, hD⟩ : ∃ D, D = w6.heap.size := ⟨_, rfl⟩
  rw [← hD] at hz9 hD9 hl9 hc9 hws ⊢
  clear hD k06 HB6
  refine wpIn_iter (k := 5) (M := fun b => b = D) (gf := 100) (lb := #[.pointer (some ⟨D + 1, 0, none⟩), .pointer (some ⟨D + 1 + 1, 0, none⟩)]) rfl (enters_of Try.func100 (by kernel_rfl) rfl)
    (readings_hit n s hn4 ⟨hs2, hs10⟩ l1 A1 c1 _ _ _ w w9 hl9 hc9 HR1.out hc1 hB9 (fun b h => by omega) (fun b h => by omega) (by omega) (by omega) HOK.out)
    (fun b h => by omega) (fun _ => rfl) (fun x A B h hab => lent_apart h hab (by omega))
    (fun pre W => W.heap[D]? = some (.cells (grid40 (showB pre)) 100 (0, 0)) ∧ W.heap[w.heap.size]? = some (.cells #[.int .i64 n, .int .i64 s] 23 (0, 0)) ∧ Below w.heap.size w W)
    (fun _ _ _ => False) ?hI ?hIx ⟨hD9, k09, hB9⟩
    (fun x => { tmps := #[.agg #[.int .i64 n, .int .i64 s], .slice A1 l1.length c1, .pointer (some ⟨w.heap.size, 0, none⟩), undef, .slice none 0 0, .int .i64 0, .int .i64 0, .pointer (some ⟨D, 0, none⟩), .slice (some ⟨w9.heap.size + 6, 0, none⟩) n n, undef, undef, undef, undef, undef, undef, .agg #[.int .i64 n, .int .i64 s], .slice A1 l1.length c1, .int .i64 0, .int .i64 0, .bool false, undef, .agg #[.int .i64 n, .int .i64 s], .slice A1 l1.length c1, .func (.func 100) #[] #[.pointer (some ⟨D + 1, 0, none⟩), .pointer (some ⟨D + 1 + 1, 0, none⟩)], .slice (some ⟨w9.heap.size + 6, 0, none⟩) n n, undef, undef, undef, undef, undef, undef, undef, undef, undef, undef, undef, undef, undef, undef, undef, undef, undef, undef, undef, undef, undef, undef, undef, undef, undef, undef, undef, undef, undef, undef, undef, undef, undef, undef, undef, undef, undef, undef, undef, undef, undef], defers := [] }) ?assign ?body ?done ?stop
  case hI =>
    rintro pre A B ⟨h1, h0, h2⟩ hab
    exact ⟨(hab.block _ (blk_lt h1) (.inl (by omega))).trans h1, (hab.block _ (blk_lt h0) (.inl (by omega))).trans h0, below_of_apart h2 hab (by omega) h2.size⟩
  case hIx => exact fun _ _ _ _ h _ => h.elim
  case assign =>
    intro l' x W K hK
    gi_wp2
    exact hK
  case body =>
    rintro l' pre x W hpre ⟨h1, h0, h2⟩ hx hsz
    have hmem : x ∈ allCodes s n := (List.mem_filter.1 (hpre.subset (by simp) : x ∈ readingsL s n l1)).1
    obtain ⟨hxl0, hdg⟩ := isCode_dig (by omega) (allCodes_isCode (by omega) hmem)
    have hxl : x.length = n := by omega
    have H1 := Aside0.mk h1
    have H0 := Aside0.mk h0
    have H2 := Aside0.mk h2
    have HX := Aside0.mk hx
    have HDG := Aside0.mk hdg
    have HXL := Aside0.mk hxl
    clear h1 h0 h2 hx hmem hxl0 hdg hpre hxl
    gi_wp2
    gi_loopw [27] (fun v27 wr => ∃ t : Nat, Aside0 (t ≤ n) ∧ v27 = .int .i64 t ∧ Aside0 (wr.heap[D]? = some (.cells (grid40 (showT pre x t)) 100 (0, 0))) ∧ Aside0 (KeepM (w9.heap.size + 7) (fun b => b = D) W wr) ∧ Aside0 (Below w.heap.size w wr)) (fun v27 _ => n - (intOf v27).toNat)
    case atStart => exact ⟨0, ⟨Nat.zero_le _⟩, rfl, ⟨by rw [showT_zero]; exact H1.out⟩, ⟨KeepM.refl _ _ W⟩, H2⟩
    case round =>
      obtain ⟨t, ht, rfl, HD, HKM, HBR⟩ := hrel
      by_cases hlt : t < n
      · have hxD : wr.heap[w9.heap.size + 6]? = some (.cells (ints x) 3 (0, 0)) := (HKM.out.block _ (by omega) (by omega)).trans HX.out
        have hxl := HXL.out
        have hc := (blk_cell hxD t).trans (ints_get x t (by omega))
        obtain ⟨hy0, hy1⟩ := dig_rd x HDG.out (t : Int) (by omega) (by omega)
        obtain ⟨sy, hsy⟩ : ∃ sy : Nat, rd x (t : Int) = (sy : Int) := ⟨(rd x (t : Int)).toNat, by omega⟩
        have hsl : sy < 10 := by omega
        have hgp := grid40_put (showT pre x t) (showT pre x (t + 1)) t sy (by omega) hsl (showT_next pre x t sy hsy)
        rw [hsy] at hc
        have hcell := (blk_cell HD.out (t * 10 + sy)).trans (grid40_get (showT pre x t) t sy _ (by omega) hsl rfl)
        have hfr := blk_frozen HD.out (t * 10 + sy)
        have HGP := Aside0.mk hgp
        clear hgp hsy hy0 hy1 hxD hxl
        gi_wp2
        refine ⟨⟨t + 1, ⟨by omega⟩, by go_num, ⟨blk_put HD.out (t * 10 + sy) _ HGP.out⟩, ⟨HKM.out.setCell _ _ (.inl rfl)⟩, ⟨HBR.out.setCell (p := ⟨D, t * 10 + sy, none⟩) (by show w.heap.size ≤ D; omega) _⟩⟩, ?_⟩
        simp [intOf]; omega
      · have hte : t = n := by have := ht.out; omega
        have hD1 : Aside0 (wr.heap[D]? = some (.cells (grid40 (showB (pre ++ [x]))) 100 (0, 0))) := ⟨by rw [← showT_all, HXL.out, ← hte]; exact HD.out⟩
        subst hte
        clear HD
        gi_wp2
        exact ⟨⟨hD1.out, (HKM.out.block _ (by omega) (by omega)).trans H0.out, HBR.out⟩, HKM.out.mono (by omega) (fun _ h => h)⟩
  case done =>
    rintro W ⟨h1, h0, h2⟩ hK
    rename_i hcont
    refine hcont _ _ (wpIn_wide.2 ?_)
    clear hcont
    obtain ⟨L, hL⟩ : ∃ L, L = readingsL s n l1 := ⟨_, rfl⟩
    have HE := HH.out
    rw [← hL] at h1 HE
    clear hL HH
    simp only [Prod.mk.injEq] at HE
    obtain ⟨rfl, rfl⟩ := HE
    obtain ⟨d0, d1⟩ := cells2 h0
    have H1 := Aside0.mk h1
    have H2 := Aside0.mk h2
    have HKD := Aside0.mk hK
    have hDl := blk_lt h1
    clear h0 h1 h2 hK
    go_wp2_with (first | ((with_reducible refine gate_dst (N := 39) rfl ?_); refine Kd.S_make (Kd.slice 3 (Kd.int .i64)) (w0 := W) W.heap.size 24 rfl (N := 39) rfl 51 _ _ rfl (n : Int) rfl rfl Try.underlying51 (.slice none 0 0) 24 info24 rfl (by decide) (by omega) ([] : List Int) (ok := fun _ => True) (okp := fun _ => True) ⟨_, rfl, Kd.R_nil _ _ _ _ _⟩ (fun _ hk => hk) trivial (by omega) (by rw [Int.toNat_natCast]; omega) (Below.refl _ _) (Nat.le_refl _) ?_; intro v1 w10 hS hb hg hnew; rw [Int.toNat_natCast, ← rowsTo_zero L n 10] at hS; obtain ⟨O, cap, rfl, hOb, _⟩ := Kd.S_form hS (by rw [rowsTo_len]; omega); rw [rowsTo_len] at hS; simp only [rowsTo_len]; have HS := Aside0.mk hS; have HBm := Aside0.mk hb; clear hS hb hg hnew d0 d1))
    go_loopw [42] (fun v42 wr => ∃ i : Nat, Aside0 (i ≤ n) ∧ v42 = .int .i64 i ∧ Aside0 (Kd.S (Kd.slice 3 (Kd.int .i64)) 24 wr W.heap.size (fun _ => True) (.slice (some ⟨O, 0, none⟩) n cap) (rowsTo L n 10 i 0)) ∧ Aside0 (Below W.heap.size W wr)) (fun v42 _ => n - (intOf v42).toNat)
    case atStart => exact ⟨0, ⟨Nat.zero_le _⟩, rfl, HS, HBm⟩
    case round =>
      clear HS HBm
      obtain ⟨i, hi, rfl, HS, HBR⟩ := hrel
      by_cases hlt : i < n
      · have hDr := (HBR.out.block D hDl).trans H1.out
        have k0 := (blk_cell hDr (i * 10)).trans (grid40_get (showB L) i 0 _ (by omega) (by omega) rfl)
        have k1 := (blk_cell hDr (i * 10 + 1)).trans (grid40_get (showB L) i 1 _ (by omega) (by omega) rfl)
        have k2 := (blk_cell hDr (i * 10 + 2)).trans (grid40_get (showB L) i 2 _ (by omega) (by omega) rfl)
        have k3 := (blk_cell hDr (i * 10 + 3)).trans (grid40_get (showB L) i 3 _ (by omega) (by omega) rfl)
        have k4 := (blk_cell hDr (i * 10 + 4)).trans (grid40_get (showB L) i 4 _ (by omega) (by omega) rfl)
        have k5 := (blk_cell hDr (i * 10 + 5)).trans (grid40_get (showB L) i 5 _ (by omega) (by omega) rfl)
        have k6 := (blk_cell hDr (i * 10 + 6)).trans (grid40_get (showB L) i 6 _ (by omega) (by omega) rfl)
        have k7 := (blk_cell hDr (i * 10 + 7)).trans (grid40_get (showB L) i 7 _ (by omega) (by omega) rfl)
        have k8 := (blk_cell hDr (i * 10 + 8)).trans (grid40_get (showB L) i 8 _ (by omega) (by omega) rfl)
        have k9 := (blk_cell hDr (i * 10 + 9)).trans (grid40_get (showB L) i 9 _ (by omega) (by omega) rfl)
        clear hDr
        go_wp2
        rw [rowA_lit L i]
        clear k0 k1 k2 k3 k4 k5 k6 k7 k8 k9
        go_loopw [48] (fun v48 wq => ∃ j : Nat, Aside0 (j ≤ 10) ∧ v48 = .int .i64 j ∧ Aside0 (Kd.S (Kd.slice 3 (Kd.int .i64)) 24 wq W.heap.size (fun _ => True) (.slice (some ⟨O, 0, none⟩) n cap) (rowsTo L n 10 i j)) ∧ Aside0 (Below W.heap.size W wq)) (fun v48 _ => 10 - (intOf v48).toNat)
        case atStart => exact ⟨0, ⟨Nat.zero_le _⟩, rfl, HS, HBR⟩
        case round =>
          clear HS HBR
          obtain ⟨j, hj, rfl, HS, HBR⟩ := hrel
          by_cases hlt2 : j < 10
          · have hidx := run_idx99 L i j hlt2 wr
            cases hb : showB L i j
            · rw [hb] at hidx
              have HSk : Aside0 (Kd.S (Kd.slice 3 (Kd.int .i64)) 24 wr W.heap.size (fun _ => True) (.slice (some ⟨O, 0, none⟩) n cap) (rowsTo L n 10 i (j + 1))) := ⟨by rw [← rowsTo_skip L n 10 i j hb]; exact HS.out⟩
              clear HS hb
              go_wp2
              refine ⟨⟨j + 1, ⟨by omega⟩, by go_num, HSk, HBR⟩, ?_⟩
              simp [intOf]; omega
            · rw [hb] at hidx
              obtain ⟨oki, Ai, ci, hRi, hli, hci, hoki, hput⟩ := row_put hlt HS.out
              rw [rowsTo_get L n 10 i j hlt] at hRi hli hci hput
              have hsl := symsTo_len L i j
              have hset := rowsTo_set L n 10 i j hlt hb
              obtain ⟨Y, hY⟩ : ∃ Y, Y = symsTo L i j := ⟨_, rfl⟩
              rw [← hY] at hRi hli hci hput hsl hset
              have HRI := Aside0.mk hRi
              have HPUT := Aside0.mk hput
              have HOKI := Aside0.mk hoki
              have HSET := Aside0.mk hset
              clear HS hb hRi hput hoki hY hset
              go_wp2_with (first | ((with_reducible refine gate_builtin (b := .append) (xs := #[.tmp 58, .tmp 60]) rfl ?_); at_builtin; refine Kd.R_append (Kd.int .i64) (w0 := W) W.heap.size rfl (.tmp 58) (.tmp 60) 24 3 (.int .i64 0) 8 rfl Try.underlying24 info3 rfl (by decide) (by omega) (.slice Ai Y.length ci) Y (j : Int) [.int .i64 (j : Int)] (fun k => oki k ∨ wr.heap.size ≤ k) (fun _ => False) rfl rfl rfl (fun _ hk => hk.elim) (fun k hk => .inr hk) (Kd.R_mono HRI.out (fun k hk => .inl hk)) HBR.out HBR.out.size (by omega) ?_; intro v1 w1 ho hb1 hg hat; obtain ⟨A1_, c1_, rfl, hl1_, hC1_⟩ := Kd.R_reads ho; obtain ⟨hS1, hf1, u1, hu1⟩ := HPUT.out w1 _ _ hg ho; rw [HSET.out, List.length_append, List.length_singleton] at hS1; have HS1 := Aside0.mk hS1; have HB1 := Aside0.mk hb1; clear hS1 hb1 hg hat ho hC1_))
              refine ⟨⟨j + 1, ⟨by omega⟩, by go_num, HS1, ⟨HB1.out.setCell (p := ⟨O, i, none⟩) (by show W.heap.size ≤ O; omega) _⟩⟩, ?_⟩
              simp [intOf]; omega
          · have hje : j = 10 := by have := hj.out; omega
            subst hje
            have HSn : Aside0 (Kd.S (Kd.slice 3 (Kd.int .i64)) 24 wr W.heap.size (fun _ => True) (.slice (some ⟨O, 0, none⟩) n cap) (rowsTo L n 10 (i + 1) 0)) := ⟨by rw [← rowsTo_next L n 10 i hlt]; exact HS.out⟩
            clear HS
            go_wp2
            refine ⟨⟨i + 1, ⟨by omega⟩, by go_num, HSn, HBR⟩, ?_⟩
            simp [intOf]; omega
      · have hie : i = n := by have := hi.out; omega
        subst hie
        have hKD := (HBR.out.block _ (blk_lt HKD.out)).trans HKD.out
        have HKDr := Aside0.mk hKD
        clear hKD
        go_wp2
        refine ⟨by simp, .inl ⟨_, _, rfl, run_takeDeferred HKDr.out, ?_⟩⟩
        refine fin47 _ _ _ _ rfl rfl ⟨_, rfl, ?_, ?_⟩
        · have hlt9 := blk_lt HKD.out
          exact Kd.S_lower (Kd.S_mono (Kd.S_step (Kd.S_bound HS.out) (fun k hk _ => World.putObj_heap_other (by have := hk.2.1; omega))) (fun _ _ => trivial)) H2.out.size
        · have hB4 := H2.out.trans (HBR.out.mono H2.out.size)
          exact below_of_apart hB4 ((Apart.refl w.heap.size (w9.heap.size + 1) _).putObj _ _ (by omega) (by omega)) (Nat.le_refl _) hB4.size
  case stop => exact fun _ _ _ _ _ h _ => h.elim
end Go.Proofs.Ytimkchehdaadeaa.P
