/- Part 42 of a proof: the statement CodesFewest: for every input its law returns true (its texts without what nothing here names). -/
import Derived.Test.YtimkchehdaadeaaZFewest14

namespace Go.Proofs.Ytimkchehdaadeaa.P
open Go.RowKit Go.Shelf Go.Proofs.YtimkchehdaadeaaW.PrintWords Go.Proofs.YtimkchehdaadeaaW.PrintLast Go.Proofs.YtimkchehdaadeaaW.PrintMore
set_option linter.unusedVariables false
set_option linter.unusedSimpArgs false
abbrev kBB : Kd (List Bool) := Kd.slice 4 Kd.bool
theorem at_BB {w : World} {A : Option Addr} {n : Nat} {xs : List (List Bool)} (h : Kd.C kBB w A n xs) (i : Nat) (h1 : i < n) : ∃ ad A0 c0, A = some ad ∧ w.cell? (ad.add i) = some (.slice A0 (xs.getD i []).length c0) ∧ (xs.getD i []).length ≤ c0 ∧ Kd.bool.C w A0 (xs.getD i []).length (xs.getD i []) := by
  obtain ⟨ad, c, e, _, hK, hc0⟩ := Kd.C_get h ([] : List Bool) (i : Int) (by omega) (by omega)
  have hc : ∀ j u, c[j]? = some u → w.cell? (ad.add (i * 1 + j)) = some u := hc0
  obtain ⟨A0, c0, rfl, l0, g0⟩ := hK
  exact ⟨ad, A0, c0, e, by have hq := hc 0 _ rfl; rwa [Nat.mul_one, Nat.add_zero] at hq, l0, g0⟩
def atB (rows : List (List Bool)) (i k : Nat) : Bool := (rows.getD i []).getD k false
set_option maxHeartbeats 4000000 in
set_option maxRecDepth 100000 in
theorem ask_single1 (BS BC BK rc : Nat) (many : Int) (RA : Option Addr) (rows : List (List Bool)) (i k : Nat) (w : World) (hS : w.heap[BS]? = some (.cells #[.slice RA rows.length rc, .int .i64 many] 108 (0, 0))) (hC : w.heap[BC]? = some (.cells #[.pointer (some ⟨BS, 0, none⟩)] 105 (0, 0))) (hK : w.heap[BK]? = some (.cells #[.int .i64 (k : Int)] 3 (0, 0)))
    (hR : Kd.C kBB w RA rows.length rows) (hi : i < rows.length) (hk : k < (rows.getD i []).length) :
    Asks 116 #[.pointer (some ⟨BC, 0, none⟩), .pointer (some ⟨BK, 0, none⟩)] (.int .i64 (i : Int)) (!atB rows i k) w := by
  obtain ⟨ad, A0, c0, rfl, hrow, hl0, hC0⟩ := at_BB hR i hi
  obtain ⟨ad0, rfl, hcell⟩ := Kd.at_bool hC0 (k : Int) (by omega) (by omega)
  rw [Int.toNat_natCast] at hcell
  have hv : rdOf false (rows.getD i []) (k : Int) = atB rows i k := by simp [rdOf, atB]
  rw [hv] at hcell
  have hmx := Kd.C_max hR
  have hmx0 := Kd.C_max hC0
  obtain ⟨b, hb⟩ : ∃ b, b = atB rows i k := ⟨_, rfl⟩
  obtain ⟨n, hn⟩ : ∃ n, n = rows.length := ⟨_, rfl⟩
  obtain ⟨m, hm⟩ : ∃ m, m = (rows.getD i []).length := ⟨_, rfl⟩
  rw [← hb] at hcell ⊢
  rw [← hm] at hrow hk hl0 hmx0
  rw [← hn] at hi hS hmx
  have s0 := (blk_cell hS 0).trans rfl
  have s1 := (blk_cell hC 0).trans rfl
  have s2 := (blk_cell hK 0).trans rfl
  clear hb hm hn hS hC hK hR hC0 hv
  unfold Asks
  go_enter Try.func116, Try.ntmps116
  go_wp2
  go_quiet (fail)
  go_wp2
  go_ret
  exact ⟨rfl, pw_below_drewN (Below.refl _ _) _⟩
def sumB (rows : List (List Bool)) (ch : List Nat) (m : Nat) : Nat := ((List.range m).filter fun k => ch.all fun i => atB rows i k).length
theorem sumB_succ (rows : List (List Bool)) (ch : List Nat) (m : Nat) : sumB rows ch (m + 1) = if (ch.all fun i => atB rows i m) = true then sumB rows ch m + 1 else sumB rows ch m := by
  unfold sumB
  rw [List.range_succ, List.filter_append]
  by_cases h : (ch.all fun i => atB rows i m) = true <;> simp [List.filter_cons, h]
theorem sumB_le (rows : List (List Bool)) (ch : List Nat) (m : Nat) : sumB rows ch m ≤ m := by
  unfold sumB
  exact Nat.le_trans (List.length_filter_le _ _) (by simp)
set_option maxHeartbeats 4000000 in
set_option maxRecDepth 100000 in
theorem codes_single.calls (BS rc m : Nat) (RA : Option Addr) (rows : List (List Bool)) (A : Option Addr) (c : Nat) (ch : List Nat) (w : World) (hS : w.heap[BS]? = some (.cells #[.slice RA rows.length rc, .int .i64 (m : Int)] 108 (0, 0))) (hm : m ≤ 100000)
    (hR : Kd.C kBB w RA rows.length rows) (hrow : ∀ i, i < rows.length → (rows.getD i []).length = m) (hch : ∀ i ∈ ch, i < rows.length) (hC : Kd.C (Kd.int .i64) w A ch.length (ch.map fun i : Nat => (i : Int))) (hc : ch.length ≤ c) :
    Calls Try.prog 110 #[.pointer (some ⟨BS, 0, none⟩), .slice A ch.length c] w fun e w' => e = .returned (.bool (sumB rows ch m == 1)) ∧ Below w.heap.size w w' := by
  have hBS := blk_lt hS
  have HS := Aside0.mk hS
  have HR := Aside0.mk hR
  have HROW := Aside0.mk hrow
  have HCH := Aside0.mk hch
  have HC := Aside0.mk hC
  have HB1 := Aside0.mk ((Below.refl w.heap.size w).alloc (Nat.le_refl _) (.cells #[.pointer (some ⟨BS, 0, none⟩)] 105))
  have K1 := Aside0.mk (blk_new w (.cells #[.pointer (some ⟨BS, 0, none⟩)] 105))
  have s0 := (blk_cell (blk_alloc hS (.cells #[.pointer (some ⟨BS, 0, none⟩)] 105)) 1).trans rfl
  clear hS hR hrow hch hC
  go_enter Try.func110, Try.ntmps110
  go_wp2
  clear s0
  go_loopw [5, 11] (fun v5 v11 wr => ∃ k : Nat, Aside0 (k ≤ m) ∧ v11 = .int .i64 k ∧ v5 = .int .i64 (sumB rows ch k : Nat) ∧ Aside0 (Below w.heap.size w wr) ∧ Aside0 (wr.heap[w.heap.size]? = some (.cells #[.pointer (some ⟨BS, 0, none⟩)] 105 (0, 0)))) (fun _ v11 _ => m - (intOf v11).toNat)
  case atStart => exact ⟨0, ⟨Nat.zero_le _⟩, rfl, rfl, HB1, K1⟩
  case round =>
    clear HB1 K1
    obtain ⟨k, hk, rfl, rfl, HB, HK⟩ := hrel
    by_cases hlt : k < m
    · have hq := contains_int 116 #[.pointer (some ⟨w.heap.size, 0, none⟩), .pointer (some ⟨wr.heap.size, 0, none⟩)] (enters_of Try.func116 (by kernel_rfl) rfl) (fun x => !atB rows x.toNat k) A c (ch.map fun i : Nat => (i : Int)) (wr.alloc (.cells #[.int .i64 (k : Int)] 3))
        (by rw [List.length_map]; exact Kd.C_alloc (Kd.C_below HC.out HB.out) _) (by rw [List.length_map]; exact hc) (fun x hx W hW => by
          obtain ⟨i, hi, rfl⟩ := List.mem_map.1 hx
          rw [Int.toNat_natCast]
          have hil := HCH.out i hi
          have hBW : Below w.heap.size w W := below_then (HB.out.alloc HB.out.size _) (by have := HB.out.size; simp; omega) hW
          exact ask_single1 BS w.heap.size wr.heap.size rc m RA rows i k W (blk_below HS.out hBW) (blk_below (blk_alloc HK.out _) hW) (blk_below (blk_new wr _) hW) (Kd.C_below HR.out hBW) hil (by rw [HROW.out i hil]; exact hlt))
      rw [List.length_map, List.any_map, show ((fun x : Int => !atB rows x.toNat k) ∘ fun i : Nat => (i : Int)) = fun i => !atB rows i k from by funext i; simp, ← List.not_all_eq_any_not] at hq
      have hsu := sumB_succ rows ch k
      have hle := sumB_le rows ch k
      obtain ⟨b, hb⟩ : ∃ b, b = ch.all fun i => atB rows i k := ⟨_, rfl⟩
      rw [← hb] at hq hsu
      obtain ⟨t, ht⟩ : ∃ t, t = sumB rows ch k := ⟨_, rfl⟩
      rw [← ht] at hsu hle ⊢
      clear hb ht
      cases b
      · have HSU := Aside0.mk hsu
        have HQ := Aside0.mk hq
        clear hsu hq
        go_wp2_with (go_at_call 112; refine HQ.out.mono ?_; rintro e w1 ⟨rfl, hb1⟩; have HB1 := Aside0.mk (below_then (HB.out.alloc HB.out.size _) (by have := HB.out.size; simp; omega) hb1); have HK1 := Aside0.mk (blk_below (blk_alloc HK.out _) hb1); clear hb1)
        refine ⟨⟨k + 1, ⟨by omega⟩, by go_num, by rw [HSU.out]; rfl, HB1, HK1⟩, ?_⟩
        simp [intOf]; omega
      · have HSU := Aside0.mk hsu
        have HQ := Aside0.mk hq
        clear hsu hq
        go_wp2_with (go_at_call 112; refine HQ.out.mono ?_; rintro e w1 ⟨rfl, hb1⟩; have HB1 := Aside0.mk (below_then (HB.out.alloc HB.out.size _) (by have := HB.out.size; simp; omega) hb1); have HK1 := Aside0.mk (blk_below (blk_alloc HK.out _) hb1); clear hb1)
        refine ⟨⟨k + 1, ⟨by omega⟩, by go_num, by rw [HSU.out]; simp, HB1, HK1⟩, ?_⟩
        simp [intOf]; omega
    · have hke : k = m := by have := hk.out; omega
      subst hke
      obtain ⟨t, ht⟩ : ∃ t, t = sumB rows ch k := ⟨_, rfl⟩
      rw [← ht]
      have HT := Aside0.mk ht
      clear ht
      go_wp2
      go_ret
      refine ⟨?_, HB.out⟩
      exact ret_bool (by rw [← HT.out, Bool.eq_iff_iff]; simp; try omega)
end Go.Proofs.Ytimkchehdaadeaa.P
