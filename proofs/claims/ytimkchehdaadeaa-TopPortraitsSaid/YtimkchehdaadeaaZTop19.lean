/- Part 19 of a proof: the statement TopPortraits: for every input its law returns true (its texts without what nothing here names). -/
import Derived.Test.YtimkchehdaadeaaZTop9

namespace Go.Proofs.Ytimkchehdaadeaa.P
open Go.RowKit Go.Proofs.YtimkchehdaadeaaW.PrintWords Go.Proofs.YtimkchehdaadeaaW.PrintLast Go.Proofs.YtimkchehdaadeaaW.PrintMore
attribute [local go_sem] max2_int min2_int max_two min_two max_three min_three max_four min_four
set_option linter.unusedVariables false
set_option linter.unusedSimpArgs false
def codes_answer.f (l0 l1 : List Int) : Option (Int × Int) :=
  if l0.length = l1.length ∧ dig l0 ∧ dig l1 then some ((rightTo l0 l1 l0.length : Nat), ((commonTo l0 l1 10 : Nat) : Int) - (rightTo l0 l1 l0.length : Nat)) else none
set_option maxHeartbeats 4000000 in
set_option maxRecDepth 100000 in
theorem codes_answer.calls (A0 : Option Addr) (c0 : Nat) (l0 : List Int) (A1 : Option Addr) (c1 : Nat) (l1 : List Int) (r1 : Int) (r2 : Int) (w : World) (hr0 : Kd.C (Kd.int .i64) w A0 l0.length l0) (hc0 : l0.length ≤ c0) (hr1 : Kd.C (Kd.int .i64) w A1 l1.length l1) (hc1 : l1.length ≤ c1) (h : codes_answer.f l0 l1 = some (r1, r2)) :
    Calls Try.prog 60 #[.slice A0 l0.length c0, .slice A1 l1.length c1] w fun e w' => e = .returned (.tuple #[.int .i64 r1, .int .i64 r2]) ∧ Below w.heap.size w w' := by
  unfold codes_answer.f at h
  split at h
  case isFalse => cases h
  case isTrue hk =>
  obtain ⟨hle, hd0, hd1⟩ := hk
  simp only [Option.some.injEq, Prod.mk.injEq] at h
  have hmx := Kd.C_max hr0
  have HR0 := Aside0.mk hr0
  have HR1 := Aside0.mk hr1
  have HE := Aside0.mk h
  have HL := Aside0.mk hle
  have HD0 := Aside0.mk hd0
  have HD1 := Aside0.mk hd1
  clear hr0 hr1 h hle hd0 hd1
  go_enter Try.func60, Try.ntmps60
  go_wp2
  go_loopw [4, 13] (fun v4 v13 wr => ∃ i : Nat, Aside0 (i ≤ l0.length) ∧ v13 = .int .i64 i ∧ v4 = .int .i64 (rightTo l0 l1 i : Nat) ∧ Aside0 (wr.heap[w.heap.size]? = some (.cells (tens (l0.take i)) 116 (0, 0))) ∧ Aside0 (wr.heap[w.heap.size + 1]? = some (.cells (tens (l1.take i)) 116 (0, 0))) ∧ Aside0 (Below w.heap.size w wr))
    (fun _ v13 _ => l0.length - (intOf v13).toNat)
  case atStart =>
    refine ⟨0, ⟨Nat.zero_le _⟩, rfl, by rw [rightTo_zero]; rfl, ⟨?_⟩, ⟨?_⟩, ⟨((Below.refl _ w).alloc (Nat.le_refl _) _).alloc (by simp) _⟩⟩
    · rw [List.take_zero, tens_nil]; exact blk_alloc (blk_new w _) _
    · rw [List.take_zero, tens_nil]; have := blk_new (w.alloc (.cells #[.int .i64 0, .int .i64 0, .int .i64 0, .int .i64 0, .int .i64 0, .int .i64 0, .int .i64 0, .int .i64 0, .int .i64 0, .int .i64 0] 116)) (.cells #[.int .i64 0, .int .i64 0, .int .i64 0, .int .i64 0, .int .i64 0, .int .i64 0, .int .i64 0, .int .i64 0, .int .i64 0, .int .i64 0] 116); rwa [World.size_alloc] at this
  case round =>
    obtain ⟨i, hi, rfl, rfl, HB0, HB1, HB⟩ := hrel
    by_cases hlt : i < l0.length
    · obtain ⟨x, hx⟩ : ∃ x, x = rd l0 i := ⟨_, rfl⟩
      obtain ⟨y, hy⟩ : ∃ y, y = rd l1 i := ⟨_, rfl⟩
      have hlt1 : i < l1.length := by have := HL.out; omega
      obtain ⟨hx0, hx1⟩ := dig_rd l0 HD0.out i (by omega) (by omega)
      obtain ⟨hy0, hy1⟩ := dig_rd l1 HD1.out i (by omega) (by omega)
      rw [← hx] at hx0 hx1
      rw [← hy] at hy0 hy1
      obtain ⟨ad0, e0, hcx⟩ := Kd.at_int HR0.out (i : Int) (by omega) (by omega)
      obtain ⟨ad1, e1, hcy⟩ := Kd.at_int HR1.out (i : Int) (by omega) (by omega)
      rw [Int.toNat_natCast, ← hx] at hcx
      rw [Int.toNat_natCast, ← hy] at hcy
      replace hcx := (HB.out.cell (World.block_lt_of_cell? w _ hcx)).trans hcx
      replace hcy := (HB.out.cell (World.block_lt_of_cell? w _ hcy)).trans hcy
      obtain ⟨p, hp⟩ : ∃ p, p = (l0.take i).count x := ⟨_, rfl⟩
      obtain ⟨q, hq⟩ : ∃ q, q = (l1.take i).count y := ⟨_, rfl⟩
      have hpl := count_take_le l0 i x
      have hql := count_take_le l1 i y
      rw [← hp] at hpl
      rw [← hq] at hql
      have hpc := (blk_cell HB0.out x.toNat).trans (tens_get (l0.take i) x hx0 hx1)
      have hqc := (blk_cell HB1.out y.toNat).trans (tens_get (l1.take i) y hy0 hy1)
      have hpf := blk_frozen HB0.out x.toNat
      have hqf := blk_frozen HB1.out y.toNat
      rw [← hp] at hpc
      rw [← hq] at hqc
      have hrl := rightTo_le l0 l1 i
      have HP := Aside0.mk hp
      have HQ := Aside0.mk hq
      have HX := Aside0.mk hx
      have HY := Aside0.mk hy
      clear hp hq hx hy
      subst e0
      subst e1
      have HRS := Aside0.mk (rightTo_succ l0 l1 i hlt hlt1)
      obtain ⟨rr, hrr⟩ : ∃ rr, rr = rightTo l0 l1 i := ⟨_, rfl⟩
      rw [← hrr] at hrl ⊢
      have HRR := Aside0.mk hrr
      clear hrr
      have hbl1 : (ad1.add i).block < w.heap.size := by
        have := Kd.at_int HR1.out (i : Int) (by omega) (by omega)
        obtain ⟨ad2, e2, hc2⟩ := this
        cases e2
        exact World.block_lt_of_cell? w _ hc2
      have hcy2 : (wr.setCell ⟨w.heap.size, x.toNat, none⟩ (.int .i64 (↑p + 1))).cell? (ad1.add i) = some (.int .i64 y) :=
        (World.cell?_of_block (Below.heap_setCell wr ⟨w.heap.size, x.toNat, none⟩ _ _ (by show (ad1.add i).block ≠ w.heap.size; omega))).trans hcy
      have HBL := Aside0.mk hbl1
      clear hbl1
      by_cases hxy : x = y
      · have hb : (x == y) = true := beq_iff_eq.mpr hxy
        have HXY := Aside0.mk hxy
        clear hxy
        go_wp2
        go_roundw
        case rel =>
          refine ⟨i + 1, ⟨by omega⟩, by go_num, ?_, ⟨?_⟩, ⟨?_⟩, ⟨(HB.out.setCell (p := ⟨w.heap.size, x.toNat, none⟩) (Nat.le_refl _) _).setCell (p := ⟨w.heap.size + 1, y.toNat, none⟩) (by show w.heap.size ≤ w.heap.size + 1; omega) _⟩⟩
          · rw [HRS.out, ← HX.out, ← HY.out, if_pos HXY.out, ← HRR.out]; go_num
          · refine blk_far (p := ⟨w.heap.size + 1, y.toNat, none⟩) (blk_put HB0.out _ _ ?_) (by show w.heap.size ≠ w.heap.size + 1; omega) _
            rw [HP.out]; exact tens_put l0 i hlt x HX.out hx0 hx1
          · refine blk_put (blk_far (p := ⟨w.heap.size, x.toNat, none⟩) HB1.out (by show w.heap.size + 1 ≠ w.heap.size; omega) _) _ _ ?_
            rw [HQ.out]; exact tens_put l1 i hlt1 y HY.out hy0 hy1
        case measure => simp [intOf]; omega
      · have hb : (x == y) = false := beq_eq_false_iff_ne.mpr hxy
        have HXY := Aside0.mk hxy
        clear hxy
        go_wp2
        go_roundw
        case rel =>
          refine ⟨i + 1, ⟨by omega⟩, by go_num, ?_, ⟨?_⟩, ⟨?_⟩, ⟨(HB.out.setCell (p := ⟨w.heap.size, x.toNat, none⟩) (Nat.le_refl _) _).setCell (p := ⟨w.heap.size + 1, y.toNat, none⟩) (by show w.heap.size ≤ w.heap.size + 1; omega) _⟩⟩
          · rw [HRS.out, ← HX.out, ← HY.out, if_neg HXY.out, ← HRR.out]; go_num
          · refine blk_far (p := ⟨w.heap.size + 1, y.toNat, none⟩) (blk_put HB0.out _ _ ?_) (by show w.heap.size ≠ w.heap.size + 1; omega) _
            rw [HP.out]; exact tens_put l0 i hlt x HX.out hx0 hx1
          · refine blk_put (blk_far (p := ⟨w.heap.size, x.toNat, none⟩) HB1.out (by show w.heap.size + 1 ≠ w.heap.size; omega) _) _ _ ?_
            rw [HQ.out]; exact tens_put l1 i hlt1 y HY.out hy0 hy1
        case measure => simp [intOf]; omega
    · have hi' : i = l0.length := by have := hi.out; omega
      subst hi'
      go_wp2
      go_loopw [5, 40] (fun v5 v40 wr2 => ∃ j : Nat, Aside0 (j ≤ 10) ∧ v40 = .int .i64 j ∧ v5 = .int .i64 (commonTo l0 l1 j : Nat) ∧ Aside0 (wr2.heap[w.heap.size]? = some (.cells (tens l0) 116 (0, 0))) ∧ Aside0 (wr2.heap[w.heap.size + 1]? = some (.cells (tens l1) 116 (0, 0))) ∧ Aside0 (Below w.heap.size w wr2))
        (fun _ v40 _ => 10 - (intOf v40).toNat)
      case atStart =>
        have hb0 := HB0.out
        have hb1 := HB1.out
        have hl := HL.out
        rw [List.take_length] at hb0
        rw [hl, List.take_length] at hb1
        exact ⟨0, ⟨Nat.zero_le _⟩, rfl, rfl, ⟨hb0⟩, ⟨hb1⟩, HB⟩
      case round =>
        clear HB0 HB1 HB
        obtain ⟨j, hj, rfl, rfl, HB0, HB1, HB⟩ := hrel
        by_cases hlt : j < 10
        · have hpc := (blk_cell HB0.out j).trans (tens_get l0 j (by omega) (by omega))
          have hqc := (blk_cell HB1.out j).trans (tens_get l1 j (by omega) (by omega))
          have hcl := commonTo_le l0 l1 j
          have hm0 : l0.count (j : Int) ≤ l0.length := List.count_le_length
          have HC : Aside0 (commonTo l0 l1 (j + 1) = commonTo l0 l1 j + min (l0.count (j : Int)) (l1.count (j : Int))) := ⟨rfl⟩
          obtain ⟨cc, hcc⟩ : ∃ cc, cc = commonTo l0 l1 j := ⟨_, rfl⟩
          obtain ⟨n0, hn0⟩ : ∃ n0, n0 = l0.count (j : Int) := ⟨_, rfl⟩
          obtain ⟨n1, hn1⟩ : ∃ n1, n1 = l1.count (j : Int) := ⟨_, rfl⟩
          rw [← hcc, ← hn0, ← hn1] at HC
          rw [← hcc] at hcl ⊢
          rw [← hn0] at hpc hm0
          rw [← hn1] at hqc
          clear hcc hn0 hn1
          go_wp2
          go_quiet (fail)
          go_wp2
          go_roundw
          case rel =>
            refine ⟨j + 1, ⟨by omega⟩, by go_num, ?_, ⟨HB0.out⟩, ⟨HB1.out⟩, ⟨pw_below_drewN HB.out _⟩⟩
            rw [HC.out]
            have e : wrap64 ((cc : Int) + if n1 < n0 then (n1 : Int) else (n0 : Int)) = ((cc + min n0 n1 : Nat) : Int) := by
              have hcn := commonTo_le l0 l1 (j + 1)
              rw [HC.out] at hcn
              unfold wrap64
              split <;> omega
            rw [e]
          case measure => simp [intOf]; omega
        · have hj' : j = 10 := by have := hj.out; omega
          subst hj'
          have hcl := commonTo_le l0 l1 10
          have hrl := rightTo_le l0 l1 l0.length
          have hlt1 : ¬ l0.length < l0.length := by omega
          go_wp2
          go_ret2
          obtain ⟨e1, e2⟩ := HE.out
          subst e1
          subst e2
          refine ⟨?_, HB.out⟩
          first | rfl | (congr 3; unfold wrap64; omega)
end Go.Proofs.Ytimkchehdaadeaa.P
