/- Part 23 of a proof: the statement TopPortraits: for every input its law returns true (its texts without what nothing here names). -/
import Derived.Test.YtimkchehdaadeaaZTop7
import Derived.Test.YtimkchehdaadeaaZTop17
import Derived.Test.YtimkchehdaadeaaZTop19

section
namespace Go.Proofs.Ytimkchehdaadeaa.P
open Go.RowKit Go.Proofs.YtimkchehdaadeaaW.PrintWords Go.Proofs.YtimkchehdaadeaaW.PrintLast Go.Proofs.YtimkchehdaadeaaW.PrintMore
set_option linter.unusedVariables false
set_option linter.unusedSimpArgs false
def codes_plain.f (k A B N M : Int) (G : List Int) (nt : Bool) (l : List Int) : Option Bool := if okPlain k A B N M G l then some (plainB k A B N M G l) else none
theorem code_cell {w : World} {A1 : Option Addr} {l : List Int} (hr : Kd.C (Kd.int .i64) w A1 l.length l) (i : Int) (h : inLen l i) (o : Obj) :
    ∃ ad, A1 = some ad ∧ (w.alloc o).cell? (ad.add i.toNat) = some (.int .i64 (rd l i)) := Kd.at_int (Kd.C_alloc hr o) i h.1 h.2
section
variable (A B N M : Int) (A5 : Option Addr) (c5 : Nat) (G : List Int) (nt : Bool) (A1 : Option Addr) (c1 : Nat) (l : List Int) (w : World)
set_option maxHeartbeats 4000000 in
set_option maxRecDepth 100000 in
theorem plain_k1 (hr : Kd.C (Kd.int .i64) w A1 l.length l) (h : inLen l A) :
    Calls Try.prog 99 #[.agg #[.int .i64 1, .int .i64 A, .int .i64 B, .int .i64 N, .int .i64 M, .slice A5 G.length c5, .bool nt], .slice A1 l.length c1] w fun e w' => e = .returned (.bool (rd l A == N)) ∧ Below w.heap.size w w' := by
  have hu36 := Try.underlying36
  obtain ⟨ad, e0, hc⟩ := code_cell hr A h (.cells #[.int .i64 1, .int .i64 A, .int .i64 B, .int .i64 N, .int .i64 M, .slice A5 G.length c5, .bool nt] 36)
  obtain ⟨h0, h1⟩ := h
  obtain ⟨x, hx⟩ : ∃ x, x = rd l A := ⟨_, rfl⟩
  rw [← hx] at hc ⊢
  subst e0
  clear hx hr
  go_enter Try.func99, Try.ntmps99
  go_wp2
  go_quiet (fail)
  go_wp2
  go_ret
  exact ⟨rfl, pw_below_drewN ((Below.refl _ w).alloc (Nat.le_refl _) _) _⟩
set_option maxHeartbeats 4000000 in
set_option maxRecDepth 100000 in
theorem plain_k3 (hr : Kd.C (Kd.int .i64) w A1 l.length l) (h : inLen l A) (g : inLen l B) :
    Calls Try.prog 99 #[.agg #[.int .i64 3, .int .i64 A, .int .i64 B, .int .i64 N, .int .i64 M, .slice A5 G.length c5, .bool nt], .slice A1 l.length c1] w fun e w' => e = .returned (.bool (decide (rd l A < rd l B))) ∧ Below w.heap.size w w' := by
  have hu36 := Try.underlying36
  obtain ⟨ad, e0, hc⟩ := code_cell hr A h (.cells #[.int .i64 3, .int .i64 A, .int .i64 B, .int .i64 N, .int .i64 M, .slice A5 G.length c5, .bool nt] 36)
  obtain ⟨ad1, e1, hc1⟩ := code_cell hr B g (.cells #[.int .i64 3, .int .i64 A, .int .i64 B, .int .i64 N, .int .i64 M, .slice A5 G.length c5, .bool nt] 36)
  obtain ⟨h0, h1⟩ := h
  obtain ⟨g0, g1⟩ := g
  obtain ⟨x, hx⟩ : ∃ x, x = rd l A := ⟨_, rfl⟩
  obtain ⟨y, hy⟩ : ∃ y, y = rd l B := ⟨_, rfl⟩
  rw [← hx] at hc ⊢
  rw [← hy] at hc1 ⊢
  subst e0
  cases e1
  clear hx hy hr
  go_enter Try.func99, Try.ntmps99
  go_wp2
  go_quiet (fail)
  go_wp2
  go_ret
  exact ⟨rfl, pw_below_drewN ((Below.refl _ w).alloc (Nat.le_refl _) _) _⟩
set_option maxHeartbeats 4000000 in
set_option maxRecDepth 100000 in
theorem plain_k4 (hr : Kd.C (Kd.int .i64) w A1 l.length l) (h : inLen l A) (g : inLen l B) :
    Calls Try.prog 99 #[.agg #[.int .i64 4, .int .i64 A, .int .i64 B, .int .i64 N, .int .i64 M, .slice A5 G.length c5, .bool nt], .slice A1 l.length c1] w fun e w' => e = .returned (.bool (rd l A == rd l B)) ∧ Below w.heap.size w w' := by
  have hu36 := Try.underlying36
  obtain ⟨ad, e0, hc⟩ := code_cell hr A h (.cells #[.int .i64 4, .int .i64 A, .int .i64 B, .int .i64 N, .int .i64 M, .slice A5 G.length c5, .bool nt] 36)
  obtain ⟨ad1, e1, hc1⟩ := code_cell hr B g (.cells #[.int .i64 4, .int .i64 A, .int .i64 B, .int .i64 N, .int .i64 M, .slice A5 G.length c5, .bool nt] 36)
  obtain ⟨h0, h1⟩ := h
  obtain ⟨g0, g1⟩ := g
  obtain ⟨x, hx⟩ : ∃ x, x = rd l A := ⟨_, rfl⟩
  obtain ⟨y, hy⟩ : ∃ y, y = rd l B := ⟨_, rfl⟩
  rw [← hx] at hc ⊢
  rw [← hy] at hc1 ⊢
  subst e0
  cases e1
  clear hx hy hr
  go_enter Try.func99, Try.ntmps99
  go_wp2
  go_quiet (fail)
  go_wp2
  go_ret
  exact ⟨rfl, pw_below_drewN ((Below.refl _ w).alloc (Nat.le_refl _) _) _⟩
set_option maxHeartbeats 4000000 in
set_option maxRecDepth 100000 in
theorem plain_k7 (k : Int) (h1' : (k == 1) = false) (h2' : (k == 2) = false) (h3' : (k == 3) = false) (h4' : (k == 4) = false) (h5' : (k == 5) = false) (h6' : (k == 6) = false) (hr : Kd.C (Kd.int .i64) w A1 l.length l) (h : inLen l A) (hn : N ≠ 0) :
    Calls Try.prog 99 #[.agg #[.int .i64 k, .int .i64 A, .int .i64 B, .int .i64 N, .int .i64 M, .slice A5 G.length c5, .bool nt], .slice A1 l.length c1] w fun e w' => e = .returned (.bool (Int.tmod (rd l A) N == M)) ∧ Below w.heap.size w w' := by
  have hu36 := Try.underlying36
  obtain ⟨ad, e0, hc⟩ := code_cell hr A h (.cells #[.int .i64 k, .int .i64 A, .int .i64 B, .int .i64 N, .int .i64 M, .slice A5 G.length c5, .bool nt] 36)
  obtain ⟨h0, h1⟩ := h
  obtain ⟨x, hx⟩ : ∃ x, x = rd l A := ⟨_, rfl⟩
  rw [← hx] at hc ⊢
  subst e0
  clear hx hr
  have hn1 : (N == 0) = false := beq_eq_false_iff_ne.mpr hn
  go_enter Try.func99, Try.ntmps99
  go_wp2
  go_quiet (fail)
  go_wp2
  go_ret
  exact ⟨rfl, pw_below_drewN ((Below.refl _ w).alloc (Nat.le_refl _) _) _⟩
set_option maxHeartbeats 4000000 in
set_option maxRecDepth 100000 in
theorem plain_k6 (hr : Kd.C (Kd.int .i64) w A1 l.length l) (hc1 : l.length ≤ c1) (hr5 : Kd.C (Kd.int .i64) w A5 G.length G) (hc5 : G.length ≤ c5) (hlen : l.length = G.length) (hd : dig l) (hg : dig G) :
    Calls Try.prog 99 #[.agg #[.int .i64 6, .int .i64 A, .int .i64 B, .int .i64 N, .int .i64 M, .slice A5 G.length c5, .bool nt], .slice A1 l.length c1] w fun e w' => e = .returned (.bool (((rightTo l G l.length : Nat) : Int) == N && (((commonTo l G 10 : Nat) : Int) - (rightTo l G l.length : Nat) == M))) ∧ Below w.heap.size w w' := by
  have hu36 := Try.underlying36
  have hcall := codes_answer.calls A1 c1 l A5 c5 G _ _ (w.alloc (.cells #[.int .i64 6, .int .i64 A, .int .i64 B, .int .i64 N, .int .i64 M, .slice A5 G.length c5, .bool nt] 36)) (Kd.C_alloc hr _) hc1 (Kd.C_alloc hr5 _) hc5 (by unfold codes_answer.f; rw [if_pos ⟨hlen, hd, hg⟩])
  obtain ⟨x, hx⟩ : ∃ x, x = ((rightTo l G l.length : Nat) : Int) := ⟨_, rfl⟩
  obtain ⟨y, hy⟩ : ∃ y, y = ((commonTo l G 10 : Nat) : Int) - x := ⟨_, rfl⟩
  rw [← hx] at hcall ⊢
  rw [← hy] at hcall ⊢
  have HC := Aside0.mk hcall
  clear hcall hx hy hr hr5 hd hg hlen
  cases h1 : (x == N) with
  | true =>
    go_enter Try.func99, Try.ntmps99
    go_wp2_with (go_at_call 60; refine HC.out.mono ?_; rintro e w1 ⟨rfl, hb1⟩; obtain ⟨hB, k0⟩ := start1 (w := w) hb1 rfl rfl rfl rfl; have HB := Aside0.mk hB; clear hB; obtain ⟨f0, f1, f2, f3, f4, f5, f6⟩ := cells7 k0; clear k0 hb1)
    go_ret
    exact ⟨rfl, HB.out⟩
  | false =>
    go_enter Try.func99, Try.ntmps99
    go_wp2_with (go_at_call 60; refine HC.out.mono ?_; rintro e w1 ⟨rfl, hb1⟩; obtain ⟨hB, k0⟩ := start1 (w := w) hb1 rfl rfl rfl rfl; have HB := Aside0.mk hB; clear hB; obtain ⟨f0, f1, f2, f3, f4, f5, f6⟩ := cells7 k0; clear k0 hb1)
    go_ret
    exact ⟨rfl, HB.out⟩
set_option maxHeartbeats 4000000 in
set_option maxRecDepth 100000 in
theorem plain_k5 (hr : Kd.C (Kd.int .i64) w A1 l.length l) :
    Calls Try.prog 99 #[.agg #[.int .i64 5, .int .i64 A, .int .i64 B, .int .i64 N, .int .i64 M, .slice A5 G.length c5, .bool nt], .slice A1 l.length c1] w fun e w' => e = .returned (.bool (((l.count N : Nat) : Int) == M)) ∧ Below w.heap.size w w' := by
  have hu36 := Try.underlying36
  have hmx := Kd.C_max hr
  have HR := Aside0.mk hr
  have HB : Aside0 (Below w.heap.size w (w.alloc (.cells #[.int .i64 5, .int .i64 A, .int .i64 B, .int .i64 N, .int .i64 M, .slice A5 G.length c5, .bool nt] 36))) := ⟨(Below.refl _ w).alloc (Nat.le_refl _) _⟩
  clear hr
  go_enter Try.func99, Try.ntmps99
  go_wp2
  go_loopw [8, 77] (fun v8 v77 wr => ∃ i : Nat, Aside0 (i ≤ l.length) ∧ v77 = .int .i64 i ∧ v8 = .int .i64 ((l.take i).count N : Nat) ∧ wr = w.alloc (.cells #[.int .i64 5, .int .i64 A, .int .i64 B, .int .i64 N, .int .i64 M, .slice A5 G.length c5, .bool nt] 36)) (fun _ v77 _ => l.length - (intOf v77).toNat)
  case atStart => exact ⟨0, ⟨Nat.zero_le _⟩, rfl, by simp, rfl⟩
  case round =>
    obtain ⟨i, hi, rfl, rfl, rfl⟩ := hrel
    by_cases hlt : i < l.length
    · obtain ⟨ad, e0, hcx⟩ := Kd.at_int (Kd.C_below HR.out HB.out) (i : Int) (by omega) (by omega)
      rw [Int.toNat_natCast] at hcx
      obtain ⟨x, hx⟩ : ∃ x, x = rd l i := ⟨_, rfl⟩
      have hcl := count_take_le l i N
      have hcs := count_take_succ l i hlt N
      rw [← hx] at hcx hcs
      obtain ⟨c, hc⟩ : ∃ c, c = (l.take i).count N := ⟨_, rfl⟩
      rw [← hc] at hcs hcl ⊢
      have HCS := Aside0.mk hcs
      subst e0
      clear hcs hc hx
      by_cases hxn : x = N
      · have hb : (x == N) = true := beq_iff_eq.mpr hxn
        have HX := Aside0.mk hxn
        clear hxn
        go_wp2
        go_roundw
        case rel => exact ⟨i + 1, ⟨by omega⟩, by go_num, by rw [HCS.out, if_pos HX.out]; go_num, trivial⟩
        case measure => simp [intOf]; omega
      · have hb : (x == N) = false := beq_eq_false_iff_ne.mpr hxn
        have HX := Aside0.mk hxn
        clear hxn
        go_wp2
        go_roundw
        case rel => exact ⟨i + 1, ⟨by omega⟩, by go_num, by rw [HCS.out, if_neg HX.out]; go_num, trivial⟩
        case measure => simp [intOf]; omega
    · have hi' : i = l.length := by have := hi.out; omega
      subst hi'
      rw [List.take_length]
      obtain ⟨c, hc⟩ : ∃ c, c = l.count N := ⟨_, rfl⟩
      rw [← hc]
      have HC := Aside0.mk hc
      clear hc
      go_wp2
      go_ret
      exact ⟨ret_bool (by rw [HC.out]), HB.out⟩
set_option maxHeartbeats 4000000 in
set_option maxRecDepth 100000 in
theorem plain_k2 (hr : Kd.C (Kd.int .i64) w A1 l.length l) (hc1 : l.length ≤ c1) (h0 : 0 ≤ A) (h1 : A ≤ B) (h2 : B < l.length) (hd : dig l) (hsm : l.length ≤ 1000) :
    Calls Try.prog 99 #[.agg #[.int .i64 2, .int .i64 A, .int .i64 B, .int .i64 N, .int .i64 M, .slice A5 G.length c5, .bool nt], .slice A1 l.length c1] w fun e w' => e = .returned (.bool ((span_ l A B).sum == N)) ∧ Below w.heap.size w w' := by
  have hu36 := Try.underlying36
  have hmx := Kd.C_max hr
  obtain ⟨i0, hi, hz0, hz1, hz2⟩ := info_parts info3
  obtain ⟨A', hsl, hrd, hle⟩ := print_mid_int (P := Try.prog) (k := .i64) 24 3 Try.underlying24 hi hz1 A1 c1 l A (B + 1) h0 (by omega) (by omega) hc1
  have hr2 : ReadsInt w .i64 A' ((l.take (B + 1).toNat).drop A.toNat).length ((l.take (B + 1).toNat).drop A.toNat) := hrd w (Kd.reads_of_C (d := (0 : Int)) hr)
  have hdg : dig (span_ l A B) := dig_drop _ (dig_take _ hd _) _
  have hlen : (span_ l A B).length = (B + 1 - A).toNat := by simp [span_]; omega
  change ReadsInt w .i64 A' (span_ l A B).length (span_ l A B) at hr2
  have hsl2 : ∀ W : World, (Instr.slice 24 (.slice A1 l.length c1) (some (.int .i64 A)) (some (.int .i64 (B + 1))) none).run Try.prog W = .ok (.slice A' (span_ l A B).length (c1 - A.toNat)) W := hsl
  obtain ⟨xs, hxs⟩ : ∃ xs, xs = span_ l A B := ⟨_, rfl⟩
  rw [← hxs] at hr2 hdg hlen hsl2 ⊢
  have hxl : xs.length ≤ l.length := by omega
  have HR := Aside0.mk (Kd.C_of_reads (d := (0 : Int)) (h1 := fun _ => rfl) hr2)
  have HD := Aside0.mk hdg
  have hwr : wrap64 (B + 1) = B + 1 := wrap_small (by omega) (by omega)
  have HB : Aside0 (Below w.heap.size w (w.alloc (.cells #[.int .i64 2, .int .i64 A, .int .i64 B, .int .i64 N, .int .i64 M, .slice A5 G.length c5, .bool nt] 36))) := ⟨(Below.refl _ w).alloc (Nat.le_refl _) _⟩
  have hB1 : B ≤ 9223372036854775806 := by omega
  clear hr hr2 hdg hlen hsl hrd hle hd hxs hi hz0 hz1 hz2 hwr
  go_enter Try.func99, Try.ntmps99
  go_wp2
  go_loopw [5, 35] (fun v5 v35 wr => ∃ i : Nat, Aside0 (i ≤ xs.length) ∧ v35 = .int .i64 i ∧ v5 = .int .i64 (xs.take i).sum ∧ wr = w.alloc (.cells #[.int .i64 2, .int .i64 A, .int .i64 B, .int .i64 N, .int .i64 M, .slice A5 G.length c5, .bool nt] 36)) (fun _ v35 _ => xs.length - (intOf v35).toNat)
  case atStart => exact ⟨0, ⟨Nat.zero_le _⟩, rfl, by simp, rfl⟩
  case round =>
    obtain ⟨i, hi, rfl, rfl, rfl⟩ := hrel
    by_cases hlt : i < xs.length
    · obtain ⟨ad, e0, hcx⟩ := Kd.at_int (Kd.C_below HR.out HB.out) (i : Int) (by omega) (by omega)
      rw [Int.toNat_natCast] at hcx
      have hx : rd xs i = xs[i] := by simp [rd, List.getD_eq_getElem?_getD, List.getElem?_eq_getElem hlt]
      have hs := sum_take_succ xs i hlt
      obtain ⟨s0, s1⟩ := sum_bound _ (dig_take xs HD.out i)
      obtain ⟨t0, t1⟩ := sum_bound _ (dig_take xs HD.out (i + 1))
      rw [List.length_take] at s1 t1
      rw [← hx] at hs
      obtain ⟨x, hxx⟩ : ∃ x, x = rd xs i := ⟨_, rfl⟩
      rw [← hxx] at hs hcx
      rw [hs] at t0 t1
      obtain ⟨s, hss⟩ : ∃ s, s = (xs.take i).sum := ⟨_, rfl⟩
      rw [← hss] at hs s0 s1 t0 t1 ⊢
      have HS := Aside0.mk hs
      have hm1 : min i xs.length ≤ 1000 := by omega
      have hm2 : min (i + 1) xs.length ≤ 1000 := by omega
      have u0 : -9223372036854775808 ≤ s + x := by omega
      have u1 : s + x ≤ 9223372036854775807 := by omega
      clear t0 t1 s0 s1 hm1 hm2
      subst e0
      clear hs hss hxx hx
      go_wp2
      go_roundw
      case rel => exact ⟨i + 1, ⟨by omega⟩, by go_num, by rw [HS.out], trivial⟩
      case measure => simp [intOf]; omega
    · have hi' : i = xs.length := by have := hi.out; omega
      subst hi'
      rw [List.take_length]
      obtain ⟨c, hc⟩ : ∃ c, c = xs.sum := ⟨_, rfl⟩
      rw [← hc]
      have HC := Aside0.mk hc
      clear hc
      go_wp2
      go_ret
      exact ⟨ret_bool (by rw [HC.out]), HB.out⟩
end
theorem codes_plain.calls (a0_0 : Int) (a0_1 : Int) (a0_2 : Int) (a0_3 : Int) (a0_4 : Int) (A0_5 : Option Addr) (c0_5 : Nat) (l0_5 : List Int) (a0_6 : Bool) (A1 : Option Addr) (c1 : Nat) (l1 : List Int) (r : Bool) (w : World) (hr0_5 : Kd.C (Kd.int .i64) w A0_5 l0_5.length l0_5) (hc0_5 : l0_5.length ≤ c0_5) (hr1 : Kd.C (Kd.int .i64) w A1 l1.length l1) (hc1 : l1.length ≤ c1) (h : codes_plain.f a0_0 a0_1 a0_2 a0_3 a0_4 l0_5 a0_6 l1 = some r) :
    Calls Try.prog 99 #[.agg #[.int .i64 a0_0, .int .i64 a0_1, .int .i64 a0_2, .int .i64 a0_3, .int .i64 a0_4, .slice A0_5 l0_5.length c0_5, .bool a0_6], .slice A1 l1.length c1] w fun e w' => e = .returned (.bool r) ∧ Below w.heap.size w w' := by
  unfold codes_plain.f at h
  split at h
  case isFalse => cases h
  case isTrue hk =>
  obtain rfl := Option.some.inj h
  clear h
  unfold okPlain at hk
  unfold plainB
  by_cases h1 : a0_0 = 1
  · subst h1; exact plain_k1 _ _ _ _ _ _ _ _ _ _ _ _ hr1 (by simpa using hk)
  rw [if_neg h1] at hk ⊢
  by_cases h2 : a0_0 = 2
  · subst h2
    rw [if_pos rfl] at hk ⊢
    obtain ⟨p1, p2, p3, p4, p5⟩ := hk
    exact plain_k2 _ _ _ _ _ _ _ _ _ _ _ _ hr1 hc1 p1 p2 p3 p4 p5
  rw [if_neg h2] at hk ⊢
  by_cases h3 : a0_0 = 3
  · subst h3
    rw [if_pos rfl] at hk ⊢
    exact plain_k3 _ _ _ _ _ _ _ _ _ _ _ _ hr1 hk.1 hk.2
  rw [if_neg h3] at hk ⊢
  by_cases h4 : a0_0 = 4
  · subst h4
    rw [if_pos rfl] at hk ⊢
    exact plain_k4 _ _ _ _ _ _ _ _ _ _ _ _ hr1 hk.1 hk.2
  rw [if_neg h4] at hk ⊢
  by_cases h5 : a0_0 = 5
  · subst h5
    rw [if_pos rfl]
    exact plain_k5 _ _ _ _ _ _ _ _ _ _ _ _ hr1
  rw [if_neg h5] at hk ⊢
  by_cases h6 : a0_0 = 6
  · subst h6
    rw [if_pos rfl] at hk ⊢
    exact plain_k6 _ _ _ _ _ _ _ _ _ _ _ _ hr1 hc1 hr0_5 hc0_5 hk.1 hk.2.1 hk.2.2
  rw [if_neg h6] at hk ⊢
  by_cases h7 : a0_0 = 7
  · rw [if_pos h7] at hk
    exact plain_k7 _ _ _ _ _ _ _ _ _ _ _ _ _ (beq_eq_false_iff_ne.mpr h1) (beq_eq_false_iff_ne.mpr h2) (beq_eq_false_iff_ne.mpr h3) (beq_eq_false_iff_ne.mpr h4) (beq_eq_false_iff_ne.mpr h5) (beq_eq_false_iff_ne.mpr h6) hr1 hk.1 hk.2
  · rw [if_neg h7] at hk
    exact hk.elim
end Go.Proofs.Ytimkchehdaadeaa.P
end
section
namespace Go.Proofs.Ytimkchehdaadeaa.P
open Go.RowKit Go.Proofs.YtimkchehdaadeaaW.PrintWords Go.Proofs.YtimkchehdaadeaaW.PrintLast Go.Proofs.YtimkchehdaadeaaW.PrintMore
attribute [local go_sem] max2_int min2_int max_two min_two max_three min_three max_four min_four
set_option linter.unusedVariables false
set_option linter.unusedSimpArgs false
def codes_holds.f (a0_0 : Int) (a0_1 : Int) (a0_2 : Int) (a0_3 : Int) (a0_4 : Int) (l0_5 : List Int) (a0_6 : Bool) (l1 : List Int) : Option (Bool) := (codes_plain.f a0_0 a0_1 a0_2 a0_3 a0_4 l0_5 a0_6 l1).bind fun t70102 => (some (t70102 != a0_6))
set_option maxHeartbeats 8000000 in
set_option maxRecDepth 100000 in
theorem codes_holds.calls (a0_0 : Int) (a0_1 : Int) (a0_2 : Int) (a0_3 : Int) (a0_4 : Int) (A0_5 : Option Addr) (c0_5 : Nat) (l0_5 : List Int) (a0_6 : Bool) (A1 : Option Addr) (c1 : Nat) (l1 : List Int) (r : Bool) (w : World) (hr0_5 : Kd.C (Kd.int .i64) w A0_5 l0_5.length l0_5) (hc0_5 : l0_5.length ≤ c0_5) (hr1 : Kd.C (Kd.int .i64) w A1 l1.length l1) (hc1 : l1.length ≤ c1) (h : codes_holds.f a0_0 a0_1 a0_2 a0_3 a0_4 l0_5 a0_6 l1 = some r) :
    Calls Try.prog 70 #[.agg #[.int .i64 a0_0, .int .i64 a0_1, .int .i64 a0_2, .int .i64 a0_3, .int .i64 a0_4, .slice A0_5 l0_5.length c0_5, .bool a0_6], .slice A1 l1.length c1] w fun e w' => e = .returned (.bool r) ∧ Below w.heap.size w w' := by
  have hu36 := Try.underlying36
  have HR0_5 := Aside0.mk hr0_5
  have HC0_5 := Aside0.mk hc0_5
  clear hr0_5 hc0_5
  have HR1 := Aside0.mk hr1
  have HC1 := Aside0.mk hc1
  clear hr1 hc1
  have HB := Aside0.mk (Below.refl w.heap.size w)
  have H : ((codes_plain.f a0_0 a0_1 a0_2 a0_3 a0_4 l0_5 a0_6 l1).bind fun t70102 => (some (t70102 != a0_6))) = some r := h
  clear h
  replace H := Option.bind_eq_some_iff.mp H
  obtain ⟨t70102, A30, H⟩ := H
  replace H : (some (t70102 != a0_6)) = some r := H
  have A3 := Aside0.mk A30
  clear A30
  obtain rfl := Option.some.inj H
  go_enter Try.func70, Try.ntmps70
  try go_wp2_with (first | ((with_reducible refine gate_dst (N := 2) rfl ?_); refine box_event ?hg (N := 2) ?hd (cs := #[.int .i64 a0_0, .int .i64 a0_1, .int .i64 a0_2, .int .i64 a0_3, .int .i64 a0_4, .slice A0_5 l0_5.length c0_5, .bool a0_6]) (t := 36) ?hr ?_; (case hd => rfl); (case hg => rfl); (case hr => first | (go_simp; done) | (go_simp; rfl)); intro gb70101 hg w4 hbox hb; have n0_ := Aside0.mk (below_step (by repeat (first | (with_reducible first | exact HB.out | apply below_alloc | apply pw_below_drewN | apply below_drew1) | exact HB.out)) hb); have n1_ := Aside0.mk (hbox); have n2_ := Aside0.mk ((by rw [hg]; exact (below_size (by repeat (first | (with_reducible first | exact HB.out | apply below_alloc | apply pw_below_drewN | apply below_drew1) | exact HB.out))) : w.heap.size ≤ gb70101)); have n3_ := Aside0.mk ((by rw [hg]; exact (below_size (by repeat (first | (with_reducible first | exact HB.out | apply below_alloc | apply pw_below_drewN | apply below_drew1) | exact HB.out))) : w.heap.size ≤ gb70101)); clear HB; have HB := n0_; have BK70101 := n1_; have GW70101 := n2_; have GE70101 := n3_; clear n0_ n1_ n2_ n3_; clear hb hbox hg))
  have n0_ := Aside0.mk (blk_drew BK70101.out)
  have n1_ := Aside0.mk (below_drew1 HB.out)
  clear BK70101
  clear HB
  have BK70101 := n0_
  have HB := n1_
  clear n0_ n1_
  refine start_ (n := 7) (S := fun w' => w'.cell? ⟨gb70101, 0, none⟩ = some (.int .i64 a0_0) ∧ w'.cell? ⟨gb70101, 1, none⟩ = some (.int .i64 a0_1) ∧ w'.cell? ⟨gb70101, 2, none⟩ = some (.int .i64 a0_2) ∧ w'.cell? ⟨gb70101, 3, none⟩ = some (.int .i64 a0_3) ∧ w'.cell? ⟨gb70101, 4, none⟩ = some (.int .i64 a0_4) ∧ w'.cell? ⟨gb70101, 5, none⟩ = some (.slice A0_5 l0_5.length c0_5) ∧ w'.cell? ⟨gb70101, 6, none⟩ = some (.bool a0_6)) (ds := []) #[false, false, false, false, false, false, false] (by kernel_rfl) rfl rfl ⟨(blk_cell BK70101.out 0).trans rfl, (blk_cell BK70101.out 1).trans rfl, (blk_cell BK70101.out 2).trans rfl, (blk_cell BK70101.out 3).trans rfl, (blk_cell BK70101.out 4).trans rfl, (blk_cell BK70101.out 5).trans rfl, (blk_cell BK70101.out 6).trans rfl⟩ (fun hHeld => ?_)
  generalize w4.drew = w5 at BK70101 HB hHeld ⊢
  refine pure_ (i := 1) (N := some 6) (v := ?_) (a' := ?_) #[false, true, false, false, false, false, false] rfl rfl (by kernel_rfl) (fun _ _ _ h => h) (Or.inl ⟨by rfl, ?_⟩) ?_ ?_
  rotate_left
  · intro w'
    go_simp
    with_reducible rfl
  rotate_left
  · simp only [Act.put, List.setIfInBounds_toArray, List.set_cons_zero, List.set_cons_succ, i64_w, i32_w]
    rfl
  refine pure_ (i := 3) (N := some 8) (v := ?_) (a' := ?_) #[false, true, false, true, false, false, false] rfl rfl (by kernel_rfl) (fun _ _ _ h => h) (Or.inl ⟨by rfl, ?_⟩) ?_ ?_
  rotate_left
  · intro w'
    go_simp
    with_reducible rfl
  rotate_left
  · simp only [Act.put, List.setIfInBounds_toArray, List.set_cons_zero, List.set_cons_succ, i64_w, i32_w]
    rfl
  refine take_ (i := 0) (N := some 5) (v := ?_) (a' := ?_) #[true, true, false, true, false, false, false] rfl rfl (by kernel_rfl) (fun _ _ _ h => h) (Or.inl ⟨by rfl, ?_⟩) hHeld ?_ ?_
  rotate_left
  · rintro w' ⟨s0, s1, s2, s3, s4, s5, s6⟩
    go_simp
    with_reducible rfl
  rotate_left
  · simp only [Act.put, List.setIfInBounds_toArray, List.set_cons_zero, List.set_cons_succ, i64_w, i32_w]
    rfl
  refine take_ (i := 4) (N := some 9) (v := ?_) (a' := ?_) #[true, true, false, true, true, false, false] rfl rfl (by kernel_rfl) (fun _ _ _ h => h) (Or.inl ⟨by rfl, ?_⟩) hHeld ?_ ?_
  rotate_left
  · rintro w' ⟨s0, s1, s2, s3, s4, s5, s6⟩
    go_simp
    with_reducible rfl
  rotate_left
  · simp only [Act.put, List.setIfInBounds_toArray, List.set_cons_zero, List.set_cons_succ, i64_w, i32_w]
    rfl
  refine one_ (i := 2) (N := some 7) #[true, true, true, true, true, false, false] rfl rfl (by kernel_rfl) (by decide) (fun K hK => ?_)
  refine goes_ Try.func99 (by kernel_rfl) rfl #[.agg #[.int .i64 a0_0, .int .i64 a0_1, .int .i64 a0_2, .int .i64 a0_3, .int .i64 a0_4, .slice A0_5 l0_5.length c0_5, .bool a0_6], .slice A1 l1.length c1] (by rfl) rfl rfl (by (try simp only [List.map_toArray, List.map_cons, List.map_nil]); first | done | rfl | (simp only [List.length_drop, List.length_take]; rfl)) ?_
  with_reducible refine (codes_plain.calls a0_0 a0_1 a0_2 a0_3 a0_4 _ _ l0_5 a0_6 _ _ l1 t70102 _ ?side1 ?side2 ?side3 ?side4 A3.out).mono ?_
  (case side1 => repeat (first | exact (Kd.C_below HR0_5.out HB.out) | (with_reducible refine Kd.C_alloc ?_ _) | (with_reducible refine Kd.C_drewN ?_ _) | (with_reducible refine Kd.C_drew ?_)))
  (case side2 => exact HC0_5.out)
  (case side3 => repeat (first | exact (Kd.C_below HR1.out HB.out) | (with_reducible refine Kd.C_alloc ?_ _) | (with_reducible refine Kd.C_drewN ?_ _) | (with_reducible refine Kd.C_drew ?_)))
  (case side4 => exact HC1.out)
  rintro e w6 ⟨rfl, hb⟩
  refine ⟨_, rfl, ?_⟩
  have n0_ := Aside0.mk (blk_below (g := gb70101) (o := .cells #[.int .i64 a0_0, .int .i64 a0_1, .int .i64 a0_2, .int .i64 a0_3, .int .i64 a0_4, .slice A0_5 l0_5.length c0_5, .bool a0_6] 36 (0, 0)) (by (with_reducible repeat (first | refine blk_drewN ?_ _ | refine blk_drew ?_ | refine blk_alloc ?_ _)); exact BK70101.out) hb)
  have n1_ := Aside0.mk (below_step (by repeat (first | (with_reducible first | exact HB.out | apply below_alloc | apply pw_below_drewN | apply below_drew1 | refine below_set ?_ GE70101.out) | exact HB.out)) hb)
  clear BK70101
  clear HB
  have BK70101 := n0_
  have HB := n1_
  clear n0_ n1_
  (try clear hb)
  (try clear hb2)
  (try clear hk)
  (try clear hi)
  refine hK.out _ _ ⟨(blk_cell BK70101.out 0).trans rfl, (blk_cell BK70101.out 1).trans rfl, (blk_cell BK70101.out 2).trans rfl, (blk_cell BK70101.out 3).trans rfl, (blk_cell BK70101.out 4).trans rfl, (blk_cell BK70101.out 5).trans rfl, (blk_cell BK70101.out 6).trans rfl⟩ (fun hHeld => ?_)
  clear hK K
  refine norm_ (a' := ?_) ?_ ?_
  rotate_left
  · show Act.put _ (some 7) _ = _
    simp only [Act.put, List.setIfInBounds_toArray, List.set_cons_zero, List.set_cons_succ, i64_w, i32_w]
    rfl
  refine pure_ (i := 5) (N := some 10) (v := ?_) (a' := ?_) #[true, true, true, true, true, true, false] rfl rfl (by kernel_rfl) (fun _ _ _ h => h) (Or.inl ⟨by rfl, ?_⟩) ?_ ?_
  rotate_left
  · intro w'
    go_simp
    with_reducible rfl
  rotate_left
  · simp only [Act.put, List.setIfInBounds_toArray, List.set_cons_zero, List.set_cons_succ, i64_w, i32_w]
    rfl
  refine pure_ (i := 6) (N := some 4) (v := ?_) (a' := ?_) #[true, true, true, true, true, true, true] rfl rfl (by kernel_rfl) (fun _ _ _ h => h) (Or.inl ⟨by rfl, ?_⟩) ?_ ?_
  rotate_left
  · intro w'
    go_simp
    with_reducible rfl
  rotate_left
  · simp only [Act.put, List.setIfInBounds_toArray, List.set_cons_zero, List.set_cons_succ, i64_w, i32_w]
    rfl
  refine done_ (by kernel_rfl) ?_
  try go_wp2
  go_ret
  exact ⟨by first | rfl | (simp [errW_none, errW_some] <;> rfl) | (simp [*, errW_none, errW_some] <;> rfl), by repeat (first | (with_reducible first | exact HB.out | apply below_alloc | apply pw_below_drewN | apply below_drew1 | refine below_set ?_ GE70101.out) | exact HB.out)⟩
end Go.Proofs.Ytimkchehdaadeaa.P
end
