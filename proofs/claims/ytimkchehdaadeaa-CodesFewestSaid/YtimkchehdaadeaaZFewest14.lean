/- Part 14 of a proof: the statement CodesFewest: for every input its law returns true (its texts without what nothing here names). -/
import Derived.Test.YtimkchehdaadeaaZFewest7
import Derived.Test.YtimkchehdaadeaaZFewest9
import Derived.Test.YtimkchehdaadeaaZFewest13
import Derived.Shelf.Abstract
section
namespace Go.Proofs.Ytimkchehdaadeaa.P
open Go.RowKit Go.Shelf Go.Proofs.YtimkchehdaadeaaW.PrintWords Go.Proofs.YtimkchehdaadeaaW.PrintLast Go.Proofs.YtimkchehdaadeaaW.PrintMore
set_option linter.unusedVariables false
set_option linter.unusedSimpArgs false
def idxI {α : Type} (p : α → Bool) (xs : List α) : Int := match xs.findIdx? p with | some i => (i : Int) | none => -1
theorem idxI_hit {α : Type} (p : α → Bool) (xs : List α) (k : Nat) (h : k < xs.length) (hp : p xs[k] = true) (hn : ∀ j (hj : j < k), p (xs[j]'(by omega)) = false) : idxI p xs = k := by
  have : xs.findIdx? p = some k := List.findIdx?_eq_some_iff_getElem.mpr ⟨h, hp, fun j hj => by rw [hn j hj]; simp⟩
  unfold idxI; rw [this]
theorem idxI_miss {α : Type} (p : α → Bool) (xs : List α) (hn : ∀ x ∈ xs, p x = false) : idxI p xs = -1 := by
  have : xs.findIdx? p = none := by simpa [List.findIdx?_eq_none_iff] using hn
  unfold idxI; rw [this]
theorem idxI_nonneg {α : Type} (p : α → Bool) (xs : List α) : decide (0 ≤ idxI p xs) = xs.any p := by
  unfold idxI
  cases h : xs.findIdx? p with
  | none =>
    rw [List.findIdx?_eq_none_iff] at h
    have : xs.any p = false := by simpa using h
    rw [this]; rfl
  | some i =>
    obtain ⟨hi, hp, _⟩ := List.findIdx?_eq_some_iff_getElem.mp h
    have : xs.any p = true := List.any_eq_true.mpr ⟨_, List.getElem_mem hi, hp⟩
    rw [this]; simp
def Asks (g : Nat) (lb : Array Value) (v : Value) (b : Bool) (W : World) : Prop :=
  Calls Try.prog g (#[v] ++ lb) W fun e W' => e = .returned (.bool b) ∧ Below W.heap.size W W'
set_option maxHeartbeats 4000000 in
set_option maxRecDepth 100000 in
theorem index_int (g : Nat) (lb : Array Value) (eg : ∀ args w, (callFunc g args).run Try.prog w = .ok (.enter g args) w) (p : Int → Bool) (A : Option Addr) (c : Nat) (xs : List (Int)) (w : World)
    (hr : Kd.C (Kd.int .i64) w A xs.length xs) (hc : xs.length ≤ c) (hp : ∀ x ∈ xs, ∀ W, Below w.heap.size w W → Asks g lb (.int .i64 x) (p x) W) :
    Calls Try.prog 117 #[.slice A xs.length c, .func (.func g) #[] lb] w fun e w' => e = .returned (.int .i64 (idxI p xs)) ∧ Below w.heap.size w w' := by
  have hmx := Kd.C_max hr
  have HR := Aside0.mk hr
  have HP := Aside0.mk hp
  clear hr hp
  go_enter Try.func117, Try.ntmps117
  go_wp2
  go_loopw [8] (fun v8 wr => ∃ k : Nat, Aside0 (k ≤ xs.length) ∧ v8 = .int .i64 k ∧ Aside0 (∀ j (hj : j < k) (hx : j < xs.length), p xs[j] = false) ∧ Aside0 (Below w.heap.size w wr)) (fun v8 _ => xs.length - (intOf v8).toNat)
  case atStart => exact ⟨0, ⟨Nat.zero_le _⟩, rfl, ⟨fun j hj => absurd hj (Nat.not_lt_zero _)⟩, ⟨Below.refl _ _⟩⟩
  case round =>
    obtain ⟨k, hk, rfl, HN, HB⟩ := hrel
    by_cases hlt : k < xs.length
    · obtain ⟨ad, e0, hcx⟩ := Kd.at_int HR.out (k : Int) (by omega) (by omega)
      rw [Int.toNat_natCast] at hcx
      replace hcx := (HB.out.cell (World.block_lt_of_cell? w _ hcx)).trans hcx
      subst e0
      have hx : rd xs k = xs[k] := by simp [rd, List.getD_eq_getElem?_getD, List.getElem?_eq_getElem hlt]
      rw [hx] at hcx
      have hask := HP.out xs[k] (List.getElem_mem hlt) wr HB.out
      obtain ⟨x, hxx⟩ : ∃ x, x = xs[k] := ⟨_, rfl⟩
      rw [← hxx] at hcx hask
      unfold Asks at hask
      obtain ⟨b, hb⟩ : ∃ b, b = p x := ⟨_, rfl⟩
      rw [← hb] at hask
      have HX := Aside0.mk hxx
      have HPB := Aside0.mk hb
      clear hxx hb hx
      have hask' := Aside0.mk hask
      clear hask
      cases b with
      | true =>
        go_wp2_with (go_at_fn g; refine hask'.out.mono ?_; rintro e w' ⟨rfl, hb'⟩)
        go_ret
        refine ⟨?_, below_then HB.out HB.out.size hb'⟩
        exact ret_int (Eq.symm <| idxI_hit p xs k hlt (by rw [← HX.out]; exact HPB.out.symm) (fun j hj => HN.out j hj (by omega)))
      | false =>
        go_wp2_with (go_at_fn g; refine hask'.out.mono ?_; rintro e w' ⟨rfl, hb'⟩)
        go_roundw
        case rel =>
          refine ⟨k + 1, ⟨by omega⟩, by go_num, ⟨fun j hj hx => ?_⟩, ⟨below_then HB.out HB.out.size hb'⟩⟩
          by_cases e : j = k
          · subst e; rw [← HX.out]; exact HPB.out.symm
          · exact HN.out j (by omega) hx
        case measure => simp [intOf]; omega
    · have hk' : k = xs.length := by have := hk.out; omega
      subst hk'
      go_wp2
      go_ret
      refine ⟨?_, HB.out⟩
      exact ret_int (Eq.symm <| idxI_miss p xs (fun x hx => by obtain ⟨j, hj, rfl⟩ := List.getElem_of_mem hx; exact HN.out j hj hj))
set_option maxHeartbeats 4000000 in
set_option maxRecDepth 100000 in
theorem contains_int (g : Nat) (lb : Array Value) (eg : ∀ args w, (callFunc g args).run Try.prog w = .ok (.enter g args) w) (p : Int → Bool) (A : Option Addr) (c : Nat) (xs : List (Int)) (w : World)
    (hr : Kd.C (Kd.int .i64) w A xs.length xs) (hc : xs.length ≤ c) (hp : ∀ x ∈ xs, ∀ W, Below w.heap.size w W → Asks g lb (.int .i64 x) (p x) W) :
    Calls Try.prog 112 #[.slice A xs.length c, .func (.func g) #[] lb] w fun e w' => e = .returned (.bool (xs.any p)) ∧ Below w.heap.size w w' := by
  have HI := Aside0.mk (index_int g lb eg p A c xs w hr hc hp)
  have HN := Aside0.mk (idxI_nonneg p xs)
  obtain ⟨n, hn⟩ : ∃ n, n = idxI p xs := ⟨_, rfl⟩
  rw [← hn] at HI HN
  clear hn hr hp
  go_enter Try.func112, Try.ntmps112
  go_wp2_with (go_at_call 117; refine HI.out.mono ?_; rintro e w' ⟨rfl, hb'⟩)
  go_ret
  exact ⟨ret_bool HN.out, hb'⟩
set_option maxHeartbeats 4000000 in
set_option maxRecDepth 100000 in
theorem index_row (g : Nat) (lb : Array Value) (eg : ∀ args w, (callFunc g args).run Try.prog w = .ok (.enter g args) w) (p : List Int → Bool) (A : Option Addr) (c : Nat) (xs : List (List Int)) (w : World)
    (hr : Kd.C (Kd.slice 3 (Kd.int .i64)) w A xs.length xs) (hc : xs.length ≤ c) (hp : ∀ x ∈ xs, ∀ W, Below w.heap.size w W → ∀ A0 c0, x.length ≤ c0 → Kd.C (Kd.int .i64) W A0 x.length x → Asks g lb (.slice A0 x.length c0) (p x) W) :
    Calls Try.prog 111 #[.slice A xs.length c, .func (.func g) #[] lb] w fun e w' => e = .returned (.int .i64 (idxI p xs)) ∧ Below w.heap.size w w' := by
  have hmx := Kd.C_max hr
  have HR := Aside0.mk hr
  have HP := Aside0.mk hp
  clear hr hp
  go_enter Try.func111, Try.ntmps111
  go_wp2
  go_loopw [8] (fun v8 wr => ∃ k : Nat, Aside0 (k ≤ xs.length) ∧ v8 = .int .i64 k ∧ Aside0 (∀ j (hj : j < k) (hx : j < xs.length), p xs[j] = false) ∧ Aside0 (Below w.heap.size w wr)) (fun v8 _ => xs.length - (intOf v8).toNat)
  case atStart => exact ⟨0, ⟨Nat.zero_le _⟩, rfl, ⟨fun j hj => absurd hj (Nat.not_lt_zero _)⟩, ⟨Below.refl _ _⟩⟩
  case round =>
    obtain ⟨k, hk, rfl, HN, HB⟩ := hrel
    by_cases hlt : k < xs.length
    · obtain ⟨ad, A0, c0, e0, hcx, hl5, hi5⟩ := at_L2 HR.out (k : Int) (by omega) (by omega)
      rw [Int.toNat_natCast] at hcx
      replace hcx := (HB.out.cell (World.block_lt_of_cell? w _ hcx)).trans hcx
      subst e0
      have hx : rd_L2 xs k = xs[k] := by simp [rd_L2, List.getD_eq_getElem?_getD, List.getElem?_eq_getElem hlt]
      rw [hx] at hcx hl5 hi5
      have hask := HP.out xs[k] (List.getElem_mem hlt) wr HB.out A0 c0 hl5 (Kd.C_below hi5 HB.out)
      obtain ⟨x, hxx⟩ : ∃ x, x = xs[k] := ⟨_, rfl⟩
      rw [← hxx] at hcx hask
      unfold Asks at hask
      obtain ⟨b, hb⟩ : ∃ b, b = p x := ⟨_, rfl⟩
      rw [← hb] at hask
      have HX := Aside0.mk hxx
      have HPB := Aside0.mk hb
      clear hxx hb hx
      have hask' := Aside0.mk hask
      clear hask hl5 hi5
      cases b with
      | true =>
        go_wp2_with (go_at_fn g; refine hask'.out.mono ?_; rintro e w' ⟨rfl, hb'⟩)
        go_ret
        refine ⟨?_, below_then HB.out HB.out.size hb'⟩
        exact ret_int (Eq.symm <| idxI_hit p xs k hlt (by rw [← HX.out]; exact HPB.out.symm) (fun j hj => HN.out j hj (by omega)))
      | false =>
        go_wp2_with (go_at_fn g; refine hask'.out.mono ?_; rintro e w' ⟨rfl, hb'⟩)
        go_roundw
        case rel =>
          refine ⟨k + 1, ⟨by omega⟩, by go_num, ⟨fun j hj hx => ?_⟩, ⟨below_then HB.out HB.out.size hb'⟩⟩
          by_cases e : j = k
          · subst e; rw [← HX.out]; exact HPB.out.symm
          · exact HN.out j (by omega) hx
        case measure => simp [intOf]; omega
    · have hk' : k = xs.length := by have := hk.out; omega
      subst hk'
      go_wp2
      go_ret
      refine ⟨?_, HB.out⟩
      exact ret_int (Eq.symm <| idxI_miss p xs (fun x hx => by obtain ⟨j, hj, rfl⟩ := List.getElem_of_mem hx; exact HN.out j hj hj))
set_option maxHeartbeats 4000000 in
set_option maxRecDepth 100000 in
theorem contains_row (g : Nat) (lb : Array Value) (eg : ∀ args w, (callFunc g args).run Try.prog w = .ok (.enter g args) w) (p : List Int → Bool) (A : Option Addr) (c : Nat) (xs : List (List Int)) (w : World)
    (hr : Kd.C (Kd.slice 3 (Kd.int .i64)) w A xs.length xs) (hc : xs.length ≤ c) (hp : ∀ x ∈ xs, ∀ W, Below w.heap.size w W → ∀ A0 c0, x.length ≤ c0 → Kd.C (Kd.int .i64) W A0 x.length x → Asks g lb (.slice A0 x.length c0) (p x) W) :
    Calls Try.prog 88 #[.slice A xs.length c, .func (.func g) #[] lb] w fun e w' => e = .returned (.bool (xs.any p)) ∧ Below w.heap.size w w' := by
  have HI := Aside0.mk (index_row g lb eg p A c xs w hr hc hp)
  have HN := Aside0.mk (idxI_nonneg p xs)
  obtain ⟨n, hn⟩ : ∃ n, n = idxI p xs := ⟨_, rfl⟩
  rw [← hn] at HI HN
  clear hn hr hp
  go_enter Try.func88, Try.ntmps88
  go_wp2_with (go_at_call 111; refine HI.out.mono ?_; rintro e w' ⟨rfl, hb'⟩)
  go_ret
  exact ⟨ret_bool HN.out, hb'⟩
set_option maxHeartbeats 4000000 in
set_option maxRecDepth 100000 in
theorem index_clue (g : Nat) (lb : Array Value) (eg : ∀ args w, (callFunc g args).run Try.prog w = .ok (.enter g args) w) (p : S36 → Bool) (A : Option Addr) (c : Nat) (xs : List (S36)) (w : World)
    (hr : Kd.C k36 w A xs.length xs) (hc : xs.length ≤ c) (hp : ∀ x ∈ xs, ∀ W, Below w.heap.size w W → ∀ A0 c0, x.f5.length ≤ c0 → Kd.C (Kd.int .i64) W A0 x.f5.length x.f5 → Asks g lb (.agg #[.int .i64 x.f0, .int .i64 x.f1, .int .i64 x.f2, .int .i64 x.f3, .int .i64 x.f4, .slice A0 x.f5.length c0, .bool x.f6]) (p x) W) :
    Calls Try.prog 94 #[.slice A xs.length c, .func (.func g) #[] lb] w fun e w' => e = .returned (.int .i64 (idxI p xs)) ∧ Below w.heap.size w w' := by
  have hmx := Kd.C_max hr
  have HR := Aside0.mk hr
  have HP := Aside0.mk hp
  clear hr hp
  go_enter Try.func94, Try.ntmps94
  go_wp2
  go_loopw [8] (fun v8 wr => ∃ k : Nat, Aside0 (k ≤ xs.length) ∧ v8 = .int .i64 k ∧ Aside0 (∀ j (hj : j < k) (hx : j < xs.length), p xs[j] = false) ∧ Aside0 (Below w.heap.size w wr)) (fun v8 _ => xs.length - (intOf v8).toNat)
  case atStart => exact ⟨0, ⟨Nat.zero_le _⟩, rfl, ⟨fun j hj => absurd hj (Nat.not_lt_zero _)⟩, ⟨Below.refl _ _⟩⟩
  case round =>
    obtain ⟨k, hk, rfl, HN, HB⟩ := hrel
    by_cases hlt : k < xs.length
    · obtain ⟨ad, A0, c0, e0, hc0, hc1, hc2, hc3, hc4, hc5, hc6, hl5, hi5⟩ := at_T36 HR.out (k : Int) (by omega) (by omega)
      rw [Int.toNat_natCast] at hc0
      replace hc0 := (HB.out.cell (World.block_lt_of_cell? w _ hc0)).trans hc0
      rw [Int.toNat_natCast] at hc1
      replace hc1 := (HB.out.cell (World.block_lt_of_cell? w _ hc1)).trans hc1
      rw [Int.toNat_natCast] at hc2
      replace hc2 := (HB.out.cell (World.block_lt_of_cell? w _ hc2)).trans hc2
      rw [Int.toNat_natCast] at hc3
      replace hc3 := (HB.out.cell (World.block_lt_of_cell? w _ hc3)).trans hc3
      rw [Int.toNat_natCast] at hc4
      replace hc4 := (HB.out.cell (World.block_lt_of_cell? w _ hc4)).trans hc4
      rw [Int.toNat_natCast] at hc5
      replace hc5 := (HB.out.cell (World.block_lt_of_cell? w _ hc5)).trans hc5
      rw [Int.toNat_natCast] at hc6
      replace hc6 := (HB.out.cell (World.block_lt_of_cell? w _ hc6)).trans hc6
      subst e0
      have hx : rd_T36 xs k = xs[k] := by simp [rd_T36, List.getD_eq_getElem?_getD, List.getElem?_eq_getElem hlt]
      rw [hx] at hc0 hc1 hc2 hc3 hc4 hc5 hc6 hl5 hi5
      have hask := HP.out xs[k] (List.getElem_mem hlt) wr HB.out A0 c0 hl5 (Kd.C_below hi5 HB.out)
      obtain ⟨x, hxx⟩ : ∃ x, x = xs[k] := ⟨_, rfl⟩
      rw [← hxx] at hc0 hc1 hc2 hc3 hc4 hc5 hc6 hask
      unfold Asks at hask
      obtain ⟨b, hb⟩ : ∃ b, b = p x := ⟨_, rfl⟩
      rw [← hb] at hask
      have HX := Aside0.mk hxx
      have HPB := Aside0.mk hb
      clear hxx hb hx
      have hask' := Aside0.mk hask
      clear hask hl5 hi5
      cases b with
      | true =>
        go_wp2_with (go_at_fn g; refine hask'.out.mono ?_; rintro e w' ⟨rfl, hb'⟩)
        go_ret
        refine ⟨?_, below_then HB.out HB.out.size hb'⟩
        exact ret_int (Eq.symm <| idxI_hit p xs k hlt (by rw [← HX.out]; exact HPB.out.symm) (fun j hj => HN.out j hj (by omega)))
      | false =>
        go_wp2_with (go_at_fn g; refine hask'.out.mono ?_; rintro e w' ⟨rfl, hb'⟩)
        go_roundw
        case rel =>
          refine ⟨k + 1, ⟨by omega⟩, by go_num, ⟨fun j hj hx => ?_⟩, ⟨below_then HB.out HB.out.size hb'⟩⟩
          by_cases e : j = k
          · subst e; rw [← HX.out]; exact HPB.out.symm
          · exact HN.out j (by omega) hx
        case measure => simp [intOf]; omega
    · have hk' : k = xs.length := by have := hk.out; omega
      subst hk'
      go_wp2
      go_ret
      refine ⟨?_, HB.out⟩
      exact ret_int (Eq.symm <| idxI_miss p xs (fun x hx => by obtain ⟨j, hj, rfl⟩ := List.getElem_of_mem hx; exact HN.out j hj hj))
set_option maxHeartbeats 4000000 in
set_option maxRecDepth 100000 in
theorem contains_clue (g : Nat) (lb : Array Value) (eg : ∀ args w, (callFunc g args).run Try.prog w = .ok (.enter g args) w) (p : S36 → Bool) (A : Option Addr) (c : Nat) (xs : List (S36)) (w : World)
    (hr : Kd.C k36 w A xs.length xs) (hc : xs.length ≤ c) (hp : ∀ x ∈ xs, ∀ W, Below w.heap.size w W → ∀ A0 c0, x.f5.length ≤ c0 → Kd.C (Kd.int .i64) W A0 x.f5.length x.f5 → Asks g lb (.agg #[.int .i64 x.f0, .int .i64 x.f1, .int .i64 x.f2, .int .i64 x.f3, .int .i64 x.f4, .slice A0 x.f5.length c0, .bool x.f6]) (p x) W) :
    Calls Try.prog 92 #[.slice A xs.length c, .func (.func g) #[] lb] w fun e w' => e = .returned (.bool (xs.any p)) ∧ Below w.heap.size w w' := by
  have HI := Aside0.mk (index_clue g lb eg p A c xs w hr hc hp)
  have HN := Aside0.mk (idxI_nonneg p xs)
  obtain ⟨n, hn⟩ : ∃ n, n = idxI p xs := ⟨_, rfl⟩
  rw [← hn] at HI HN
  clear hn hr hp
  go_enter Try.func92, Try.ntmps92
  go_wp2_with (go_at_call 94; refine HI.out.mono ?_; rintro e w' ⟨rfl, hb'⟩)
  go_ret
  exact ⟨ret_bool HN.out, hb'⟩
end Go.Proofs.Ytimkchehdaadeaa.P
end
section
namespace Go.Proofs.Ytimkchehdaadeaa.P
open Go.RowKit Go.Shelf Go.Proofs.YtimkchehdaadeaaW.PrintWords Go.Proofs.YtimkchehdaadeaaW.PrintLast Go.Proofs.YtimkchehdaadeaaW.PrintMore
set_option linter.unusedVariables false
set_option linter.unusedSimpArgs false
theorem within_eq (a lo hi : Int) : codes_within.f a lo hi = some (inRange lo hi a) := by
  unfold codes_within.f inRange
  by_cases h : a ≥ lo
  · rw [if_pos h]; simp [show lo ≤ a from h]
  · rw [if_neg h]; simp [show ¬ lo ≤ a from h]
theorem Check_eq (W S : Int) : codes_Check.f W S = some (if okLock W S then 0 else 10) := by
  unfold codes_Check.f
  simp only [within_eq, Option.bind_some]
  by_cases h : okLock W S
  · obtain ⟨a, b, c, d⟩ := h
    simp [inRange, okLock, a, b, c, d]
  · rw [if_neg h]
    by_cases h1 : inRange 1 4 W = true
    · rw [if_pos h1]
      by_cases h2 : inRange 2 10 S = true
      · exact absurd ⟨(inRange_iff.1 h1).1, (inRange_iff.1 h1).2, (inRange_iff.1 h2).1, (inRange_iff.1 h2).2⟩ h
      · rw [if_neg h2]
    · rw [if_neg h1]
theorem symbol_eq (W S x : Int) (h : okLock W S) : codes_lock_symbol.f W S x = some (inRange 0 (S - 1) x) := by
  obtain ⟨a, b, c, d⟩ := h
  unfold codes_lock_symbol.f
  rw [within_eq, wrap_small (by omega) (by omega)]; rfl
theorem wheel_eq (W S x : Int) (h : okLock W S) : codes_lock_wheel.f W S x = some (inRange 0 (W - 1) x) := by
  obtain ⟨a, b, c, d⟩ := h
  unfold codes_lock_wheel.f
  rw [within_eq, wrap_small (by omega) (by omega)]; rfl
def codes_lock_code.f (W S : Int) (l : List Int) : Option Bool := if okLock W S then some (isCodeB W S l) else none
def codes_checkCodes.f (W S : Int) (ll : List (List Int)) : Option Int := some (if okLock W S then (if ll.all (isCodeB W S) then 0 else 12) else 10)
set_option maxHeartbeats 4000000 in
set_option maxRecDepth 100000 in
theorem ask_code1 (W S : Int) (hl : okLock W S) (B : Nat) (x : Int) (w : World) (hb : w.heap[B]? = some (.cells #[.int .i64 W, .int .i64 S] 83 (0, 0))) :
    Asks 113 #[.pointer (some ⟨B, 0, none⟩)] (.int .i64 x) (!inRange 0 (S - 1) x) w := by
  have hs := symbol_eq W S x hl
  have h0 := (blk_cell hb 0).trans rfl
  have h1 := (blk_cell hb 1).trans rfl
  obtain ⟨r, hr⟩ : ∃ r, r = inRange 0 (S - 1) x := ⟨_, rfl⟩
  rw [← hr] at hs ⊢
  have hc := Aside0.mk (codes_lock_symbol.calls W S x r w hs)
  clear hs hr hb hl
  unfold Asks
  go_enter Try.func113, Try.ntmps113
  go_wp2_with (go_at_call 97; refine hc.out.mono ?_; rintro e w' ⟨rfl, hb'⟩)
  go_ret
  exact ⟨rfl, hb'⟩
theorem isCodeB_len {W S : Int} {l : List Int} (h : (l.length : Int) = W) : isCodeB W S l = !(l.any fun x => !inRange 0 (S - 1) x) := by
  unfold isCodeB
  rw [decide_eq_true h, Bool.true_and, List.all_eq_not_any_not]
set_option maxHeartbeats 4000000 in
set_option maxRecDepth 100000 in
theorem codes_lock_code.calls (a0_0 : Int) (a0_1 : Int) (A1 : Option Addr) (c1 : Nat) (l1 : List Int) (r : Bool) (w : World) (hr1 : Kd.C (Kd.int .i64) w A1 l1.length l1) (hc1 : l1.length ≤ c1) (h : codes_lock_code.f a0_0 a0_1 l1 = some r) :
    Calls Try.prog 90 #[.agg #[.int .i64 a0_0, .int .i64 a0_1], .slice A1 l1.length c1] w fun e w' => e = .returned (.bool r) ∧ Below w.heap.size w w' := by
  unfold codes_lock_code.f at h
  split at h
  case isFalse => cases h
  case isTrue hl =>
  obtain rfl := Option.some.inj h
  clear h
  have hmx := Kd.C_max hr1
  have HB1 : Aside0 (Below w.heap.size w (w.alloc (.cells #[.int .i64 a0_0, .int .i64 a0_1] 83))) := ⟨(Below.refl _ w).alloc (Nat.le_refl _) _⟩
  by_cases he : (l1.length : Int) = a0_0
  · rw [isCodeB_len he]
    have hn : ((l1.length : Int) == a0_0) = true := beq_iff_eq.mpr he
    have hask : ∀ x ∈ l1, ∀ W, Below (w.alloc (.cells #[.int .i64 a0_0, .int .i64 a0_1] 83)).heap.size (w.alloc (.cells #[.int .i64 a0_0, .int .i64 a0_1] 83)) W → Asks 113 #[.pointer (some ⟨w.heap.size, 0, none⟩)] (.int .i64 x) (!inRange 0 (a0_1 - 1) x) W :=
      fun x _ W hW => ask_code1 a0_0 a0_1 hl w.heap.size x W (blk_below (blk_new w _) hW)
    have hcall := contains_int 113 #[.pointer (some ⟨w.heap.size, 0, none⟩)] (enters_of Try.func113 (by kernel_rfl) rfl) (fun x => !inRange 0 (a0_1 - 1) x) A1 c1 l1 _ (Kd.C_alloc hr1 _) hc1 hask
    obtain ⟨b, hb⟩ : ∃ b, b = l1.any fun x => !inRange 0 (a0_1 - 1) x := ⟨_, rfl⟩
    rw [← hb] at hcall ⊢
    have HC := Aside0.mk hcall
    clear hcall hask hb he hr1
    go_enter Try.func90, Try.ntmps90
    go_wp2_with (go_at_call 112; refine HC.out.mono ?_; rintro e w' ⟨rfl, hb'⟩)
    go_ret
    exact ⟨rfl, below_then HB1.out (by simp) hb'⟩
  · have hf : isCodeB a0_0 a0_1 l1 = false := by unfold isCodeB; rw [decide_eq_false he]; rfl
    rw [hf]
    have hn : ((l1.length : Int) == a0_0) = false := beq_eq_false_iff_ne.mpr he
    clear hf he hr1
    go_enter Try.func90, Try.ntmps90
    go_wp2
    go_ret
    exact ⟨rfl, HB1.out⟩
set_option maxHeartbeats 4000000 in
set_option maxRecDepth 100000 in
theorem ask_checkCodes1 (W S : Int) (hl : okLock W S) (B : Nat) (A0 : Option Addr) (c0 : Nat) (x : List Int) (w : World) (hc : x.length ≤ c0) (hr : Kd.C (Kd.int .i64) w A0 x.length x) (hb : w.heap[B]? = some (.cells #[.int .i64 W, .int .i64 S] 23 (0, 0))) :
    Asks 89 #[.pointer (some ⟨B, 0, none⟩)] (.slice A0 x.length c0) (!isCodeB W S x) w := by
  have h0 := (blk_cell hb 0).trans rfl
  have h1 := (blk_cell hb 1).trans rfl
  have hc := Aside0.mk (codes_lock_code.calls W S A0 c0 x (isCodeB W S x) w hr hc (by unfold codes_lock_code.f; rw [if_pos hl]))
  obtain ⟨r, hr'⟩ : ∃ r, r = isCodeB W S x := ⟨_, rfl⟩
  rw [← hr'] at hc ⊢
  clear hr' hr hb hl
  unfold Asks
  go_enter Try.func89, Try.ntmps89
  go_wp2_with (go_at_call 90; refine hc.out.mono ?_; rintro e w' ⟨rfl, hb'⟩)
  go_ret
  exact ⟨rfl, hb'⟩
set_option maxHeartbeats 4000000 in
set_option maxRecDepth 100000 in
theorem codes_checkCodes.calls (a0_0 : Int) (a0_1 : Int) (A1 : Option Addr) (c1 : Nat) (l1 : List (List Int)) (r : Int) (w : World) (hr1 : Kd.C (Kd.slice 3 (Kd.int .i64)) w A1 l1.length l1) (hc1 : l1.length ≤ c1) (h : codes_checkCodes.f a0_0 a0_1 l1 = some r) :
    Calls Try.prog 59 #[.agg #[.int .i64 a0_0, .int .i64 a0_1], .slice A1 l1.length c1] w fun e w' => e = .returned (.int .i64 r) ∧ Below w.heap.size w w' := by
  obtain rfl := Option.some.inj h
  clear h
  have hck := codes_Check.calls a0_0 a0_1 _ (w.alloc (.cells #[.int .i64 a0_0, .int .i64 a0_1] 23)) (Check_eq a0_0 a0_1)
  have HB1 : Aside0 (Below w.heap.size w (w.alloc (.cells #[.int .i64 a0_0, .int .i64 a0_1] 23))) := ⟨(Below.refl _ w).alloc (Nat.le_refl _) _⟩
  have HBK : Aside0 ((w.alloc (.cells #[.int .i64 a0_0, .int .i64 a0_1] 23)).heap[w.heap.size]? = some (.cells #[.int .i64 a0_0, .int .i64 a0_1] 23 (0, 0))) := ⟨blk_new w _⟩
  by_cases hl : okLock a0_0 a0_1
  · rw [if_pos hl] at hck ⊢
    have hall : ∀ w1, Below (w.alloc (.cells #[.int .i64 a0_0, .int .i64 a0_1] 23)).heap.size (w.alloc (.cells #[.int .i64 a0_0, .int .i64 a0_1] 23)) w1 → Calls Try.prog 88 #[.slice A1 l1.length c1, .func (.func 89) #[] #[.pointer (some ⟨w.heap.size, 0, none⟩)]] w1 fun e w' => e = .returned (.bool (l1.any fun x => !isCodeB a0_0 a0_1 x)) ∧ Below w1.heap.size w1 w' := fun w1 hw1 =>
      contains_row 89 #[.pointer (some ⟨w.heap.size, 0, none⟩)] (enters_of Try.func89 (by kernel_rfl) rfl) (fun x => !isCodeB a0_0 a0_1 x) A1 c1 l1 w1 (Kd.C_below (Kd.C_alloc hr1 _) hw1) hc1
        (fun x _ W hW A0 c0 hc0 hx => ask_checkCodes1 a0_0 a0_1 hl w.heap.size A0 c0 x W hc0 hx (blk_below (blk_below (blk_new w _) hw1) hW))
    have hany : (l1.all (isCodeB a0_0 a0_1)) = !(l1.any fun x => !isCodeB a0_0 a0_1 x) := List.all_eq_not_any_not
    rw [hany]
    obtain ⟨b, hb⟩ : ∃ b, b = l1.any fun x => !isCodeB a0_0 a0_1 x := ⟨_, rfl⟩
    rw [← hb] at hall ⊢
    have HALL := Aside0.mk hall
    have HCK := Aside0.mk hck
    clear hall hck hb hany hr1
    cases b with
    | true =>
      go_enter Try.func59, Try.ntmps59
      go_wp2_with (first | (go_at_call 24; refine HCK.out.mono ?_; rintro e w1 ⟨rfl, hb1⟩; have HW1 := Aside0.mk hb1; clear hb1) | (go_at_call 88; refine (HALL.out _ HW1.out).mono ?_; rintro e w2 ⟨rfl, hb2⟩))
      go_ret
      exact ⟨rfl, below_then (below_then HB1.out (by simp) HW1.out) (Nat.le_trans (by simp) HW1.out.size) hb2⟩
    | false =>
      go_enter Try.func59, Try.ntmps59
      go_wp2_with (first | (go_at_call 24; refine HCK.out.mono ?_; rintro e w1 ⟨rfl, hb1⟩; have HW1 := Aside0.mk hb1; clear hb1) | (go_at_call 88; refine (HALL.out _ HW1.out).mono ?_; rintro e w2 ⟨rfl, hb2⟩))
      go_ret
      exact ⟨rfl, below_then (below_then HB1.out (by simp) HW1.out) (Nat.le_trans (by simp) HW1.out.size) hb2⟩
  · rw [if_neg hl] at hck ⊢
    have HCK := Aside0.mk hck
    clear hck hr1
    go_enter Try.func59, Try.ntmps59
    go_wp2_with (first | (go_at_call 24; refine HCK.out.mono ?_; rintro e w1 ⟨rfl, hb1⟩; have HW1 := Aside0.mk hb1; clear hb1))
    go_ret
    exact ⟨rfl, below_then HB1.out (by simp) HW1.out⟩
end Go.Proofs.Ytimkchehdaadeaa.P
end
section
namespace Go.Proofs.Ytimkchehdaadeaa.P
open Go.RowKit Go.Proofs.YtimkchehdaadeaaW.PrintWords Go.Proofs.YtimkchehdaadeaaW.PrintLast Go.Proofs.YtimkchehdaadeaaW.PrintMore
attribute [local go_sem] max2_int min2_int max_two min_two max_three min_three max_four min_four
set_option linter.unusedVariables false
set_option linter.unusedSimpArgs false
def codes_Answer.f (a0_0 : Int) (a0_1 : Int) (l1 : List Int) (l2 : List Int) : Option (Int × Int × Int) := (codes_checkCodes.f a0_0 a0_1 (([l1, l2] : List (List Int)))).bind fun t18105 => (if t18105 = 0 then ((codes_answer.f l1 l2).bind fun bt18106 => (some (bt18106.1, bt18106.2, 0))) else (some (0, 0, t18105)))
set_option maxHeartbeats 8000000 in
set_option maxRecDepth 100000 in
theorem codes_Answer.calls (a0_0 : Int) (a0_1 : Int) (P1_ : Nat → Prop) (A1 : Option Addr) (c1 : Nat) (l1 : List Int) (P2_ : Nat → Prop) (A2 : Option Addr) (c2 : Nat) (l2 : List Int) (r1 : Int) (r2 : Int) (r3 : Int) (w : World) (hs1 : Kd.V (Kd.int .i64) 3 w w.heap.size (fun k_ => P1_ k_) (.slice A1 l1.length c1) l1) (hs2 : Kd.V (Kd.int .i64) 3 w w.heap.size (fun k_ => P2_ k_) (.slice A2 l2.length c2) l2) (h : codes_Answer.f a0_0 a0_1 l1 l2 = some (r1, r2, r3)) :
    Calls Try.prog 18 #[.agg #[.int .i64 a0_0, .int .i64 a0_1], .slice A1 l1.length c1, .slice A2 l2.length c2] w fun e w' => e = .returned (.tuple #[.int .i64 r1, .int .i64 r2, .int .i64 r3]) ∧ Below w.heap.size w w' := by
  have hu23 := Try.underlying23
  have HO1 := Aside0.mk (show Kd.V (Kd.int .i64) 3 w w.heap.size (fun k_ => ((P1_ k_ ∨ P2_ k_) ∨ w.heap.size ≤ k_)) (.slice A1 l1.length c1) l1 from Kd.V_mono hs1 (fun k_ hk => .inl (.inl hk)))
  have HO2 := Aside0.mk (show Kd.V (Kd.int .i64) 3 w w.heap.size (fun k_ => ((P1_ k_ ∨ P2_ k_) ∨ w.heap.size ≤ k_)) (.slice A2 l2.length c2) l2 from Kd.V_mono hs2 (fun k_ hk => .inl (.inr hk)))
  have HB := Aside0.mk (Below.refl w.heap.size w)
  have H : ((codes_checkCodes.f a0_0 a0_1 (([l1, l2] : List (List Int)))).bind fun t18105 => (if t18105 = 0 then ((codes_answer.f l1 l2).bind fun bt18106 => (some (bt18106.1, bt18106.2, 0))) else (some (0, 0, t18105)))) = some (r1, r2, r3) := h
  clear h
  obtain ⟨y18102, hy18102⟩ : ∃ y_ : List (List Int), y_ = (([l1, l2] : List (List Int))) := ⟨_, rfl⟩
  replace H : ((codes_checkCodes.f a0_0 a0_1 y18102).bind fun t18105 => (if t18105 = 0 then ((codes_answer.f l1 l2).bind fun bt18106 => (some (bt18106.1, bt18106.2, 0))) else (some (0, 0, t18105)))) = some (r1, r2, r3) := by first | (rw [hy18102]; with_reducible exact H) | (have H2_ := (Option.bind_some _ _).symm.trans H; rw [hy18102]; with_reducible exact H2_) | (have H2_ := (Option.bind_some _ _).symm.trans H; with_reducible exact H2_) | with_reducible exact H | (rw [hy18102]; exact H) | exact H
  have Ny18102 := Aside0.mk hy18102
  clear hy18102
  replace H := Option.bind_eq_some_iff.mp H
  obtain ⟨t18105, A40, H⟩ := H
  replace H : (if t18105 = 0 then ((codes_answer.f l1 l2).bind fun bt18106 => (some (bt18106.1, bt18106.2, 0))) else (some (0, 0, t18105))) = some (r1, r2, r3) := H
  have A4 := Aside0.mk A40
  clear A40
  by_cases c5 : t18105 = 0
  · rw [if_pos c5] at H
    have c5b0 : (t18105 == 0) = true := beq_iff_eq.mpr c5
    have c5b1 : (t18105 != 0) = false := bne_eq_false_iff_eq.mpr c5
    clear c5
    replace H := Option.bind_eq_some_iff.mp H
    obtain ⟨⟨t18106, t18107⟩, A60, H⟩ := H
    replace H : (some (t18106, t18107, 0)) = some (r1, r2, r3) := H
    have A6 := Aside0.mk A60
    clear A60
    simp only [Option.some.injEq, Prod.mk.injEq] at H
    obtain ⟨rfl, rfl, rfl⟩ := H
    go_enter Try.func18, Try.ntmps18
    go_wp2_with (first | ((with_reducible refine gate_dst (N := 3) rfl ?_); refine box_event ?hg (N := 3) ?hd (cs := #[.int .i64 a0_0, .int .i64 a0_1]) (t := 23) ?hr ?_; (case hd => rfl); (case hg => rfl); (case hr => first | (go_simp; done) | (go_simp; rfl)); intro gb18101 hg w7 hbox hb; have n0_ := Aside0.mk (Kd.V_below (Kd.V_elderB (by (with_reducible repeat (first | apply Kd.V_alloc | apply Kd.V_drewN | apply Kd.V_drew)); exact HO1.out) gb18101 (Nat.le_of_eq hg.symm)) hb); have n1_ := Aside0.mk (Kd.V_below (Kd.V_elderB (by (with_reducible repeat (first | apply Kd.V_alloc | apply Kd.V_drewN | apply Kd.V_drew)); exact HO2.out) gb18101 (Nat.le_of_eq hg.symm)) hb); have n2_ := Aside0.mk (below_step (by repeat (first | (with_reducible first | exact HB.out | apply below_alloc | apply pw_below_drewN | apply below_drew1) | exact HB.out)) hb); have n3_ := Aside0.mk (hbox); have n4_ := Aside0.mk ((by rw [hg]; exact (below_size (by repeat (first | (with_reducible first | exact HB.out | apply below_alloc | apply pw_below_drewN | apply below_drew1) | exact HB.out))) : w.heap.size ≤ gb18101)); have n5_ := Aside0.mk ((by rw [hg]; exact (below_size (by repeat (first | (with_reducible first | exact HB.out | apply below_alloc | apply pw_below_drewN | apply below_drew1) | exact HB.out))) : w.heap.size ≤ gb18101)); clear HO1; clear HO2; clear HB; have HO1 := n0_; have HO2 := n1_; have HB := n2_; have BK18101 := n3_; have GW18101 := n4_; have GE18101 := n5_; clear n0_ n1_ n2_ n3_ n4_ n5_; clear hb hbox hg; have hcz8_0 : w7.cell? ⟨gb18101, 0, none⟩ = some (.int .i64 a0_0) := (blk_cell BK18101.out 0).trans rfl; have hcz8_1 : w7.cell? ⟨gb18101, 1, none⟩ = some (.int .i64 a0_1) := (blk_cell BK18101.out 1).trans rfl; have hfz8_0 := blk_frozen BK18101.out 0; have hfz8_1 := blk_frozen BK18101.out 1) | ((with_reducible refine gate_dst (N := 13) rfl ?_); refine Kd.N_lit (Kd.slice 3 (Kd.int .i64)) _ 24 ?hg (N' := 13) ?hd (xs := ([l1, l2] : List (List Int))) (inner := [.slice A1 l1.length c1, .slice A2 l2.length c2]) (ok := (fun k_ => ((P1_ k_ ∨ P2_ k_) ∨ w.heap.size ≤ k_) ∧ k_ ≠ gb18101)) (okp := (fun k_ => ((P1_ k_ ∨ P2_ k_) ∨ w.heap.size ≤ k_) ∧ k_ ≠ gb18101)) ?hr ?hp (fun _ hk => hk) ((show ∀ k_, w7.heap.size ≤ k_ → (fun k_ => ((P1_ k_ ∨ P2_ k_) ∨ w.heap.size ≤ k_) ∧ k_ ≠ gb18101) k_ from fun k_ hk => ⟨(.inr (Nat.le_trans (below_size (by repeat (first | (with_reducible first | exact HB.out | apply below_alloc | apply pw_below_drewN | apply below_drew1 | refine below_set ?_ GE18101.out) | exact HB.out))) hk)), Kd.freshB (g := gb18101) (o := .cells #[.int .i64 a0_0, .int .i64 a0_1] 23 (0, 0)) (by (with_reducible repeat (first | refine blk_drewN ?_ _ | refine blk_drew ?_ | refine blk_alloc ?_ _)); exact BK18101.out) k_ hk⟩) _ (Nat.le_refl _)) (Below.refl _ _) (Nat.le_refl _) (by simp) ?_; (case hd => rfl); (case hg => rfl); (case hr => first | (go_simp; done) | (go_simp; rfl)); (case hp => exact (Reps.one (show Kd.FK (Kd.slice 3 (Kd.int .i64)) _ _ l1 [.slice A1 l1.length c1] from (Kd.FK_slice_mk (Kd.V_reads' (Kd.V_mono (ok' := (fun k_ => ((P1_ k_ ∨ P2_ k_) ∨ w.heap.size ≤ k_) ∧ k_ ≠ gb18101)) (HO1.out) (fun k_ hk => ⟨hk.1, hk.2⟩))).2.1 (Kd.V_F (Kd.V_mono (ok' := (fun k_ => ((P1_ k_ ∨ P2_ k_) ∨ w.heap.size ≤ k_) ∧ k_ ≠ gb18101)) (HO1.out) (fun k_ hk => ⟨hk.1, hk.2⟩))))) (Reps.one (show Kd.FK (Kd.slice 3 (Kd.int .i64)) _ _ l2 [.slice A2 l2.length c2] from (Kd.FK_slice_mk (Kd.V_reads' (Kd.V_mono (ok' := (fun k_ => ((P1_ k_ ∨ P2_ k_) ∨ w.heap.size ≤ k_) ∧ k_ ≠ gb18101)) (HO2.out) (fun k_ hk => ⟨hk.1, hk.2⟩))).2.1 (Kd.V_F (Kd.V_mono (ok' := (fun k_ => ((P1_ k_ ∨ P2_ k_) ∨ w.heap.size ≤ k_) ∧ k_ ≠ gb18101)) (HO2.out) (fun k_ hk => ⟨hk.1, hk.2⟩))))) (Reps.none _ _)))); intro v18103 w9 ho10 hb hg_ hnew_; clear hg_ hnew_; (first | rw [← Ny18102.out] at ho10 | (simp only [Int.reduceToNat] at ho10; rw [← Ny18102.out] at ho10)); have n0_ := Aside0.mk (Kd.V_elder' (by (with_reducible repeat (first | apply Kd.V_alloc | apply Kd.V_drewN | apply Kd.V_drew)); exact HO1.out) (Kd.N_base ho10) hb); have n1_ := Aside0.mk (Kd.V_elder' (by (with_reducible repeat (first | apply Kd.V_alloc | apply Kd.V_drewN | apply Kd.V_drew)); exact HO2.out) (Kd.N_base ho10) hb); have n2_ := Aside0.mk (Kd.N_lower ho10 (below_size (by repeat (first | (with_reducible first | exact HB.out | apply below_alloc | apply pw_below_drewN | apply below_drew1 | refine below_set ?_ GE18101.out) | exact HB.out)))); have n3_ := Aside0.mk (blk_below (g := gb18101) (o := .cells #[.int .i64 a0_0, .int .i64 a0_1] 23 (0, 0)) (by (with_reducible repeat (first | refine blk_drewN ?_ _ | refine blk_drew ?_ | refine blk_alloc ?_ _)); exact BK18101.out) hb); have n4_ := Aside0.mk (below_step (by repeat (first | (with_reducible first | exact HB.out | apply below_alloc | apply pw_below_drewN | apply below_drew1 | refine below_set ?_ GE18101.out) | exact HB.out)) hb); clear HO1; clear HO2; clear BK18101; clear HB; have HO1 := n0_; have HO2 := n1_; have HO18104 := n2_; have BK18101 := n3_; have HB := n4_; clear n0_ n1_ n2_ n3_ n4_; clear hb ho10; obtain ⟨Ao11, co11, eo11⟩ := Kd.N_slice HO18104.out; subst eo11) | ((with_reducible refine gate_callee (f := 59) rfl ?_); refine goesL_ (some 14) rfl rfl Try.func59 (by kernel_rfl) rfl #[.agg #[.int .i64 a0_0, .int .i64 a0_1], .slice Ao11 y18102.length co11] rfl (by (try simp only [List.map_toArray, List.map_cons, List.map_nil]); first | done | rfl | (simp only [List.length_drop, List.length_take]; rfl)) ?_; (with_reducible refine (codes_checkCodes.calls a0_0 a0_1 _ _ y18102 t18105 _ ?side1 ?side2 A4.out).mono ?_); (case side1 => repeat (first | exact (Kd.N_reads' HO18104.out).2.2 | (with_reducible refine Kd.C_alloc ?_ _) | (with_reducible refine Kd.C_drewN ?_ _) | (with_reducible refine Kd.C_drew ?_))); (case side2 => exact (Kd.N_reads' HO18104.out).2.1); rintro e w12 ⟨rfl, hb⟩; refine ⟨_, rfl, ?_⟩; have n0_ := Aside0.mk (Kd.V_below (by (with_reducible repeat (first | apply Kd.V_alloc | apply Kd.V_drewN | apply Kd.V_drew)); exact HO1.out) hb); have n1_ := Aside0.mk (Kd.V_below (by (with_reducible repeat (first | apply Kd.V_alloc | apply Kd.V_drewN | apply Kd.V_drew)); exact HO2.out) hb); have n2_ := Aside0.mk (Kd.N_below (by (with_reducible repeat (first | apply Kd.N_alloc | apply Kd.N_drewN | apply Kd.N_drew)); exact HO18104.out) hb); have n3_ := Aside0.mk (blk_below (g := gb18101) (o := .cells #[.int .i64 a0_0, .int .i64 a0_1] 23 (0, 0)) (by (with_reducible repeat (first | refine blk_drewN ?_ _ | refine blk_drew ?_ | refine blk_alloc ?_ _)); exact BK18101.out) hb); have n4_ := Aside0.mk (below_step (by repeat (first | (with_reducible first | exact HB.out | apply below_alloc | apply pw_below_drewN | apply below_drew1 | refine below_set ?_ GE18101.out) | exact HB.out)) hb); clear HO1; clear HO2; clear HO18104; clear BK18101; clear HB; have HO1 := n0_; have HO2 := n1_; have HO18104 := n2_; have BK18101 := n3_; have HB := n4_; clear n0_ n1_ n2_ n3_ n4_; (try clear hb); (try clear hb2); (try clear hk); (try clear hi)) | ((with_reducible refine gate_callee (f := 60) rfl ?_); refine goesL_ (some 21) rfl rfl Try.func60 (by kernel_rfl) rfl #[.slice A1 l1.length c1, .slice A2 l2.length c2] rfl (by (try simp only [List.map_toArray, List.map_cons, List.map_nil]); first | done | rfl | (simp only [List.length_drop, List.length_take]; rfl)) ?_; (with_reducible refine (codes_answer.calls _ _ l1 _ _ l2 t18106 t18107 _ ?side1 ?side2 ?side3 ?side4 A6.out).mono ?_); (case side1 => repeat (first | exact (Kd.V_reads' HO1.out).2.2 | (with_reducible refine Kd.C_alloc ?_ _) | (with_reducible refine Kd.C_drewN ?_ _) | (with_reducible refine Kd.C_drew ?_))); (case side2 => exact (Kd.V_reads' HO1.out).2.1); (case side3 => repeat (first | exact (Kd.V_reads' HO2.out).2.2 | (with_reducible refine Kd.C_alloc ?_ _) | (with_reducible refine Kd.C_drewN ?_ _) | (with_reducible refine Kd.C_drew ?_))); (case side4 => exact (Kd.V_reads' HO2.out).2.1); rintro e w13 ⟨rfl, hb⟩; refine ⟨_, rfl, ?_⟩; have n0_ := Aside0.mk (Kd.V_below (by (with_reducible repeat (first | apply Kd.V_alloc | apply Kd.V_drewN | apply Kd.V_drew)); exact HO1.out) hb); have n1_ := Aside0.mk (Kd.V_below (by (with_reducible repeat (first | apply Kd.V_alloc | apply Kd.V_drewN | apply Kd.V_drew)); exact HO2.out) hb); have n2_ := Aside0.mk (Kd.N_below (by (with_reducible repeat (first | apply Kd.N_alloc | apply Kd.N_drewN | apply Kd.N_drew)); exact HO18104.out) hb); have n3_ := Aside0.mk (blk_below (g := gb18101) (o := .cells #[.int .i64 a0_0, .int .i64 a0_1] 23 (0, 0)) (by (with_reducible repeat (first | refine blk_drewN ?_ _ | refine blk_drew ?_ | refine blk_alloc ?_ _)); exact BK18101.out) hb); have n4_ := Aside0.mk (below_step (by repeat (first | (with_reducible first | exact HB.out | apply below_alloc | apply pw_below_drewN | apply below_drew1 | refine below_set ?_ GE18101.out) | exact HB.out)) hb); clear HO1; clear HO2; clear HO18104; clear BK18101; clear HB; have HO1 := n0_; have HO2 := n1_; have HO18104 := n2_; have BK18101 := n3_; have HB := n4_; clear n0_ n1_ n2_ n3_ n4_; (try clear hb); (try clear hb2); (try clear hk); (try clear hi)))
    go_ret3
    exact ⟨by first | rfl | (simp [errW_none, errW_some] <;> rfl) | (simp [*, errW_none, errW_some] <;> rfl), by repeat (first | (with_reducible first | exact HB.out | apply below_alloc | apply pw_below_drewN | apply below_drew1 | refine below_set ?_ GE18101.out) | exact HB.out)⟩
  · rw [if_neg c5] at H
    have c5b0 : (t18105 == 0) = false := beq_eq_false_iff_ne.mpr c5
    have c5b1 : (t18105 != 0) = true := bne_iff_ne.mpr c5
    simp only [Option.some.injEq, Prod.mk.injEq] at H
    obtain ⟨rfl, rfl, rfl⟩ := H
    go_enter Try.func18, Try.ntmps18
    go_wp2_with (first | ((with_reducible refine gate_dst (N := 3) rfl ?_); refine box_event ?hg (N := 3) ?hd (cs := #[.int .i64 a0_0, .int .i64 a0_1]) (t := 23) ?hr ?_; (case hd => rfl); (case hg => rfl); (case hr => first | (go_simp; done) | (go_simp; rfl)); intro gb18101 hg w14 hbox hb; have n0_ := Aside0.mk (Kd.V_below (Kd.V_elderB (by (with_reducible repeat (first | apply Kd.V_alloc | apply Kd.V_drewN | apply Kd.V_drew)); exact HO1.out) gb18101 (Nat.le_of_eq hg.symm)) hb); have n1_ := Aside0.mk (Kd.V_below (Kd.V_elderB (by (with_reducible repeat (first | apply Kd.V_alloc | apply Kd.V_drewN | apply Kd.V_drew)); exact HO2.out) gb18101 (Nat.le_of_eq hg.symm)) hb); have n2_ := Aside0.mk (below_step (by repeat (first | (with_reducible first | exact HB.out | apply below_alloc | apply pw_below_drewN | apply below_drew1) | exact HB.out)) hb); have n3_ := Aside0.mk (hbox); have n4_ := Aside0.mk ((by rw [hg]; exact (below_size (by repeat (first | (with_reducible first | exact HB.out | apply below_alloc | apply pw_below_drewN | apply below_drew1) | exact HB.out))) : w.heap.size ≤ gb18101)); have n5_ := Aside0.mk ((by rw [hg]; exact (below_size (by repeat (first | (with_reducible first | exact HB.out | apply below_alloc | apply pw_below_drewN | apply below_drew1) | exact HB.out))) : w.heap.size ≤ gb18101)); clear HO1; clear HO2; clear HB; have HO1 := n0_; have HO2 := n1_; have HB := n2_; have BK18101 := n3_; have GW18101 := n4_; have GE18101 := n5_; clear n0_ n1_ n2_ n3_ n4_ n5_; clear hb hbox hg; have hcz15_0 : w14.cell? ⟨gb18101, 0, none⟩ = some (.int .i64 a0_0) := (blk_cell BK18101.out 0).trans rfl; have hcz15_1 : w14.cell? ⟨gb18101, 1, none⟩ = some (.int .i64 a0_1) := (blk_cell BK18101.out 1).trans rfl; have hfz15_0 := blk_frozen BK18101.out 0; have hfz15_1 := blk_frozen BK18101.out 1) | ((with_reducible refine gate_dst (N := 13) rfl ?_); refine Kd.N_lit (Kd.slice 3 (Kd.int .i64)) _ 24 ?hg (N' := 13) ?hd (xs := ([l1, l2] : List (List Int))) (inner := [.slice A1 l1.length c1, .slice A2 l2.length c2]) (ok := (fun k_ => ((P1_ k_ ∨ P2_ k_) ∨ w.heap.size ≤ k_) ∧ k_ ≠ gb18101)) (okp := (fun k_ => ((P1_ k_ ∨ P2_ k_) ∨ w.heap.size ≤ k_) ∧ k_ ≠ gb18101)) ?hr ?hp (fun _ hk => hk) ((show ∀ k_, w14.heap.size ≤ k_ → (fun k_ => ((P1_ k_ ∨ P2_ k_) ∨ w.heap.size ≤ k_) ∧ k_ ≠ gb18101) k_ from fun k_ hk => ⟨(.inr (Nat.le_trans (below_size (by repeat (first | (with_reducible first | exact HB.out | apply below_alloc | apply pw_below_drewN | apply below_drew1 | refine below_set ?_ GE18101.out) | exact HB.out))) hk)), Kd.freshB (g := gb18101) (o := .cells #[.int .i64 a0_0, .int .i64 a0_1] 23 (0, 0)) (by (with_reducible repeat (first | refine blk_drewN ?_ _ | refine blk_drew ?_ | refine blk_alloc ?_ _)); exact BK18101.out) k_ hk⟩) _ (Nat.le_refl _)) (Below.refl _ _) (Nat.le_refl _) (by simp) ?_; (case hd => rfl); (case hg => rfl); (case hr => first | (go_simp; done) | (go_simp; rfl)); (case hp => exact (Reps.one (show Kd.FK (Kd.slice 3 (Kd.int .i64)) _ _ l1 [.slice A1 l1.length c1] from (Kd.FK_slice_mk (Kd.V_reads' (Kd.V_mono (ok' := (fun k_ => ((P1_ k_ ∨ P2_ k_) ∨ w.heap.size ≤ k_) ∧ k_ ≠ gb18101)) (HO1.out) (fun k_ hk => ⟨hk.1, hk.2⟩))).2.1 (Kd.V_F (Kd.V_mono (ok' := (fun k_ => ((P1_ k_ ∨ P2_ k_) ∨ w.heap.size ≤ k_) ∧ k_ ≠ gb18101)) (HO1.out) (fun k_ hk => ⟨hk.1, hk.2⟩))))) (Reps.one (show Kd.FK (Kd.slice 3 (Kd.int .i64)) _ _ l2 [.slice A2 l2.length c2] from (Kd.FK_slice_mk (Kd.V_reads' (Kd.V_mono (ok' := (fun k_ => ((P1_ k_ ∨ P2_ k_) ∨ w.heap.size ≤ k_) ∧ k_ ≠ gb18101)) (HO2.out) (fun k_ hk => ⟨hk.1, hk.2⟩))).2.1 (Kd.V_F (Kd.V_mono (ok' := (fun k_ => ((P1_ k_ ∨ P2_ k_) ∨ w.heap.size ≤ k_) ∧ k_ ≠ gb18101)) (HO2.out) (fun k_ hk => ⟨hk.1, hk.2⟩))))) (Reps.none _ _)))); intro v18103 w16 ho17 hb hg_ hnew_; clear hg_ hnew_; (first | rw [← Ny18102.out] at ho17 | (simp only [Int.reduceToNat] at ho17; rw [← Ny18102.out] at ho17)); have n0_ := Aside0.mk (Kd.V_elder' (by (with_reducible repeat (first | apply Kd.V_alloc | apply Kd.V_drewN | apply Kd.V_drew)); exact HO1.out) (Kd.N_base ho17) hb); have n1_ := Aside0.mk (Kd.V_elder' (by (with_reducible repeat (first | apply Kd.V_alloc | apply Kd.V_drewN | apply Kd.V_drew)); exact HO2.out) (Kd.N_base ho17) hb); have n2_ := Aside0.mk (Kd.N_lower ho17 (below_size (by repeat (first | (with_reducible first | exact HB.out | apply below_alloc | apply pw_below_drewN | apply below_drew1 | refine below_set ?_ GE18101.out) | exact HB.out)))); have n3_ := Aside0.mk (blk_below (g := gb18101) (o := .cells #[.int .i64 a0_0, .int .i64 a0_1] 23 (0, 0)) (by (with_reducible repeat (first | refine blk_drewN ?_ _ | refine blk_drew ?_ | refine blk_alloc ?_ _)); exact BK18101.out) hb); have n4_ := Aside0.mk (below_step (by repeat (first | (with_reducible first | exact HB.out | apply below_alloc | apply pw_below_drewN | apply below_drew1 | refine below_set ?_ GE18101.out) | exact HB.out)) hb); clear HO1; clear HO2; clear BK18101; clear HB; have HO1 := n0_; have HO2 := n1_; have HO18104 := n2_; have BK18101 := n3_; have HB := n4_; clear n0_ n1_ n2_ n3_ n4_; clear hb ho17; obtain ⟨Ao18, co18, eo18⟩ := Kd.N_slice HO18104.out; subst eo18) | ((with_reducible refine gate_callee (f := 59) rfl ?_); refine goesL_ (some 14) rfl rfl Try.func59 (by kernel_rfl) rfl #[.agg #[.int .i64 a0_0, .int .i64 a0_1], .slice Ao18 y18102.length co18] rfl (by (try simp only [List.map_toArray, List.map_cons, List.map_nil]); first | done | rfl | (simp only [List.length_drop, List.length_take]; rfl)) ?_; (with_reducible refine (codes_checkCodes.calls a0_0 a0_1 _ _ y18102 t18105 _ ?side1 ?side2 A4.out).mono ?_); (case side1 => repeat (first | exact (Kd.N_reads' HO18104.out).2.2 | (with_reducible refine Kd.C_alloc ?_ _) | (with_reducible refine Kd.C_drewN ?_ _) | (with_reducible refine Kd.C_drew ?_))); (case side2 => exact (Kd.N_reads' HO18104.out).2.1); rintro e w19 ⟨rfl, hb⟩; refine ⟨_, rfl, ?_⟩; have n0_ := Aside0.mk (Kd.V_below (by (with_reducible repeat (first | apply Kd.V_alloc | apply Kd.V_drewN | apply Kd.V_drew)); exact HO1.out) hb); have n1_ := Aside0.mk (Kd.V_below (by (with_reducible repeat (first | apply Kd.V_alloc | apply Kd.V_drewN | apply Kd.V_drew)); exact HO2.out) hb); have n2_ := Aside0.mk (Kd.N_below (by (with_reducible repeat (first | apply Kd.N_alloc | apply Kd.N_drewN | apply Kd.N_drew)); exact HO18104.out) hb); have n3_ := Aside0.mk (blk_below (g := gb18101) (o := .cells #[.int .i64 a0_0, .int .i64 a0_1] 23 (0, 0)) (by (with_reducible repeat (first | refine blk_drewN ?_ _ | refine blk_drew ?_ | refine blk_alloc ?_ _)); exact BK18101.out) hb); have n4_ := Aside0.mk (below_step (by repeat (first | (with_reducible first | exact HB.out | apply below_alloc | apply pw_below_drewN | apply below_drew1 | refine below_set ?_ GE18101.out) | exact HB.out)) hb); clear HO1; clear HO2; clear HO18104; clear BK18101; clear HB; have HO1 := n0_; have HO2 := n1_; have HO18104 := n2_; have BK18101 := n3_; have HB := n4_; clear n0_ n1_ n2_ n3_ n4_; (try clear hb); (try clear hb2); (try clear hk); (try clear hi)))
    go_ret3
    exact ⟨by first | rfl | (simp [errW_none, errW_some] <;> rfl) | (simp [*, errW_none, errW_some] <;> rfl), by repeat (first | (with_reducible first | exact HB.out | apply below_alloc | apply pw_below_drewN | apply below_drew1 | refine below_set ?_ GE18101.out) | exact HB.out)⟩
def codes_CheckCode.f (a0_0 : Int) (a0_1 : Int) (l1 : List Int) : Option (Int) := (codes_checkCodes.f a0_0 a0_1 (([l1] : List (List Int)))).bind fun t28105 => (some t28105)
set_option maxHeartbeats 8000000 in
set_option maxRecDepth 100000 in
theorem codes_CheckCode.calls (a0_0 : Int) (a0_1 : Int) (P1_ : Nat → Prop) (A1 : Option Addr) (c1 : Nat) (l1 : List Int) (r : Int) (w : World) (hs1 : Kd.V (Kd.int .i64) 3 w w.heap.size (fun k_ => P1_ k_) (.slice A1 l1.length c1) l1) (h : codes_CheckCode.f a0_0 a0_1 l1 = some r) :
    Calls Try.prog 28 #[.agg #[.int .i64 a0_0, .int .i64 a0_1], .slice A1 l1.length c1] w fun e w' => e = .returned (.int .i64 r) ∧ Below w.heap.size w w' := by
  have hu23 := Try.underlying23
  have HO1 := Aside0.mk (show Kd.V (Kd.int .i64) 3 w w.heap.size (fun k_ => (P1_ k_ ∨ w.heap.size ≤ k_)) (.slice A1 l1.length c1) l1 from Kd.V_mono hs1 (fun k_ hk => .inl hk))
  have HB := Aside0.mk (Below.refl w.heap.size w)
  have H : ((codes_checkCodes.f a0_0 a0_1 (([l1] : List (List Int)))).bind fun t28105 => (some t28105)) = some r := h
  clear h
  obtain ⟨y28102, hy28102⟩ : ∃ y_ : List (List Int), y_ = (([l1] : List (List Int))) := ⟨_, rfl⟩
  replace H : ((codes_checkCodes.f a0_0 a0_1 y28102).bind fun t28105 => (some t28105)) = some r := by first | (rw [hy28102]; with_reducible exact H) | (have H2_ := (Option.bind_some _ _).symm.trans H; rw [hy28102]; with_reducible exact H2_) | (have H2_ := (Option.bind_some _ _).symm.trans H; with_reducible exact H2_) | with_reducible exact H | (rw [hy28102]; exact H) | exact H
  have Ny28102 := Aside0.mk hy28102
  clear hy28102
  replace H := Option.bind_eq_some_iff.mp H
  obtain ⟨t28105, A30, H⟩ := H
  replace H : (some t28105) = some r := H
  have A3 := Aside0.mk A30
  clear A30
  obtain rfl := Option.some.inj H
  go_enter Try.func28, Try.ntmps28
  go_wp2_with (first | ((with_reducible refine gate_dst (N := 2) rfl ?_); refine box_event ?hg (N := 2) ?hd (cs := #[.int .i64 a0_0, .int .i64 a0_1]) (t := 23) ?hr ?_; (case hd => rfl); (case hg => rfl); (case hr => first | (go_simp; done) | (go_simp; rfl)); intro gb28101 hg w4 hbox hb; have n0_ := Aside0.mk (Kd.V_below (Kd.V_elderB (by (with_reducible repeat (first | apply Kd.V_alloc | apply Kd.V_drewN | apply Kd.V_drew)); exact HO1.out) gb28101 (Nat.le_of_eq hg.symm)) hb); have n1_ := Aside0.mk (below_step (by repeat (first | (with_reducible first | exact HB.out | apply below_alloc | apply pw_below_drewN | apply below_drew1) | exact HB.out)) hb); have n2_ := Aside0.mk (hbox); have n3_ := Aside0.mk ((by rw [hg]; exact (below_size (by repeat (first | (with_reducible first | exact HB.out | apply below_alloc | apply pw_below_drewN | apply below_drew1) | exact HB.out))) : w.heap.size ≤ gb28101)); have n4_ := Aside0.mk ((by rw [hg]; exact (below_size (by repeat (first | (with_reducible first | exact HB.out | apply below_alloc | apply pw_below_drewN | apply below_drew1) | exact HB.out))) : w.heap.size ≤ gb28101)); clear HO1; clear HB; have HO1 := n0_; have HB := n1_; have BK28101 := n2_; have GW28101 := n3_; have GE28101 := n4_; clear n0_ n1_ n2_ n3_ n4_; clear hb hbox hg; have hcz5_0 : w4.cell? ⟨gb28101, 0, none⟩ = some (.int .i64 a0_0) := (blk_cell BK28101.out 0).trans rfl; have hcz5_1 : w4.cell? ⟨gb28101, 1, none⟩ = some (.int .i64 a0_1) := (blk_cell BK28101.out 1).trans rfl; have hfz5_0 := blk_frozen BK28101.out 0; have hfz5_1 := blk_frozen BK28101.out 1) | ((with_reducible refine gate_dst (N := 7) rfl ?_); refine Kd.N_lit (Kd.slice 3 (Kd.int .i64)) _ 24 ?hg (N' := 7) ?hd (xs := ([l1] : List (List Int))) (inner := [.slice A1 l1.length c1]) (ok := (fun k_ => (P1_ k_ ∨ w.heap.size ≤ k_) ∧ k_ ≠ gb28101)) (okp := (fun k_ => (P1_ k_ ∨ w.heap.size ≤ k_) ∧ k_ ≠ gb28101)) ?hr ?hp (fun _ hk => hk) ((show ∀ k_, w4.heap.size ≤ k_ → (fun k_ => (P1_ k_ ∨ w.heap.size ≤ k_) ∧ k_ ≠ gb28101) k_ from fun k_ hk => ⟨(.inr (Nat.le_trans (below_size (by repeat (first | (with_reducible first | exact HB.out | apply below_alloc | apply pw_below_drewN | apply below_drew1 | refine below_set ?_ GE28101.out) | exact HB.out))) hk)), Kd.freshB (g := gb28101) (o := .cells #[.int .i64 a0_0, .int .i64 a0_1] 23 (0, 0)) (by (with_reducible repeat (first | refine blk_drewN ?_ _ | refine blk_drew ?_ | refine blk_alloc ?_ _)); exact BK28101.out) k_ hk⟩) _ (Nat.le_refl _)) (Below.refl _ _) (Nat.le_refl _) (by simp) ?_; (case hd => rfl); (case hg => rfl); (case hr => first | (go_simp; done) | (go_simp; rfl)); (case hp => exact (Reps.one (show Kd.FK (Kd.slice 3 (Kd.int .i64)) _ _ l1 [.slice A1 l1.length c1] from (Kd.FK_slice_mk (Kd.V_reads' (Kd.V_mono (ok' := (fun k_ => (P1_ k_ ∨ w.heap.size ≤ k_) ∧ k_ ≠ gb28101)) (HO1.out) (fun k_ hk => ⟨hk.1, hk.2⟩))).2.1 (Kd.V_F (Kd.V_mono (ok' := (fun k_ => (P1_ k_ ∨ w.heap.size ≤ k_) ∧ k_ ≠ gb28101)) (HO1.out) (fun k_ hk => ⟨hk.1, hk.2⟩))))) (Reps.none _ _))); intro v28103 w6 ho7 hb hg_ hnew_; clear hg_ hnew_; (first | rw [← Ny28102.out] at ho7 | (simp only [Int.reduceToNat] at ho7; rw [← Ny28102.out] at ho7)); have n0_ := Aside0.mk (Kd.V_elder' (by (with_reducible repeat (first | apply Kd.V_alloc | apply Kd.V_drewN | apply Kd.V_drew)); exact HO1.out) (Kd.N_base ho7) hb); have n1_ := Aside0.mk (Kd.N_lower ho7 (below_size (by repeat (first | (with_reducible first | exact HB.out | apply below_alloc | apply pw_below_drewN | apply below_drew1 | refine below_set ?_ GE28101.out) | exact HB.out)))); have n2_ := Aside0.mk (blk_below (g := gb28101) (o := .cells #[.int .i64 a0_0, .int .i64 a0_1] 23 (0, 0)) (by (with_reducible repeat (first | refine blk_drewN ?_ _ | refine blk_drew ?_ | refine blk_alloc ?_ _)); exact BK28101.out) hb); have n3_ := Aside0.mk (below_step (by repeat (first | (with_reducible first | exact HB.out | apply below_alloc | apply pw_below_drewN | apply below_drew1 | refine below_set ?_ GE28101.out) | exact HB.out)) hb); clear HO1; clear BK28101; clear HB; have HO1 := n0_; have HO28104 := n1_; have BK28101 := n2_; have HB := n3_; clear n0_ n1_ n2_ n3_; clear hb ho7; obtain ⟨Ao8, co8, eo8⟩ := Kd.N_slice HO28104.out; subst eo8) | ((with_reducible refine gate_callee (f := 59) rfl ?_); refine goesL_ (some 8) rfl rfl Try.func59 (by kernel_rfl) rfl #[.agg #[.int .i64 a0_0, .int .i64 a0_1], .slice Ao8 y28102.length co8] rfl (by (try simp only [List.map_toArray, List.map_cons, List.map_nil]); first | done | rfl | (simp only [List.length_drop, List.length_take]; rfl)) ?_; (with_reducible refine (codes_checkCodes.calls a0_0 a0_1 _ _ y28102 t28105 _ ?side1 ?side2 A3.out).mono ?_); (case side1 => repeat (first | exact (Kd.N_reads' HO28104.out).2.2 | (with_reducible refine Kd.C_alloc ?_ _) | (with_reducible refine Kd.C_drewN ?_ _) | (with_reducible refine Kd.C_drew ?_))); (case side2 => exact (Kd.N_reads' HO28104.out).2.1); rintro e w9 ⟨rfl, hb⟩; refine ⟨_, rfl, ?_⟩; have n0_ := Aside0.mk (Kd.V_below (by (with_reducible repeat (first | apply Kd.V_alloc | apply Kd.V_drewN | apply Kd.V_drew)); exact HO1.out) hb); have n1_ := Aside0.mk (Kd.N_below (by (with_reducible repeat (first | apply Kd.N_alloc | apply Kd.N_drewN | apply Kd.N_drew)); exact HO28104.out) hb); have n2_ := Aside0.mk (blk_below (g := gb28101) (o := .cells #[.int .i64 a0_0, .int .i64 a0_1] 23 (0, 0)) (by (with_reducible repeat (first | refine blk_drewN ?_ _ | refine blk_drew ?_ | refine blk_alloc ?_ _)); exact BK28101.out) hb); have n3_ := Aside0.mk (below_step (by repeat (first | (with_reducible first | exact HB.out | apply below_alloc | apply pw_below_drewN | apply below_drew1 | refine below_set ?_ GE28101.out) | exact HB.out)) hb); clear HO1; clear HO28104; clear BK28101; clear HB; have HO1 := n0_; have HO28104 := n1_; have BK28101 := n2_; have HB := n3_; clear n0_ n1_ n2_ n3_; (try clear hb); (try clear hb2); (try clear hk); (try clear hi)))
  go_ret
  exact ⟨by first | rfl | (simp [errW_none, errW_some] <;> rfl) | (simp [*, errW_none, errW_some] <;> rfl), by repeat (first | (with_reducible first | exact HB.out | apply below_alloc | apply pw_below_drewN | apply below_drew1 | refine below_set ?_ GE28101.out) | exact HB.out)⟩
end Go.Proofs.Ytimkchehdaadeaa.P
end
