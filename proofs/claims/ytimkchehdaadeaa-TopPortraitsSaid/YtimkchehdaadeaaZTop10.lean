/- Part 10 of a proof: the statement TopPortraits: for every input its law returns true (its texts without what nothing here names). -/
import Derived.Test.YtimkchehdaadeaaZTop9
import Derived.Shelf.Abstract
namespace Go.Proofs.Ytimkchehdaadeaa.P
open Go.RowKit Go.Shelf Go.Proofs.YtimkchehdaadeaaW.PrintWords Go.Proofs.YtimkchehdaadeaaW.PrintLast Go.Proofs.YtimkchehdaadeaaW.PrintMore
set_option linter.unusedVariables false
set_option linter.unusedSimpArgs false
def idxI {α : Type} (p : α → Bool) (xs : List α) : Int := match xs.findIdx? p with | some i => (i : Int) | none => -1
theorem idxI_hit {α : Type} (p : α → Bool) (xs : List α) (k : Nat) (h : k < xs.length) (hp : p xs[k] = true) (hn : ∀ j (hj : j < k), p (xs[j]'(by omega)) = false) : idxI p xs = k := by
  have : xs.findIdx? p = some k := List.findIdx?_eq_some_iff_getElem.mpr ⟨h, hp, fun j hj => by rw [hn j hj]; simp⟩
  unfold idxI; rw [this]
theorem idxI_miss {α : Type} (p : α → Bool) (xs : List α) (hn : ∀ x ∈ xs, p x = false) : idxI p xs = -1 := by
  have : xs.findIdx? p = none := by simpa [List.findIdx?_eq_none_iff] using hn
  unfold idxI; rw [this]
theorem idxI_nonneg {α : Type} (p : α → Bool) (xs : List α) : decide (0 ≤ idxI p xs) = xs.any p := by
  unfold idxI
  cases h : xs.findIdx? p with
  | none =>
    rw [List.findIdx?_eq_none_iff] at h
    have : xs.any p = false := by simpa using h
    rw [this]; rfl
  | some i =>
    obtain ⟨hi, hp, _⟩ := List.findIdx?_eq_some_iff_getElem.mp h
    have : xs.any p = true := List.any_eq_true.mpr ⟨_, List.getElem_mem hi, hp⟩
    rw [this]; simp
def Asks (g : Nat) (lb : Array Value) (v : Value) (b : Bool) (W : World) : Prop :=
  Calls Try.prog g (#[v] ++ lb) W fun e W' => e = .returned (.bool b) ∧ Below W.heap.size W W'
set_option maxHeartbeats 4000000 in
set_option maxRecDepth 100000 in
theorem index_int (g : Nat) (lb : Array Value) (eg : ∀ args w, (callFunc g args).run Try.prog w = .ok (.enter g args) w) (p : Int → Bool) (A : Option Addr) (c : Nat) (xs : List (Int)) (w : World)
    (hr : Kd.C (Kd.int .i64) w A xs.length xs) (hc : xs.length ≤ c) (hp : ∀ x ∈ xs, ∀ W, Below w.heap.size w W → Asks g lb (.int .i64 x) (p x) W) :
    Calls Try.prog 117 #[.slice A xs.length c, .func (.func g) #[] lb] w fun e w' => e = .returned (.int .i64 (idxI p xs)) ∧ Below w.heap.size w w' := by
  have hmx := Kd.C_max hr
  have HR := Aside0.mk hr
  have HP := Aside0.mk hp
  clear hr hp
  go_enter Try.func117, Try.ntmps117
  go_wp2
  go_loopw [8] (fun v8 wr => ∃ k : Nat, Aside0 (k ≤ xs.length) ∧ v8 = .int .i64 k ∧ Aside0 (∀ j (hj : j < k) (hx : j < xs.length), p xs[j] = false) ∧ Aside0 (Below w.heap.size w wr)) (fun v8 _ => xs.length - (intOf v8).toNat)
  case atStart => exact ⟨0, ⟨Nat.zero_le _⟩, rfl, ⟨fun j hj => absurd hj (Nat.not_lt_zero _)⟩, ⟨Below.refl _ _⟩⟩
  case round =>
    obtain ⟨k, hk, rfl, HN, HB⟩ := hrel
    by_cases hlt : k < xs.length
    · obtain ⟨ad, e0, hcx⟩ := Kd.at_int HR.out (k : Int) (by omega) (by omega)
      rw [Int.toNat_natCast] at hcx
      replace hcx := (HB.out.cell (World.block_lt_of_cell? w _ hcx)).trans hcx
      subst e0
      have hx : rd xs k = xs[k] := by simp [rd, List.getD_eq_getElem?_getD, List.getElem?_eq_getElem hlt]
      rw [hx] at hcx
      have hask := HP.out xs[k] (List.getElem_mem hlt) wr HB.out
      obtain ⟨x, hxx⟩ : ∃ x, x = xs[k] := ⟨_, rfl⟩
      rw [← hxx] at hcx hask
      unfold Asks at hask
      obtain ⟨b, hb⟩ : ∃ b, b = p x := ⟨_, rfl⟩
      rw [← hb] at hask
      have HX := Aside0.mk hxx
      have HPB := Aside0.mk hb
      clear hxx hb hx
      have hask' := Aside0.mk hask
      clear hask
      cases b with
      | true =>
        go_wp2_with (go_at_fn g; refine hask'.out.mono ?_; rintro e w' ⟨rfl, hb'⟩)
        go_ret
        refine ⟨?_, below_then HB.out HB.out.size hb'⟩
        exact ret_int (Eq.symm <| idxI_hit p xs k hlt (by rw [← HX.out]; exact HPB.out.symm) (fun j hj => HN.out j hj (by omega)))
      | false =>
        go_wp2_with (go_at_fn g; refine hask'.out.mono ?_; rintro e w' ⟨rfl, hb'⟩)
        go_roundw
        case rel =>
          refine ⟨k + 1, ⟨by omega⟩, by go_num, ⟨fun j hj hx => ?_⟩, ⟨below_then HB.out HB.out.size hb'⟩⟩
          by_cases e : j = k
          · subst e; rw [← HX.out]; exact HPB.out.symm
          · exact HN.out j (by omega) hx
        case measure => simp [intOf]; omega
    · have hk' : k = xs.length := by have := hk.out; omega
      subst hk'
      go_wp2
      go_ret
      refine ⟨?_, HB.out⟩
      exact ret_int (Eq.symm <| idxI_miss p xs (fun x hx => by obtain ⟨j, hj, rfl⟩ := List.getElem_of_mem hx; exact HN.out j hj hj))
set_option maxHeartbeats 4000000 in
set_option maxRecDepth 100000 in
theorem contains_int (g : Nat) (lb : Array Value) (eg : ∀ args w, (callFunc g args).run Try.prog w = .ok (.enter g args) w) (p : Int → Bool) (A : Option Addr) (c : Nat) (xs : List (Int)) (w : World)
    (hr : Kd.C (Kd.int .i64) w A xs.length xs) (hc : xs.length ≤ c) (hp : ∀ x ∈ xs, ∀ W, Below w.heap.size w W → Asks g lb (.int .i64 x) (p x) W) :
    Calls Try.prog 112 #[.slice A xs.length c, .func (.func g) #[] lb] w fun e w' => e = .returned (.bool (xs.any p)) ∧ Below w.heap.size w w' := by
  have HI := Aside0.mk (index_int g lb eg p A c xs w hr hc hp)
  have HN := Aside0.mk (idxI_nonneg p xs)
  obtain ⟨n, hn⟩ : ∃ n, n = idxI p xs := ⟨_, rfl⟩
  rw [← hn] at HI HN
  clear hn hr hp
  go_enter Try.func112, Try.ntmps112
  go_wp2_with (go_at_call 117; refine HI.out.mono ?_; rintro e w' ⟨rfl, hb'⟩)
  go_ret
  exact ⟨ret_bool HN.out, hb'⟩
set_option maxHeartbeats 4000000 in
set_option maxRecDepth 100000 in
theorem index_clue (g : Nat) (lb : Array Value) (eg : ∀ args w, (callFunc g args).run Try.prog w = .ok (.enter g args) w) (p : S36 → Bool) (A : Option Addr) (c : Nat) (xs : List (S36)) (w : World)
    (hr : Kd.C k36 w A xs.length xs) (hc : xs.length ≤ c) (hp : ∀ x ∈ xs, ∀ W, Below w.heap.size w W → ∀ A0 c0, x.f5.length ≤ c0 → Kd.C (Kd.int .i64) W A0 x.f5.length x.f5 → Asks g lb (.agg #[.int .i64 x.f0, .int .i64 x.f1, .int .i64 x.f2, .int .i64 x.f3, .int .i64 x.f4, .slice A0 x.f5.length c0, .bool x.f6]) (p x) W) :
    Calls Try.prog 94 #[.slice A xs.length c, .func (.func g) #[] lb] w fun e w' => e = .returned (.int .i64 (idxI p xs)) ∧ Below w.heap.size w w' := by
  have hmx := Kd.C_max hr
  have HR := Aside0.mk hr
  have HP := Aside0.mk hp
  clear hr hp
  go_enter Try.func94, Try.ntmps94
  go_wp2
  go_loopw [8] (fun v8 wr => ∃ k : Nat, Aside0 (k ≤ xs.length) ∧ v8 = .int .i64 k ∧ Aside0 (∀ j (hj : j < k) (hx : j < xs.length), p xs[j] = false) ∧ Aside0 (Below w.heap.size w wr)) (fun v8 _ => xs.length - (intOf v8).toNat)
  case atStart => exact ⟨0, ⟨Nat.zero_le _⟩, rfl, ⟨fun j hj => absurd hj (Nat.not_lt_zero _)⟩, ⟨Below.refl _ _⟩⟩
  case round =>
    obtain ⟨k, hk, rfl, HN, HB⟩ := hrel
    by_cases hlt : k < xs.length
    · obtain ⟨ad, A0, c0, e0, hc0, hc1, hc2, hc3, hc4, hc5, hc6, hl5, hi5⟩ := at_T36 HR.out (k : Int) (by omega) (by omega)
      rw [Int.toNat_natCast] at hc0
      replace hc0 := (HB.out.cell (World.block_lt_of_cell? w _ hc0)).trans hc0
      rw [Int.toNat_natCast] at hc1
      replace hc1 := (HB.out.cell (World.block_lt_of_cell? w _ hc1)).trans hc1
      rw [Int.toNat_natCast] at hc2
      replace hc2 := (HB.out.cell (World.block_lt_of_cell? w _ hc2)).trans hc2
      rw [Int.toNat_natCast] at hc3
      replace hc3 := (HB.out.cell (World.block_lt_of_cell? w _ hc3)).trans hc3
      rw [Int.toNat_natCast] at hc4
      replace hc4 := (HB.out.cell (World.block_lt_of_cell? w _ hc4)).trans hc4
      rw [Int.toNat_natCast] at hc5
      replace hc5 := (HB.out.cell (World.block_lt_of_cell? w _ hc5)).trans hc5
      rw [Int.toNat_natCast] at hc6
      replace hc6 := (HB.out.cell (World.block_lt_of_cell? w _ hc6)).trans hc6
      subst e0
      have hx : rd_T36 xs k = xs[k] := by simp [rd_T36, List.getD_eq_getElem?_getD, List.getElem?_eq_getElem hlt]
      rw [hx] at hc0 hc1 hc2 hc3 hc4 hc5 hc6 hl5 hi5
      have hask := HP.out xs[k] (List.getElem_mem hlt) wr HB.out A0 c0 hl5 (Kd.C_below hi5 HB.out)
      obtain ⟨x, hxx⟩ : ∃ x, x = xs[k] := ⟨_, rfl⟩
      rw [← hxx] at hc0 hc1 hc2 hc3 hc4 hc5 hc6 hask
      unfold Asks at hask
      obtain ⟨b, hb⟩ : ∃ b, b = p x := ⟨_, rfl⟩
      rw [← hb] at hask
      have HX := Aside0.mk hxx
      have HPB := Aside0.mk hb
      clear hxx hb hx
      have hask' := Aside0.mk hask
      clear hask hl5 hi5
      cases b with
      | true =>
        go_wp2_with (go_at_fn g; refine hask'.out.mono ?_; rintro e w' ⟨rfl, hb'⟩)
        go_ret
        refine ⟨?_, below_then HB.out HB.out.size hb'⟩
        exact ret_int (Eq.symm <| idxI_hit p xs k hlt (by rw [← HX.out]; exact HPB.out.symm) (fun j hj => HN.out j hj (by omega)))
      | false =>
        go_wp2_with (go_at_fn g; refine hask'.out.mono ?_; rintro e w' ⟨rfl, hb'⟩)
        go_roundw
        case rel =>
          refine ⟨k + 1, ⟨by omega⟩, by go_num, ⟨fun j hj hx => ?_⟩, ⟨below_then HB.out HB.out.size hb'⟩⟩
          by_cases e : j = k
          · subst e; rw [← HX.out]; exact HPB.out.symm
          · exact HN.out j (by omega) hx
        case measure => simp [intOf]; omega
    · have hk' : k = xs.length := by have := hk.out; omega
      subst hk'
      go_wp2
      go_ret
      refine ⟨?_, HB.out⟩
      exact ret_int (Eq.symm <| idxI_miss p xs (fun x hx => by obtain ⟨j, hj, rfl⟩ := List.getElem_of_mem hx; exact HN.out j hj hj))
set_option maxHeartbeats 4000000 in
set_option maxRecDepth 100000 in
theorem contains_clue (g : Nat) (lb : Array Value) (eg : ∀ args w, (callFunc g args).run Try.prog w = .ok (.enter g args) w) (p : S36 → Bool) (A : Option Addr) (c : Nat) (xs : List (S36)) (w : World)
    (hr : Kd.C k36 w A xs.length xs) (hc : xs.length ≤ c) (hp : ∀ x ∈ xs, ∀ W, Below w.heap.size w W → ∀ A0 c0, x.f5.length ≤ c0 → Kd.C (Kd.int .i64) W A0 x.f5.length x.f5 → Asks g lb (.agg #[.int .i64 x.f0, .int .i64 x.f1, .int .i64 x.f2, .int .i64 x.f3, .int .i64 x.f4, .slice A0 x.f5.length c0, .bool x.f6]) (p x) W) :
    Calls Try.prog 92 #[.slice A xs.length c, .func (.func g) #[] lb] w fun e w' => e = .returned (.bool (xs.any p)) ∧ Below w.heap.size w w' := by
  have HI := Aside0.mk (index_clue g lb eg p A c xs w hr hc hp)
  have HN := Aside0.mk (idxI_nonneg p xs)
  obtain ⟨n, hn⟩ : ∃ n, n = idxI p xs := ⟨_, rfl⟩
  rw [← hn] at HI HN
  clear hn hr hp
  go_enter Try.func92, Try.ntmps92
  go_wp2_with (go_at_call 94; refine HI.out.mono ?_; rintro e w' ⟨rfl, hb'⟩)
  go_ret
  exact ⟨ret_bool HN.out, hb'⟩
end Go.Proofs.Ytimkchehdaadeaa.P
