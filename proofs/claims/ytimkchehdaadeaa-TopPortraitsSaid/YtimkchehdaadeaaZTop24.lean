/- Part 24 of a proof: the statement TopPortraits: for every input its law returns true (its texts without what nothing here names). -/
import Derived.Test.YtimkchehdaadeaaZTop10
import Derived.Test.YtimkchehdaadeaaZTop23

namespace Go.Proofs.Ytimkchehdaadeaa.P
open Go.RowKit Go.Shelf Go.Proofs.YtimkchehdaadeaaW.PrintWords Go.Proofs.YtimkchehdaadeaaW.PrintLast Go.Proofs.YtimkchehdaadeaaW.PrintMore
set_option linter.unusedVariables false
set_option linter.unusedSimpArgs false
theorem holds_eq (x : S36) (l : List Int) (h : okC x l) : codes_holds.f x.f0 x.f1 x.f2 x.f3 x.f4 x.f5 x.f6 l = some (holdsC x l) := by
  unfold okC at h; unfold codes_holds.f codes_plain.f
  rw [if_pos h]; rfl
def codes_fails.f (l0 : List S36) (l1 : List Int) : Option Int := if ∀ c ∈ l0, okC c l1 then some (idxI (fun c => !holdsC c l1) l0) else none
set_option maxHeartbeats 4000000 in
set_option maxRecDepth 100000 in
theorem ask_fails1 (B : Nat) (x : S36) (l : List Int) (hok : okC x l) (A0 : Option Addr) (c0 : Nat) (A1 : Option Addr) (c1 : Nat) (w : World) (hc : x.f5.length ≤ c0) (hr : Kd.C (Kd.int .i64) w A0 x.f5.length x.f5) (hc1 : l.length ≤ c1) (hr1 : Kd.C (Kd.int .i64) w A1 l.length l) (hb : w.heap[B]? = some (.cells #[.slice A1 l.length c1] 24 (0, 0))) :
    Asks 95 #[.pointer (some ⟨B, 0, none⟩)] (.agg #[.int .i64 x.f0, .int .i64 x.f1, .int .i64 x.f2, .int .i64 x.f3, .int .i64 x.f4, .slice A0 x.f5.length c0, .bool x.f6]) (!holdsC x l) w := by
  have hu36 := Try.underlying36
  have hH := holds_eq x l hok
  obtain ⟨r, hr'⟩ : ∃ r, r = holdsC x l := ⟨_, rfl⟩
  rw [← hr'] at hH ⊢
  clear hr' hok
  obtain ⟨k, a, b, n, m, g, nt⟩ := x
  simp only at hc hr hH ⊢
  have hbl : B < w.heap.size := blk_lt hb
  have hb2 := blk_alloc hb (.cells #[.int .i64 k, .int .i64 a, .int .i64 b, .int .i64 n, .int .i64 m, .slice A0 g.length c0, .bool nt] 36)
  have h0 := (blk_cell hb2 0).trans rfl
  have HC := Aside0.mk fun w1 hr1 hr2 => codes_holds.calls k a b n m A0 c0 g nt A1 c1 l r w1 hr1 hc hr2 hc1 hH
  have HR := Aside0.mk (Kd.C_alloc hr (.cells #[.int .i64 k, .int .i64 a, .int .i64 b, .int .i64 n, .int .i64 m, .slice A0 g.length c0, .bool nt] 36))
  have HR1 := Aside0.mk (Kd.C_alloc hr1 (.cells #[.int .i64 k, .int .i64 a, .int .i64 b, .int .i64 n, .int .i64 m, .slice A0 g.length c0, .bool nt] 36))
  have HB := Aside0.mk ((Below.refl w.heap.size w).alloc (Nat.le_refl _) (.cells #[.int .i64 k, .int .i64 a, .int .i64 b, .int .i64 n, .int .i64 m, .slice A0 g.length c0, .bool nt] 36))
  clear hr hb hb2 hr1 hH
  unfold Asks
  go_enter Try.func95, Try.ntmps95
  go_wp2_with (go_at_call 70; refine (HC.out _ HR.out HR1.out).mono ?_; rintro e w' ⟨rfl, hb'⟩)
  go_ret
  exact ⟨rfl, below_then HB.out HB.out.size hb'⟩
set_option maxHeartbeats 4000000 in
set_option maxRecDepth 100000 in
theorem codes_fails.calls (A0 : Option Addr) (c0 : Nat) (l0 : List S36) (A1 : Option Addr) (c1 : Nat) (l1 : List Int) (r : Int) (w : World) (hr0 : Kd.C k36 w A0 l0.length l0) (hc0 : l0.length ≤ c0) (hr1 : Kd.C (Kd.int .i64) w A1 l1.length l1) (hc1 : l1.length ≤ c1) (h : codes_fails.f l0 l1 = some r) :
    Calls Try.prog 63 #[.slice A0 l0.length c0, .slice A1 l1.length c1] w fun e w' => e = .returned (.int .i64 r) ∧ Below w.heap.size w w' := by
  unfold codes_fails.f at h
  split at h
  case isFalse => cases h
  case isTrue hk =>
  obtain rfl := Option.some.inj h
  clear h
  have HB1 : Aside0 (Below w.heap.size w (w.alloc (.cells #[.slice A1 l1.length c1] 24))) := ⟨(Below.refl _ w).alloc (Nat.le_refl _) _⟩
  have hall := index_clue 95 #[.pointer (some ⟨w.heap.size, 0, none⟩)] (enters_of Try.func95 (by kernel_rfl) rfl) (fun c => !holdsC c l1) A0 c0 l0 (w.alloc (.cells #[.slice A1 l1.length c1] 24)) (Kd.C_alloc hr0 _) hc0
    (fun x hx W hW A2 c2 hc2 hx2 => ask_fails1 w.heap.size x l1 (hk x hx) A2 c2 A1 c1 W hc2 hx2 hc1 (Kd.C_below (Kd.C_alloc hr1 _) hW) (blk_below (blk_new w _) hW))
  obtain ⟨b, hb⟩ : ∃ b, b = idxI (fun c => !holdsC c l1) l0 := ⟨_, rfl⟩
  rw [← hb] at hall ⊢
  have HALL := Aside0.mk hall
  clear hall hb hr0 hr1 hk
  go_enter Try.func63, Try.ntmps63
  go_wp2_with (go_at_call 94; refine HALL.out.mono ?_; rintro e w2 ⟨rfl, hb2⟩)
  go_ret
  exact ⟨rfl, below_then HB1.out (by simp) hb2⟩
end Go.Proofs.Ytimkchehdaadeaa.P
