/- works: the look at the chapter's example comes to true. -/
import Derived.Test.YtimkchehdaadeaaPx5
import Derived.Test.YtimkchehdaadeaaPx15
namespace Go.Proofs.Ytimkchehdaadeaa.P
open Go.RowKit Go.Shelf Go.Proofs.YtimkchehdaadeaaW.PrintWords Go.Proofs.YtimkchehdaadeaaW.PrintLast Go.Proofs.YtimkchehdaadeaaW.PrintMore
set_option linter.unusedVariables false
set_option linter.unusedSimpArgs false

def wq0 : S36 := ⟨2, 0, 2, 4, 0, [], false⟩
def wq1 : S36 := ⟨3, 0, 1, 0, 0, [], false⟩
def padlocklaw01_works.f : Option Bool := some true
def wcells : Array Value := #[.int .i64 2, .int .i64 0, .int .i64 2, .int .i64 4, .int .i64 0, .slice none 0 0, .bool false, .int .i64 3, .int .i64 0, .int .i64 1, .int .i64 0, .int .i64 0, .slice none 0 0, .bool false]
theorem works_C {w : World} {B : Nat} (h : w.heap[B]? = some (.cells wcells 36 (0, 0))) : Kd.C k36 w (some ⟨B, 0, none⟩) 2 [wq0, wq1] := by
  have hn : (Kd.int .i64).C w none ([] : List Int).length [] := Kd.C_nil _ _
  refine ⟨rfl, by omega, fun _ => ⟨_, rfl, fun j p hj => ?_⟩⟩
  match j with
  | 0 =>
    obtain rfl := Option.some.inj hj
    refine ⟨_, rfl, k36_mk w wq0 (Nat.le_refl 0) hn, fun i u hu => ?_⟩
    match i with
    | 0 | 1 | 2 | 3 | 4 | 5 | 6 => obtain rfl := Option.some.inj hu; exact (blk_cell h _).trans rfl
    | i + 7 => simp at hu
  | 1 =>
    obtain rfl := Option.some.inj hj
    refine ⟨_, rfl, k36_mk w wq1 (Nat.le_refl 0) hn, fun i u hu => ?_⟩
    match i with
    | 0 | 1 | 2 | 3 | 4 | 5 | 6 => obtain rfl := Option.some.inj hu; exact (blk_cell h _).trans rfl
    | i + 7 => simp at hu
  | j + 2 => simp at hj
set_option maxHeartbeats 8000000 in
set_option maxRecDepth 100000 in
theorem padlocklaw01_works.calls (r : Bool) (w : World) (h : padlocklaw01_works.f = some r) :
    Calls Try.prog 20 #[] w fun e w' => e = .returned (.bool r) ∧ Below w.heap.size w w' := by
  obtain rfl := Option.some.inj h
  have hu23 := Try.underlying23
  have hu36 := Try.underlying36
  have hu24 := Try.underlying24
  have hu31 := Try.underlying31
  have HC := Aside0.mk fun A w1 h1 => codes_Count.calls 3 4 A 2 [wq0, wq1] 5 0 w1 h1 (Nat.le_refl 2) (by decide)
  have HA := Aside0.mk fun A1 A2 w1 (h1 : (Kd.int .i64).C w1 A1 3 [0, 3, 1]) (h2 : (Kd.int .i64).C w1 A2 3 [3, 3, 0]) => codes_Answer.calls 3 4 (fun k => k < w1.heap.size) A1 3 [0, 3, 1] (fun k => k < w1.heap.size) A2 3 [3, 3, 0] 1 1 0 w1 (Kd.V_mk (Nat.le_refl 3) (Kd.C_F (Kd.heap_int .i64) h1)) (Kd.V_mk (Nat.le_refl 3) (Kd.C_F (Kd.heap_int .i64) h2)) (by decide)
  have hb0 := blk_alloc (blk_new w (.cells #[.int .i64 3, .int .i64 4] 23)) (.cells wcells 36)
  have hb1 : ((w.alloc (.cells #[.int .i64 3, .int .i64 4] 23)).alloc (.cells wcells 36)).heap[w.heap.size + 1]? = some (.cells wcells 36 (0, 0)) := by
    have := blk_new (w.alloc (.cells #[.int .i64 3, .int .i64 4] 23)) (.cells wcells 36); rwa [World.size_alloc] at this
  have HB := Aside0.mk (((Below.refl w.heap.size w).alloc (Nat.le_refl _) (.cells #[.int .i64 3, .int .i64 4] 23)).alloc (by simp) (.cells wcells 36))
  have HC1 := Aside0.mk (HC.out _ _ (works_C hb1))
  have HX := Aside0.mk hb0
  clear hb0 hb1 HC
  unfold wcells at HX HC1 HB
  go_enter Try.func20, Try.ntmps20
  go_wp2_with (first | (go_at_call 35; refine HC1.out.mono ?_; rintro e w1 ⟨rfl, h1⟩; have hB1 := blk_below HX.out h1; obtain ⟨hc0, hc1⟩ := cells2 hB1; have HB1 := Aside0.mk (below_then HB.out HB.out.size h1); clear h1) | (go_at_call 18; refine (HA.out _ _ _ (lent_C (x := [0, 3, 1]) (blk_alloc (blk_new w1 _) _) (by decide)) (lent_C (x := [3, 3, 0]) (by have := blk_new (w1.alloc (.cells #[.int .i64 0, .int .i64 3, .int .i64 1] 3)) (.cells #[.int .i64 3, .int .i64 3, .int .i64 0] 3); rw [World.size_alloc] at this; exact this) (by decide))).mono ?_; rintro e w2 ⟨rfl, h2⟩))
  go_ret
  exact ⟨rfl, below_then ((HB1.out.alloc HB1.out.size _).alloc (by have := HB1.out.size; simp; omega) _) (by have := HB1.out.size; simp; omega) h2⟩
end Go.Proofs.Ytimkchehdaadeaa.P
