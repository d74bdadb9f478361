/- codes' lock.count: how many readings. -/
import Derived.Test.YtimkchehdaadeaaHReadIt
import Derived.Test.YtimkchehdaadeaaHOk
namespace Go.Proofs.Ytimkchehdaadeaa.P
open Go.RowKit Go.Shelf Go.Pad Go.Proofs.YtimkchehdaadeaaW.PrintWords Go.Proofs.YtimkchehdaadeaaW.PrintLast Go.Proofs.YtimkchehdaadeaaW.PrintMore
attribute [local go_sem] Oper.semAt_some
set_option linter.unusedVariables false
set_option linter.unusedSimpArgs false

def codes_lock_count.f (W S : Int) (l : List S36) : Option Int := if okLock W S ∧ l.all (validC W S) = true then some ((readingsL S.toNat W.toNat l).length : Nat) else none

set_option maxHeartbeats 8000000 in
set_option maxRecDepth 100000 in
theorem codes_lock_count.calls (a0_0 : Int) (a0_1 : Int) (A1 : Option Addr) (c1 : Nat) (l1 : List S36) (r : Int) (w : World) (hr1 : Kd.C k36 w A1 l1.length l1) (hc1 : l1.length ≤ c1) (h : codes_lock_count.f a0_0 a0_1 l1 = some r) :
    Calls Try.prog 75 #[.agg #[.int .i64 a0_0, .int .i64 a0_1], .slice A1 l1.length c1] w fun e w' => e = .returned (.int .i64 r) ∧ Below w.heap.size w w' := by
  unfold codes_lock_count.f at h
  split at h
  case isFalse => cases h
  case isTrue hk =>
  obtain rfl := Option.some.inj h
  clear h
  obtain ⟨hl, hv⟩ := hk
  obtain ⟨n, s, rfl, rfl, hn1, hn4, hs2, hs10⟩ := lock_nat hl
  have hok := ok_all hl hv
  simp only [Int.toNat_natCast]
  have hlen : (readingsL s n l1).length ≤ 10000 := Nat.le_trans (List.length_filter_le _ _) (codes_many hn4 hs10)
  have HR := Aside0.mk hr1
  have HOK := Aside0.mk hok
  have HLEN := Aside0.mk hlen
  clear hr1 hok hlen hl hv
  refine (callsIn_wide (n := 5)).1 (callsIn_of_wp_marks Try.func75 rfl trivial ?_ rfl)
  simp only [Try.ntmps75, List.size_toArray, List.length_cons, List.length_nil, Nat.reduceAdd, Nat.reduceSub, Array.replicate_succ, Array.replicate_zero, List.push_toArray, List.append_toArray, List.nil_append, List.cons_append]
  gi_wp2_with (first | (refine ⟨trivial, ?_⟩; gi_at_call 72; refine (callsIn_wide.2 (codes_readings.calls _ _ _ rfl _)).mono ?_; rintro e w1 ⟨rfl, rfl⟩))
  obtain ⟨w2, hw2⟩ : ∃ w2, w2 = (((w.alloc (.cells #[.int .i64 n, .int .i64 s] 83)).alloc (.cells #[.int .i64 0] 3)).alloc (.cells #[.int .i64 n, .int .i64 s] 83)).alloc (.cells #[.slice A1 l1.length c1] 31) := ⟨_, rfl⟩
  have hz2 : w2.heap.size = w.heap.size + 4 := by rw [hw2]; simp
  have hnb : w2.heap[w.heap.size + 1]? = some (.cells #[.int .i64 0] 3 (0, 0)) := by
    rw [hw2]; have := blk_new (w.alloc (.cells #[.int .i64 n, .int .i64 s] 83)) (.cells #[.int .i64 0] 3); rw [World.size_alloc] at this; exact blk_alloc (blk_alloc this _) _
  have hlb : w2.heap[w.heap.size + 1 + 1]? = some (.cells #[.int .i64 n, .int .i64 s] 83 (0, 0)) := by
    rw [hw2]; have := blk_new ((w.alloc (.cells #[.int .i64 n, .int .i64 s] 83)).alloc (.cells #[.int .i64 0] 3)) (.cells #[.int .i64 n, .int .i64 s] 83); rw [World.size_alloc, World.size_alloc] at this; exact blk_alloc this _
  have hcb : w2.heap[w.heap.size + 1 + 1 + 1]? = some (.cells #[.slice A1 l1.length c1] 31 (0, 0)) := by
    rw [hw2]; have := blk_new (((w.alloc (.cells #[.int .i64 n, .int .i64 s] 83)).alloc (.cells #[.int .i64 0] 3)).alloc (.cells #[.int .i64 n, .int .i64 s] 83)) (.cells #[.slice A1 l1.length c1] 31); rw [World.size_alloc, World.size_alloc, World.size_alloc] at this; exact this
  have hB2 : Below w.heap.size w w2 := by
    rw [hw2]; exact ((((Below.refl _ w).alloc (Nat.le_refl _) _).alloc (by simp) _).alloc (by simp; omega) _).alloc (by simp; omega) _
  rw [← hw2]
  clear hw2
  refine wpIn_iter (k := 5) (M := fun b => b = w.heap.size + 1) (gf := 100) (lb := #[.pointer (some ⟨w.heap.size + 1 + 1, 0, none⟩), .pointer (some ⟨w.heap.size + 1 + 1 + 1, 0, none⟩)]) rfl (enters_of Try.func100 (by kernel_rfl) rfl)
    (readings_hit n s hn4 ⟨hs2, hs10⟩ l1 A1 c1 _ _ _ w w2 hlb hcb HR.out hc1 hB2 (fun b h => by omega) (fun b h => by omega) (by omega) (by omega) HOK.out)
    (fun b h => by omega) (fun _ => rfl) (fun x A B h hab => lent_apart h hab (by omega))
    (fun pre W => W.heap[w.heap.size + 1]? = some (.cells #[.int .i64 (pre.length : Nat)] 3 (0, 0)) ∧ Below w.heap.size w W) (fun _ _ _ => False) ?hI ?hIx ⟨hnb, hB2⟩
    (fun x => { tmps := #[.agg #[.int .i64 n, .int .i64 s], .slice A1 l1.length c1, .pointer (some ⟨w.heap.size, 0, none⟩), undef, .pointer (some ⟨w.heap.size + 1, 0, none⟩), .agg #[.int .i64 n, .int .i64 s], .slice A1 l1.length c1, .func (.func 100) #[] #[.pointer (some ⟨w.heap.size + 1 + 1, 0, none⟩), .pointer (some ⟨w.heap.size + 1 + 1 + 1, 0, none⟩)], .slice (some ⟨w2.heap.size + 6, 0, none⟩) n n, undef, undef, undef], defers := [] }) ?assign ?body ?done ?stop
  case hI =>
    rintro pre A B ⟨h1, h2⟩ hab
    exact ⟨(hab.block _ (blk_lt h1) (.inl (by omega))).trans h1, below_of_apart h2 hab (by omega) h2.size⟩
  case hIx => exact fun _ _ _ _ h _ => h.elim
  case assign =>
    intro l' x W K hK
    gi_wp2
    simpa using hK
  case body =>
    rintro l' pre x W hpre ⟨h1, h2⟩ hx hsz
    have hc := (blk_cell h1 0).trans rfl
    have hf := blk_frozen h1 0
    have hle : pre.length + 1 ≤ 10000 := by
      have := hpre.length_le
      simp at this
      have := HLEN.out
      omega
    gi_wp2
    refine ⟨⟨blk_put h1 _ _ ?_, h2.setCell (p := ⟨w.heap.size + 1, 0, none⟩) (by show w.heap.size ≤ w.heap.size + 1; omega) _⟩, (KeepM.refl _ _ W).setCell _ _ (.inl rfl)⟩
    rw [List.length_append]; rfl
  case done =>
    rintro W ⟨h1, h2⟩ hK
    have hc := (blk_cell h1 0).trans rfl
    have hf := blk_frozen h1 0
    gi_wp2
    have hK2 : (W.setCell ⟨w.heap.size + 1, 0, none⟩ (.int .i64 ((readingsL s n l1).length : Nat))).heap[w2.heap.size]? = some (.deferred (some [])) := (Below.heap_setCell W _ _ _ (by show w2.heap.size ≠ w.heap.size + 1; omega)).trans hK
    refine ⟨by simp, .inl ⟨_, _, rfl, run_takeDeferred hK2, ?_⟩⟩
    have h3 : ((W.setCell ⟨w.heap.size + 1, 0, none⟩ (.int .i64 ((readingsL s n l1).length : Nat))).putObj w2.heap.size (.deferred none)).heap[w.heap.size + 1]? = some (.cells #[.int .i64 ((readingsL s n l1).length : Nat)] 3 (0, 0)) := (World.putObj_heap_other (by omega)).trans (blk_put h1 0 _ rfl)
    have hc5 := (blk_cell h3 0).trans rfl
    refine ⟨.int .i64 ((readingsL s n l1).length : Nat), ?_, rfl, ?_⟩
    · simp [results, Try.f75, go_sem, hc5]
    · exact below_of_apart (h2.setCell (p := ⟨w.heap.size + 1, 0, none⟩) (by show w.heap.size ≤ w.heap.size + 1; omega) _) ((Apart.refl w.heap.size (w2.heap.size + 1) _).putObj _ _ (by omega) (by omega)) (Nat.le_refl _) (by have := h2.size; simpa [World.setCell] using this)
  case stop => exact fun _ _ _ _ _ h _ => h.elim
end Go.Proofs.Ytimkchehdaadeaa.P
