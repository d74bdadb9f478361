/- Part 45 of a proof: the statement CodesDecoys: for every input its law returns true (its texts without what nothing here names). -/
import Derived.Test.YtimkchehdaadeaaZDecoys6
import Derived.Test.YtimkchehdaadeaaZDecoys9
import Derived.Shelf.Abstract
import Derived.Lib.SliceRun
namespace Go.Proofs.Ytimkchehdaadeaa.P
open Go.RowKit Go.Shelf Go.Proofs.YtimkchehdaadeaaW.PrintWords Go.Proofs.YtimkchehdaadeaaW.PrintLast Go.Proofs.YtimkchehdaadeaaW.PrintMore
set_option linter.unusedVariables false
set_option linter.unusedSimpArgs false
set_option maxHeartbeats 4000000 in
set_option maxRecDepth 100000 in
theorem slices_Clone_Clue.calls (okp : Nat → Prop) (A0 : Option Addr) (c0 : Nat) (l0 : List S36) (w : World) (hr0 : Kd.F k36 w okp A0 l0.length l0) (hlo : ∀ k, okp k → k < w.heap.size) (hc0 : l0.length ≤ c0) (hl : l0.length ≤ 1000) :
    Calls Try.prog 82 #[.slice A0 l0.length c0] w fun e w' => ∃ v : Value, e = .returned v ∧ Kd.N k36 36 w' w.heap.size (fun k => okp k ∨ w.heap.size ≤ k) v l0 ∧ Below w.heap.size w w' := by
  have hu31 := Try.underlying31
  have HR := Aside0.mk hr0
  clear hr0
  have heq := fun (a : Option Addr) (n c : Nat) => Go.Lib.run_eql_slice_nil (P := Try.prog) w 31 36 a n c 0 0 hu31
  cases A0 with
  | none =>
    have e : l0 = [] := by
      cases l0 with
      | nil => rfl
      | cons a l => obtain ⟨ad, e, _⟩ := (Kd.F_now HR.out).2.2 (by simp); cases e
    subst e
    go_enter Try.func82, Try.ntmps82
    go_wp2
    go_ret
    exact ⟨_, rfl, Kd.N_nil _ _ _ _ _, Below.refl _ _⟩
  | some ad =>
    have HO : Aside0 (Kd.N k36 36 (w.alloc (.cells #[] 36)) w.heap.size (fun k => okp k ∨ w.heap.size ≤ k) (.slice (some ⟨w.heap.size, 0, none⟩) 0 0) ([] : List S36)) :=
      ⟨fun k hk => .inr (by have e2 : some w.heap.size = some k := hk
                            injection e2 with e3; omega), [], rfl, ⟨fun k hk => hk.symm, [], World.ownsRow_made w #[] 0 (Nat.le_refl _) (by decide) rfl, ⟨rfl, fun j p hj => by simp at hj⟩⟩, fun j x c hx _ => by simp at hx⟩
    have HF := Aside0.mk (Kd.F_alloc HR.out (.cells #[] 36))
    have HB := Aside0.mk ((Below.refl w.heap.size w).alloc (Nat.le_refl _) (.cells #[] 36))
    go_enter Try.func82, Try.ntmps82
    have hokp : ∀ k, okp k → (okp k ∨ w.heap.size ≤ k) ∧ some k ≠ (Value.slice (some ⟨w.heap.size, 0, none⟩) 0 0).ownBlock := fun k hk => ⟨.inl hk, fun e => by
      have hk := hlo k hk
      have e2 : some k = some w.heap.size := e
      injection e2 with e3; omega⟩
    go_wp2_with (first | ((with_reducible refine gate_builtin (b := .append) (xs := #[.tmp 5, .tmp 6]) rfl ?_); at_builtin; refine Kd.N_append_rows k36 (w0 := w) w.heap.size rfl (.tmp 5) (.tmp 6) 31 36 _ 72 rfl Try.underlying31 info36 rfl (by decide) (by omega) _ [] l0 (some ad) l0.length c0 (fun k => okp k ∨ w.heap.size ≤ k) okp rfl rfl HO.out HF.out hokp (fun k hk => .inr (by simp at hk; omega)) HB.out HB.out.size (by simp; omega) ?_; intro v1 w1 ho hb hg hat; rw [List.nil_append] at ho; have ho1 := Aside0.mk ho; clear ho))
    go_ret
    exact ⟨_, rfl, ho1.out, hb⟩
end Go.Proofs.Ytimkchehdaadeaa.P
