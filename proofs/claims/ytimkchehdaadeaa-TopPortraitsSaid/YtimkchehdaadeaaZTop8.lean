/- Part 8 of a proof: the statement TopPortraits: for every input its law returns true (its texts without what nothing here names). -/
import Derived.Test.YtimkchehdaadeaaZTop7
import Derived.Test.YtimkchehdaadeaaRows
import Derived.ProofKit
import Derived.OpenShut
import Derived.ChangeOld
import Derived.Below
import Derived.Deep.Slices
import Derived.Deep.Fields
import Derived.WalkKit
section
namespace Go.Proofs.Ytimkchehdaadeaa.P
open Go.ChangeShapes Go.WideShapes Go.ChangeAt Go.RowKit Go.Deep Go.Proofs.YtimkchehdaadeaaW.PrintWords Go.Proofs.YtimkchehdaadeaaW.PrintLast Go.Proofs.YtimkchehdaadeaaW.PrintMore
set_option linter.unusedVariables false
set_option linter.unusedSimpArgs false
set_option maxRecDepth 100000
def Opens {α : Type} (t : TypeId) (d : Kd α) : Prop :=
  ∀ (H : Type) (enc : TypeId × Value → H) (w : World) (fuel : Nat) (cs : List Value) (x : DataW H × List MemPlace), DataW.trod enc Try.prog w 0 (fun _ => true) true fuel t cs = some x → ∃ a : α, d.K w a cs
theorem opens_int {t : TypeId} (ht : Try.prog.underlying t = some (.int .i64)) : Opens t (Kd.int .i64) := fun H enc w fuel cs x h => by
  obtain ⟨n, rfl, _, _⟩ := DataW.trod_int ht h
  exact ⟨n, rfl⟩
theorem opens_bool {t : TypeId} (ht : Try.prog.underlying t = some .bool) : Opens t Kd.bool := fun H enc w fuel cs x h => by
  obtain ⟨n, rfl, _⟩ := DataW.trod_bool ht h
  exact ⟨n, rfl⟩
theorem opens_slice {α : Type} {t e : TypeId} {d : Kd α} (ht : Try.prog.underlying t = some (.slice e)) (hC : Try.prog.cellsOf e = d.sz) (he : Opens e d) (q : Nat) : Opens t (Kd.slice q d) := fun H enc w fuel cs x h => by
  rcases open_slice ht h with ⟨rfl, _⟩ | ⟨a, len, cap, m, n, D, Pl, rfl, _, hl, hm, hmm, _, hi⟩
  · exact ⟨[], none, 0, rfl, Nat.le_refl _, rfl, by simp, fun h => absurd h (Nat.lt_irrefl 0)⟩
  · have hm' : m = cap := by simpa using hmm
    subst hm'
    have hK : ∀ i, i < len → ∃ p : α, ∃ c, c.length = d.sz ∧ d.K w p c ∧ ∀ j u, c[j]? = some u → w.cell? (a.add (i * d.sz + j)) = some u := fun i hil => by
      obtain ⟨cs', hc, ht'⟩ := hi i (by omega)
      obtain ⟨p, hp⟩ := he H enc w n cs' _ ht'
      obtain ⟨_, hcl, hat⟩ := World.cells?_some hc
      rw [hC] at hat hcl
      refine ⟨p, cs', hcl, hp, fun j u hj => ?_⟩
      have hjl : j < cs'.length := (List.getElem?_eq_some_iff.1 hj).1
      rw [← Go.Deep.add_add, hat j (by omega), hj]
    rcases Nat.eq_zero_or_pos len with h0 | h0
    · subst h0
      exact ⟨[], some a, _, rfl, by simp, rfl, by simp, fun h => absurd h (Nat.lt_irrefl 0)⟩
    · obtain ⟨p0, _⟩ := hK 0 h0
      have hf : ∃ f : Nat → α, ∀ i, i < len → ∃ c, c.length = d.sz ∧ d.K w (f i) c ∧ ∀ j u, c[j]? = some u → w.cell? (a.add (i * d.sz + j)) = some u := by
        refine ⟨fun i => if h : i < len then Classical.choose (hK i h) else p0, fun i hil => ?_⟩
        simp only [dif_pos hil]
        exact Classical.choose_spec (hK i hil)
      obtain ⟨f, hf⟩ := hf
      have hlen : ((List.range len).map f).length = len := by simp
      refine ⟨(List.range len).map f, some a, m, by rw [hlen], by rw [hlen]; exact hl, ⟨rfl, by rw [hlen]; exact Nat.le_trans hl hm, fun _ => ⟨a, rfl, fun j p hj => ?_⟩⟩⟩
      rw [List.getElem?_map] at hj
      by_cases hjl : j < len
      · rw [List.getElem?_range hjl] at hj
        obtain rfl := Option.some.inj hj
        exact hf j hjl
      · rw [List.getElem?_eq_none (by simp; omega)] at hj
        cases hj
theorem opens_fields {t : TypeId} {fs : Array Field} (ht : Try.prog.underlying t = some (.struct fs)) {H : Type} {enc : TypeId × Value → H} {w : World} {fuel : Nat} {cs : List Value} {x : DataW H × List MemPlace} (h : DataW.trod enc Try.prog w 0 (fun _ => true) true fuel t cs = some x) :
    cs.length = Try.prog.cellsOf t ∧ ∀ (i : Nat) (ty : TypeId) (c : Value) {β : Type} {d : Kd β}, (fs[i]?.map fun f => (f.type, f.offset)) = some (ty, i) → Try.prog.cellsOf ty = 1 → cs[i]? = some c → Opens ty d → ∃ b, d.K w b [c] := by
  obtain ⟨xs, n, _, _, hlen, hxl, hf⟩ := DataW.trod_struct ht h
  refine ⟨hlen, fun i ty c β d hi h1c hc hd => ?_⟩
  obtain ⟨f, hfi, hfe⟩ := Option.map_eq_some_iff.1 hi
  obtain ⟨rfl, ho⟩ := Prod.mk.inj hfe
  have h1 := hf i f hfi
  have hil : i < fs.size := (Array.getElem?_eq_some_iff.1 hfi).1
  have hcl : i < cs.length := (List.getElem?_eq_some_iff.1 hc).1
  rw [List.getElem?_eq_getElem (by omega), h1c, ho, List.drop_eq_getElem_cons hcl] at h1
  have e : cs[i] = c := (List.getElem?_eq_some_iff.1 hc).2
  rw [e] at h1
  exact hd H enc w n _ _ h1
theorem one3 : Try.prog.cellsOf 3 = 1 := by kernel_rfl
theorem one4 : Try.prog.cellsOf 4 = 1 := by kernel_rfl
theorem opens_3 : Opens 3 (Kd.int .i64) := opens_int Try.underlying3
theorem opens_4 : Opens 4 Kd.bool := opens_bool Try.underlying4
section
variable {H : Type} {enc : TypeId × Value → H} {w : World} {base : Nat} {r : Reach} {v : Value} {x : DataW H} {p : List MemPlace}
theorem arg_slice {α : Type} {t e q : TypeId} {d : Kd α} (ht : Try.prog.underlying t = some (.slice e)) (ho : Opens t (Kd.slice q d)) (hv : Value.okWide Try.prog w r base t v) (h : DataW.Trod enc Try.prog w 0 (fun _ => true) true t v x p) :
    ∃ (A : Option Addr) (c : Nat) (xs : List α), v = .slice A xs.length c ∧ xs.length ≤ c ∧ d.C w A xs.length xs := by
  obtain ⟨a, len, cap, rfl⟩ := okWide_slice ht hv
  obtain ⟨fuel, hf⟩ := h
  obtain ⟨xs, A, c, he, hl, hc⟩ := ho H enc w fuel _ _ hf
  have e : Value.slice a len cap = .slice A xs.length c := (List.cons.inj (show [Value.slice a len cap] = [.slice A xs.length c] from he)).1
  exact ⟨A, c, xs, e, hl, hc⟩
theorem trod_lt' {t : TypeId} (h : DataW.Trod enc Try.prog w 0 (fun _ => true) true t v x p) : ∀ q ∈ p, q.block < w.heap.size := by
  obtain ⟨m, hm⟩ := h
  exact DataW.trod_lt m _ _ _ hm
end
theorem own : ownKnob Try.prog.godebug = none := by kernel_rfl
theorem laidOut : laidOutB Try.prog = true := by kernel_rfl
end Go.Proofs.Ytimkchehdaadeaa.P
end
section
namespace Go.Proofs.Ytimkchehdaadeaa.P
open Go.ChangeShapes Go.WideShapes Go.ChangeAt Go.RowKit Go.Deep Go.Proofs.YtimkchehdaadeaaW.PrintWords Go.Proofs.YtimkchehdaadeaaW.PrintLast Go.Proofs.YtimkchehdaadeaaW.PrintMore
set_option linter.unusedVariables false
set_option linter.unusedSimpArgs false
set_option maxRecDepth 100000
theorem opens_57 : Opens 57 k57 := fun H enc w fuel cs x h => by
  obtain ⟨hl, hf⟩ := opens_fields Try.underlying57 h
  rw [show Try.prog.cellsOf 57 = 5 by kernel_rfl] at hl
  match cs, hl with
  | [c0, c1, c2, c3, c4], _ =>
    obtain ⟨a0, e0⟩ := hf 0 3 c0 rfl one3 rfl opens_3
    obtain ⟨a1, e1⟩ := hf 1 3 c1 rfl one3 rfl opens_3
    obtain ⟨a2, e2⟩ := hf 2 3 c2 rfl one3 rfl opens_3
    obtain ⟨a3, e3⟩ := hf 3 3 c3 rfl one3 rfl opens_3
    obtain ⟨a4, e4⟩ := hf 4 4 c4 rfl one4 rfl opens_4
    obtain rfl : c0 = .int .i64 a0 := (List.cons.inj e0).1
    obtain rfl : c1 = .int .i64 a1 := (List.cons.inj e1).1
    obtain rfl : c2 = .int .i64 a2 := (List.cons.inj e2).1
    obtain rfl : c3 = .int .i64 a3 := (List.cons.inj e3).1
    obtain rfl : c4 = .bool a4 := (List.cons.inj e4).1
    exact ⟨⟨a0, a1, a2, a3, a4⟩, k57_mk w ⟨a0, a1, a2, a3, a4⟩⟩
theorem opens_55 : Opens 55 (Kd.slice 57 k57) := opens_slice Try.underlying55 (by kernel_rfl) opens_57 57
end Go.Proofs.Ytimkchehdaadeaa.P
end
