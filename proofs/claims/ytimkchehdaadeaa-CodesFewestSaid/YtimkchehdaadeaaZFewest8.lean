/- Part 8 of a proof: the statement CodesFewest: for every input its law returns true (its texts without what nothing here names). -/
import Derived.Test.YtimkchehdaadeaaZFewest7
import Derived.Test.YtimkchehdaadeaaRows
import Derived.ProofKit
import Derived.OpenShut
import Derived.ChangeOld
import Derived.Below
import Derived.Deep.Slices
import Derived.Deep.Fields
import Derived.WalkKit
section
namespace Go.Proofs.Ytimkchehdaadeaa.P
open Go.ChangeShapes Go.WideShapes Go.ChangeAt Go.RowKit Go.Deep Go.Proofs.YtimkchehdaadeaaW.PrintWords Go.Proofs.YtimkchehdaadeaaW.PrintLast Go.Proofs.YtimkchehdaadeaaW.PrintMore
set_option linter.unusedVariables false
set_option linter.unusedSimpArgs false
set_option maxRecDepth 100000
def Opens {α : Type} (t : TypeId) (d : Kd α) : Prop :=
  ∀ (H : Type) (enc : TypeId × Value → H) (w : World) (fuel : Nat) (cs : List Value) (x : DataW H × List MemPlace), DataW.trod enc Try.prog w 0 (fun _ => true) true fuel t cs = some x → ∃ a : α, d.K w a cs
theorem opens_int {t : TypeId} (ht : Try.prog.underlying t = some (.int .i64)) : Opens t (Kd.int .i64) := fun H enc w fuel cs x h => by
  obtain ⟨n, rfl, _, _⟩ := DataW.trod_int ht h
  exact ⟨n, rfl⟩
theorem opens_bool {t : TypeId} (ht : Try.prog.underlying t = some .bool) : Opens t Kd.bool := fun H enc w fuel cs x h => by
  obtain ⟨n, rfl, _⟩ := DataW.trod_bool ht h
  exact ⟨n, rfl⟩
theorem opens_slice {α : Type} {t e : TypeId} {d : Kd α} (ht : Try.prog.underlying t = some (.slice e)) (hC : Try.prog.cellsOf e = d.sz) (he : Opens e d) (q : Nat) : Opens t (Kd.slice q d) := fun H enc w fuel cs x h => by
  rcases open_slice ht h with ⟨rfl, _⟩ | ⟨a, len, cap, m, n, D, Pl, rfl, _, hl, hm, hmm, _, hi⟩
  · exact ⟨[], none, 0, rfl, Nat.le_refl _, rfl, by simp, fun h => absurd h (Nat.lt_irrefl 0)⟩
  · have hm' : m = cap := by simpa using hmm
    subst hm'
    have hK : ∀ i, i < len → ∃ p : α, ∃ c, c.length = d.sz ∧ d.K w p c ∧ ∀ j u, c[j]? = some u → w.cell? (a.add (i * d.sz + j)) = some u := fun i hil => by
      obtain ⟨cs', hc, ht'⟩ := hi i (by omega)
      obtain ⟨p, hp⟩ := he H enc w n cs' _ ht'
      obtain ⟨_, hcl, hat⟩ := World.cells?_some hc
      rw [hC] at hat hcl
      refine ⟨p, cs', hcl, hp, fun j u hj => ?_⟩
      have hjl : j < cs'.length := (List.getElem?_eq_some_iff.1 hj).1
      rw [← Go.Deep.add_add, hat j (by omega), hj]
    rcases Nat.eq_zero_or_pos len with h0 | h0
    · subst h0
      exact ⟨[], some a, _, rfl, by simp, rfl, by simp, fun h => absurd h (Nat.lt_irrefl 0)⟩
    · obtain ⟨p0, _⟩ := hK 0 h0
      have hf : ∃ f : Nat → α, ∀ i, i < len → ∃ c, c.length = d.sz ∧ d.K w (f i) c ∧ ∀ j u, c[j]? = some u → w.cell? (a.add (i * d.sz + j)) = some u := by
        refine ⟨fun i => if h : i < len then Classical.choose (hK i h) else p0, fun i hil => ?_⟩
        simp only [dif_pos hil]
        exact Classical.choose_spec (hK i hil)
      obtain ⟨f, hf⟩ := hf
      have hlen : ((List.range len).map f).length = len := by simp
      refine ⟨(List.range len).map f, some a, m, by rw [hlen], by rw [hlen]; exact hl, ⟨rfl, by rw [hlen]; exact Nat.le_trans hl hm, fun _ => ⟨a, rfl, fun j p hj => ?_⟩⟩⟩
      rw [List.getElem?_map] at hj
      by_cases hjl : j < len
      · rw [List.getElem?_range hjl] at hj
        obtain rfl := Option.some.inj hj
        exact hf j hjl
      · rw [List.getElem?_eq_none (by simp; omega)] at hj
        cases hj
theorem opens_fields {t : TypeId} {fs : Array Field} (ht : Try.prog.underlying t = some (.struct fs)) {H : Type} {enc : TypeId × Value → H} {w : World} {fuel : Nat} {cs : List Value} {x : DataW H × List MemPlace} (h : DataW.trod enc Try.prog w 0 (fun _ => true) true fuel t cs = some x) :
    cs.length = Try.prog.cellsOf t ∧ ∀ (i : Nat) (ty : TypeId) (c : Value) {β : Type} {d : Kd β}, (fs[i]?.map fun f => (f.type, f.offset)) = some (ty, i) → Try.prog.cellsOf ty = 1 → cs[i]? = some c → Opens ty d → ∃ b, d.K w b [c] := by
  obtain ⟨xs, n, _, _, hlen, hxl, hf⟩ := DataW.trod_struct ht h
  refine ⟨hlen, fun i ty c β d hi h1c hc hd => ?_⟩
  obtain ⟨f, hfi, hfe⟩ := Option.map_eq_some_iff.1 hi
  obtain ⟨rfl, ho⟩ := Prod.mk.inj hfe
  have h1 := hf i f hfi
  have hil : i < fs.size := (Array.getElem?_eq_some_iff.1 hfi).1
  have hcl : i < cs.length := (List.getElem?_eq_some_iff.1 hc).1
  rw [List.getElem?_eq_getElem (by omega), h1c, ho, List.drop_eq_getElem_cons hcl] at h1
  have e : cs[i] = c := (List.getElem?_eq_some_iff.1 hc).2
  rw [e] at h1
  exact hd H enc w n _ _ h1
theorem one3 : Try.prog.cellsOf 3 = 1 := by kernel_rfl
theorem one4 : Try.prog.cellsOf 4 = 1 := by kernel_rfl
theorem one24 : Try.prog.cellsOf 24 = 1 := by kernel_rfl
theorem opens_3 : Opens 3 (Kd.int .i64) := opens_int Try.underlying3
theorem opens_4 : Opens 4 Kd.bool := opens_bool Try.underlying4
theorem opens_24 : Opens 24 (Kd.slice 3 (Kd.int .i64)) := opens_slice Try.underlying24 (by kernel_rfl) opens_3 3
theorem opens_23 : Opens 23 k23 := fun H enc w fuel cs x h => by
  obtain ⟨hl, hf⟩ := opens_fields Try.underlying23 h
  rw [show Try.prog.cellsOf 23 = 2 by kernel_rfl] at hl
  match cs, hl with
  | [c0, c1], _ =>
    obtain ⟨a0, e0⟩ := hf 0 3 c0 rfl one3 rfl opens_3
    obtain ⟨a1, e1⟩ := hf 1 3 c1 rfl one3 rfl opens_3
    obtain rfl : c0 = .int .i64 a0 := (List.cons.inj e0).1
    obtain rfl : c1 = .int .i64 a1 := (List.cons.inj e1).1
    exact ⟨⟨a0, a1⟩, k23_mk w ⟨a0, a1⟩⟩
theorem opens_36 : Opens 36 k36 := fun H enc w fuel cs x h => by
  obtain ⟨hl, hf⟩ := opens_fields Try.underlying36 h
  rw [show Try.prog.cellsOf 36 = 7 by kernel_rfl] at hl
  match cs, hl with
  | [c0, c1, c2, c3, c4, c5, c6], _ =>
    obtain ⟨a0, e0⟩ := hf 0 3 c0 rfl one3 rfl opens_3
    obtain ⟨a1, e1⟩ := hf 1 3 c1 rfl one3 rfl opens_3
    obtain ⟨a2, e2⟩ := hf 2 3 c2 rfl one3 rfl opens_3
    obtain ⟨a3, e3⟩ := hf 3 3 c3 rfl one3 rfl opens_3
    obtain ⟨a4, e4⟩ := hf 4 3 c4 rfl one3 rfl opens_3
    obtain ⟨a5, e5⟩ := hf 5 24 c5 rfl one24 rfl opens_24
    obtain ⟨a6, e6⟩ := hf 6 4 c6 rfl one4 rfl opens_4
    obtain rfl : c0 = .int .i64 a0 := (List.cons.inj e0).1
    obtain rfl : c1 = .int .i64 a1 := (List.cons.inj e1).1
    obtain rfl : c2 = .int .i64 a2 := (List.cons.inj e2).1
    obtain rfl : c3 = .int .i64 a3 := (List.cons.inj e3).1
    obtain rfl : c4 = .int .i64 a4 := (List.cons.inj e4).1
    obtain ⟨A5, k5, e5', l5, g5⟩ := e5
    obtain rfl : c5 = .slice A5 a5.length k5 := (List.cons.inj e5').1
    obtain rfl : c6 = .bool a6 := (List.cons.inj e6).1
    exact ⟨⟨a0, a1, a2, a3, a4, a5, a6⟩, k36_mk w ⟨a0, a1, a2, a3, a4, a5, a6⟩ l5 g5⟩
theorem opens_31 : Opens 31 (Kd.slice 36 k36) := opens_slice Try.underlying31 (by kernel_rfl) opens_36 36
section
variable {H : Type} {enc : TypeId × Value → H} {w : World} {base : Nat} {r : Reach} {v : Value} {x : DataW H} {p : List MemPlace}
theorem arg_slice {α : Type} {t e q : TypeId} {d : Kd α} (ht : Try.prog.underlying t = some (.slice e)) (ho : Opens t (Kd.slice q d)) (hv : Value.okWide Try.prog w r base t v) (h : DataW.Trod enc Try.prog w 0 (fun _ => true) true t v x p) :
    ∃ (A : Option Addr) (c : Nat) (xs : List α), v = .slice A xs.length c ∧ xs.length ≤ c ∧ d.C w A xs.length xs := by
  obtain ⟨a, len, cap, rfl⟩ := okWide_slice ht hv
  obtain ⟨fuel, hf⟩ := h
  obtain ⟨xs, A, c, he, hl, hc⟩ := ho H enc w fuel _ _ hf
  have e : Value.slice a len cap = .slice A xs.length c := (List.cons.inj (show [Value.slice a len cap] = [.slice A xs.length c] from he)).1
  exact ⟨A, c, xs, e, hl, hc⟩
theorem arg_23 (hv : Value.okWide Try.prog w r base 23 v) (h : DataW.Trod enc Try.prog w 0 (fun _ => true) true 23 v x p) :
    ∃ a b : Int, v = .agg #[.int .i64 a, .int .i64 b] := by
  obtain ⟨cs, rfl, _⟩ := okWide_struct Try.underlying23 hv
  obtain ⟨fuel, hf⟩ := h
  obtain ⟨y, hy⟩ := opens_23 H enc w fuel _ _ hf
  have e : cs.toList = [.int .i64 y.f0, .int .i64 y.f1] := k23_open hy
  exact ⟨y.f0, y.f1, by rw [← Array.toArray_toList (xs := cs), e]⟩
theorem trod_lt' {t : TypeId} (h : DataW.Trod enc Try.prog w 0 (fun _ => true) true t v x p) : ∀ q ∈ p, q.block < w.heap.size := by
  obtain ⟨m, hm⟩ := h
  exact DataW.trod_lt m _ _ _ hm
end
theorem own : ownKnob Try.prog.godebug = none := by kernel_rfl
theorem laidOut : laidOutB Try.prog = true := by kernel_rfl
end Go.Proofs.Ytimkchehdaadeaa.P
end
section
namespace Go.Proofs.Ytimkchehdaadeaa.P
open Go.ChangeShapes Go.WideShapes Go.ChangeAt Go.RowKit Go.Deep Go.Proofs.YtimkchehdaadeaaW.PrintWords Go.Proofs.YtimkchehdaadeaaW.PrintLast Go.Proofs.YtimkchehdaadeaaW.PrintMore
set_option linter.unusedVariables false
set_option linter.unusedSimpArgs false
set_option maxRecDepth 100000
section
variable {H : Type} {enc : TypeId × Value → H} {w : World} {base : Nat} {r : Reach} {v : Value} {x : DataW H} {p : List MemPlace}
theorem arg_74 (hv : Value.okWide Try.prog w r base 74 v) (h : DataW.Trod enc Try.prog w 0 (fun _ => true) true 74 v x p) :
    ∃ (A : Option Addr) (c : Nat) (cd : List Int) (A' : Option Addr) (c' : Nat) (ch : List Int), v = .agg #[.slice A cd.length c, .slice A' ch.length c'] ∧ cd.length ≤ c ∧ (Kd.int .i64).C w A cd.length cd ∧ ch.length ≤ c' ∧ (Kd.int .i64).C w A' ch.length ch := by
  obtain ⟨cs, rfl, _⟩ := okWide_struct Try.underlying74 hv
  obtain ⟨fuel, hf⟩ := h
  obtain ⟨xs, n, _, _, hlen, hxl, hg⟩ := DataW.trod_struct Try.underlying74 hf
  have h0 := hg 0 _ rfl
  have h1 := hg 1 _ rfl
  change DataW.trod enc Try.prog w 0 (fun x => true) true n 24 (List.take (Try.prog.cellsOf 24) (List.drop 0 cs.toList)) = xs[0]? at h0
  change DataW.trod enc Try.prog w 0 (fun x => true) true n 24 (List.take (Try.prog.cellsOf 24) (List.drop 1 cs.toList)) = xs[1]? at h1
  change xs.length = 2 at hxl
  rw [List.getElem?_eq_getElem (by omega)] at h0 h1
  rw [show Try.prog.cellsOf 24 = 1 by kernel_rfl] at h0 h1
  rw [show Try.prog.cellsOf 74 = 2 by kernel_rfl] at hlen
  obtain ⟨cd, hd⟩ := opens_24 H enc w n _ _ h0
  obtain ⟨ch, hd'⟩ := opens_24 H enc w n _ _ h1
  obtain ⟨A, c, e0, hl, hC⟩ := hd
  obtain ⟨A', c', e1, hl', hC'⟩ := hd'
  obtain ⟨l, hl0⟩ : ∃ l, l = cs.toList := ⟨_, rfl⟩
  change cs.toList.length = 2 at hlen
  rw [← hl0] at e0 e1 hlen
  refine ⟨A, c, cd, A', c', ch, ?_, hl, hC, hl', hC'⟩
  rw [← Array.toArray_toList (xs := cs), ← hl0]
  match l, hlen with
  | [x0, x1], _ =>
    simp only [List.drop, List.take, List.cons.injEq, and_true] at e0 e1
    subst e0
    subst e1
    rfl
end
end Go.Proofs.Ytimkchehdaadeaa.P
end
