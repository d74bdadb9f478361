/- Part 38 of a proof: the statement CodesExact: for every input its law returns true (its texts without what nothing here names). -/
import Derived.Test.YtimkchehdaadeaaZExact18
import Derived.Test.YtimkchehdaadeaaZExact25
import Derived.Test.YtimkchehdaadeaaZExact32
import Derived.Test.YtimkchehdaadeaaZExact34
import Derived.Test.YtimkchehdaadeaaZExact37
import Derived.Lib.SliceRun
import Derived.RegionTactic
import Derived.BigRegion
import Derived.ChangeAlike
section
namespace Go.Proofs.Ytimkchehdaadeaa.P
open Go.RowKit Go.Shelf Go.Proofs.YtimkchehdaadeaaW.PrintWords Go.Proofs.YtimkchehdaadeaaW.PrintLast Go.Proofs.YtimkchehdaadeaaW.PrintMore
set_option linter.unusedVariables false
set_option linter.unusedSimpArgs false
theorem rdL_get' (l : List (List Int)) (i : Nat) (h : i < l.length) : rd_L2 l i = l[i] := by simp [rd_L2, List.getD_eq_getElem?_getD, List.getElem?_eq_getElem h]
end Go.Proofs.Ytimkchehdaadeaa.P
end
section
namespace Go.Proofs.Ytimkchehdaadeaa.P
open Go.RowKit Go.Proofs.YtimkchehdaadeaaW.PrintWords Go.Proofs.YtimkchehdaadeaaW.PrintLast Go.Proofs.YtimkchehdaadeaaW.PrintMore
set_option linter.unusedVariables false
set_option linter.unusedSimpArgs false
theorem fitsS_code {W S : Int} {l : List S36} {c : List Int} (h : checkCluesS W S l = 0) (hc : isCodeB W S c = true) : fitsS W S l c = (idxI (fun q => !holdsC q c) l, fitsAll l c, 0) := by
  unfold fitsS; rw [if_pos h, if_pos hc]
theorem F_one {α : Type} {d : Kd α} {W : World} {b : Nat} {cs : List Value} {e : TypeId} {okp : Nat → Prop} {x : α} (hblk : W.heap[b]? = some (.cells cs.toArray e (0, 0))) (hok : okp b) (hlt : b < W.heap.size) (hFK : Kd.FK d W okp x cs) : Kd.F d W okp (some ⟨b, 0, none⟩) 1 [x] := fun W' hW => by
  refine ⟨rfl, by decide, fun _ => ⟨_, rfl, fun j p hj => ?_⟩⟩
  rcases j with _ | j
  · simp only [List.getElem?_cons_zero, Option.some.injEq] at hj
    subst hj
    refine ⟨cs, d.K_len (hFK W' hW), hFK W' hW, fun i u hu => ?_⟩
    have h1 := (hW b hok hlt).trans hblk
    rw [Nat.zero_mul, Nat.zero_add]
    have : W'.cell? ⟨b, i, none⟩ = some u := (blk_cell h1 i).trans (by simpa using hu)
    by_cases hi : i = 0
    · subst hi; simpa [Addr.add] using this
    · simpa [Addr.add, hi] using this
  · simp at hj
end Go.Proofs.Ytimkchehdaadeaa.P
end
