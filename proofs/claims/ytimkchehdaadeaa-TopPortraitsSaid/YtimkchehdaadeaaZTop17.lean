/- Part 17 of a proof: the statement TopPortraits: for every input its law returns true (its texts without what nothing here names). -/
import Derived.Test.YtimkchehdaadeaaZTop9

namespace Go.Proofs.Ytimkchehdaadeaa.P
set_option linter.unusedVariables false
open Go.RowKit Go.Proofs.YtimkchehdaadeaaW.PrintWords Go.Proofs.YtimkchehdaadeaaW.PrintLast Go.Proofs.YtimkchehdaadeaaW.PrintMore
def validB (W S k A B N M : Int) (G : List Int) : Bool :=
  if k = 1 then (inRange 0 (W - 1) A && (inRange 0 (S - 1) N && ((B == 0) && ((M == 0) && ((G.length : Int) == 0))))) else if k = 2 then (inRange 0 (W - 1) A && (inRange 0 (W - 1) B && (decide (A ≤ B) && (inRange 0 100 N && ((M == 0) && ((G.length : Int) == 0)))))) else if k = 3 then (inRange 0 (W - 1) A && (inRange 0 (W - 1) B && ((A != B) && ((N == 0) && ((M == 0) && ((G.length : Int) == 0)))))) else if k = 4 then (inRange 0 (W - 1) A && (inRange 0 (W - 1) B && ((A != B) && ((N == 0) && ((M == 0) && ((G.length : Int) == 0)))))) else if k = 5 then (inRange 0 (S - 1) N && (inRange 0 W M && ((A == 0) && ((B == 0) && ((G.length : Int) == 0))))) else if k = 6 then (inRange 0 W N && (inRange 0 W M && (isCodeB W S G && ((A == 0) && (B == 0))))) else if k = 7 then (inRange 0 (W - 1) A && (inRange 2 10 N && (inRange 0 (N - 1) M && ((B == 0) && ((G.length : Int) == 0))))) else false
def validC (W S : Int) (c : S36) : Bool := validB W S c.f0 c.f1 c.f2 c.f3 c.f4 c.f5
def inLen (l : List Int) (i : Int) : Prop := 0 ≤ i ∧ i < l.length
instance (l : List Int) (i : Int) : Decidable (inLen l i) := by unfold inLen; infer_instance
def span_ (l : List Int) (A B : Int) : List Int := (l.take (B + 1).toNat).drop A.toNat
def okPlain (k A B N M : Int) (G l : List Int) : Prop :=
  if k = 1 then inLen l A else if k = 2 then 0 ≤ A ∧ A ≤ B ∧ B < l.length ∧ dig l ∧ l.length ≤ 1000 else if k = 3 then inLen l A ∧ inLen l B else if k = 4 then inLen l A ∧ inLen l B
  else if k = 5 then True else if k = 6 then l.length = G.length ∧ dig l ∧ dig G else if k = 7 then inLen l A ∧ N ≠ 0 else False
instance (k A B N M : Int) (G l : List Int) : Decidable (okPlain k A B N M G l) := by unfold okPlain; infer_instance
def plainB (k A B N M : Int) (G l : List Int) : Bool :=
  if k = 1 then rd l A == N else if k = 2 then (span_ l A B).sum == N else if k = 3 then decide (rd l A < rd l B) else if k = 4 then rd l A == rd l B
  else if k = 5 then ((l.count N : Nat) : Int) == M else if k = 6 then ((rightTo l G l.length : Nat) : Int) == N && (((commonTo l G 10 : Nat) : Int) - (rightTo l G l.length : Nat) == M) else Int.tmod (rd l A) N == M
def okC (c : S36) (l : List Int) : Prop := okPlain c.f0 c.f1 c.f2 c.f3 c.f4 c.f5 l
instance (c : S36) (l : List Int) : Decidable (okC c l) := by unfold okC; infer_instance
def holdsC (c : S36) (l : List Int) : Bool := plainB c.f0 c.f1 c.f2 c.f3 c.f4 c.f5 l != c.f6
theorem sum_take_succ (l : List Int) (i : Nat) (h : i < l.length) : (l.take (i + 1)).sum = (l.take i).sum + l[i] := by
  rw [List.take_succ_eq_append_getElem h, List.sum_append]; simp
theorem sum_bound (l : List Int) (h : dig l) : 0 ≤ l.sum ∧ l.sum ≤ 9 * l.length := by
  induction l with
  | nil => simp
  | cons a l ih =>
    have h1 := h a (by simp)
    have h2 := ih (fun x hx => h x (by simp [hx]))
    simp only [List.sum_cons, List.length_cons]
    omega
theorem dig_take (l : List Int) (h : dig l) (i : Nat) : dig (l.take i) := fun x hx => h x (List.mem_of_mem_take hx)
theorem dig_drop (l : List Int) (h : dig l) (i : Nat) : dig (l.drop i) := fun x hx => h x (List.mem_of_mem_drop hx)
end Go.Proofs.Ytimkchehdaadeaa.P
