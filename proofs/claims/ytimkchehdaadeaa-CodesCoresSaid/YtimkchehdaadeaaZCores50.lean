/- Part 50 of a proof: the statement CodesCores: for every input its law returns true (its texts without what nothing here names). -/
import Derived.Test.YtimkchehdaadeaaZCores31

namespace Go.Proofs.Ytimkchehdaadeaa.P
open Go.RowKit
def pairS (W S : Int) (l : List S36) : List Int × List Int × Int :=
  if checkCluesS W S l = 0 then (if (readingsL S.toNat W.toNat l).length < 2 then ([], [], 3) else ((readingsL S.toNat W.toNat l).getD 0 [], (readingsL S.toNat W.toNat l).getD ((readingsL S.toNat W.toNat l).length - 1) [], 0)) else ([], [], checkCluesS W S l)
theorem pair_sub (N j : Nat) (h : j = N - 1) (h0 : 1 < N) (hb : N ≤ 10000) : wrap64 ((N : Int) - 1) = (j : Int) := by rw [wrap_small (by omega) (by omega)]; omega
end Go.Proofs.Ytimkchehdaadeaa.P
