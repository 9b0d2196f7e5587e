/-
  Words for the walks of the document's tables: how they begin, what an append leaves, how they end.
-/
import Derived.Test.YtihcolmkfmdbaaaDoorIRef0
namespace Go.Proofs.YtihcolmkfmdbaaaDoor.It
open Go.RowKit Go.Proofs.YtihcolmkfmdbaaaDoorW.PrintWords Go.Proofs.YtihcolmkfmdbaaaDoorW.PrintLast Go.Proofs.YtihcolmkfmdbaaaDoorW.PrintMore Go.Proofs.YtihcolmkfmdbaaaDoor.Ip Go.Proofs.YtihcolmkfmdbaaaDoor.Ih Go.Proofs.YtihcolmkfmdbaaaDoor.PId
section
variable {w W W1 : World} {g3 g6 g9 : Nat} {sO sP c9 v0 v1 vl : Value} {O : List (List Int)} {P : List (List (List Int))} {L : List (List Int)}
theorem Br.prs (h : Br w W g3 g6 g9 sO sP c9 v0 v1 vl O P L) : ∃ vs, Tri W w.heap.size v0 v1 vl vs O P L ∧ Hs 22 W w.heap.size v1 vs ∧ vs.length = P.length := by
  obtain ⟨vs, ht⟩ := h.tri
  exact ⟨vs, ht, ht.tb.prs.heads, ht.tb.prs.len⟩
end
section
variable {came : List Int} {O : List (List Int)} {P : List (List (List Int))} {L K : List (List Int)} {n d : Nat}
end
end Go.Proofs.YtihcolmkfmdbaaaDoor.It
