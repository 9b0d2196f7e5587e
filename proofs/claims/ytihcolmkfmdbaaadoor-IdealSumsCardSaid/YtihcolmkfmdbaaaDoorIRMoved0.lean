/-
  Words for the walk of the document's Moved: what it answers, the sums so far, fresh rows.
-/
import Derived.Test.YtihcolmkfmdbaaaDoorIRef1
import Derived.Test.YtihcolmkfmdbaaaDoorIShown
namespace Go.Proofs.YtihcolmkfmdbaaaDoor.It
open Go.RowKit Go.Proofs.YtihcolmkfmdbaaaDoorW.PrintWords Go.Proofs.YtihcolmkfmdbaaaDoorW.PrintLast Go.Proofs.YtihcolmkfmdbaaaDoorW.PrintMore Go.Proofs.YtihcolmkfmdbaaaDoor.Ip Go.Proofs.YtihcolmkfmdbaaaDoor.Ih Go.Proofs.YtihcolmkfmdbaaaDoor.PId
section
variable {came : List Int} {O : List (List Int)} {P : List (List (List Int))} {L K : List (List Int)} {n d i : Nat}
theorem out_four (h : AlikeP O P came L K) (hd : dimOf L = d) (hs : ¬ sumr (ofCame came L) d = sumr (ofCame came K) d) : alikeOut O P came L K = some 4 := by
  unfold alikeOut
  rw [if_pos h, hd, if_neg hs]
theorem out_ok (h : AlikeP O P came L K) (hd : dimOf L = d) (hs : sumr (ofCame came L) d = sumr (ofCame came K) d) : alikeOut O P came L K = none := by
  unfold alikeOut
  rw [if_pos h, hd, if_pos hs]
variable {w W : World} {A B D : Option Addr} {c c' c'' k : Nat}
theorem dimd_c {r c3 : Nat} (hL : Rs w D r c3 L) (h : dimOf L = d) : Calls Tryd.prog 20 #[.slice D r c3] w (Ret (.int .i64 d) w) := by
  subst h
  exact dim_c hL
end
end Go.Proofs.YtihcolmkfmdbaaaDoor.It
