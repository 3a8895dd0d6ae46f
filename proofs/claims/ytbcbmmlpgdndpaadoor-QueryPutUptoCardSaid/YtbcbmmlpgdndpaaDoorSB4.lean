/- A drawn region in a round of a range over a function, for the printed steps. -/
/- Percent-encoding and decoding undo one another, on lists of bytes. -/
/- What is written in a form is read as it. -/
/- bastionref11.read: what it answers at every text. -/
/- What pct.Decode, Lower, Upper, Same and the reference's answer, on lists of bytes. -/
import Derived.Test.YtbcbmmlpgdndpaaDoorSSeq
import Derived.Test.YtbcbmmlpgdndpaaDoorSPctC
import Derived.Test.YtbcbmmlpgdndpaaDoorSQuT
import Derived.Test.YtbcbmmlpgdndpaaDoorSStr
import Derived.Test.YtbcbmmlpgdndpaaDoorSB5
import Derived.LoopTactic
import Derived.Lib.Hide
import Derived.Lib.ConvBytes
import Derived.Laws.BytesArg
section
set_option linter.unusedVariables false
namespace Go.Proofs.YtbcbmmlpgdndpaaDoor.R
open Go.RowKit Go.Proofs.YtbcbmmlpgdndpaaDoorW.PrintLast
theorem startR_ {P : Program} {ops : Array Oper} {Q : Exit → Act → World → Prop} {S : World → Prop} {ds : List Nat} {id n m l0 : Nat} {a : Act} {w : World} (l : Array Bool) (hnd : ops.all (fun o => match o.op with | .defer _ => false | _ => true) = true) (hout : LetsOut Q → False)
    (hm : P.follows .mixedOrders = true) (hn : ops.size = n) (hl : Array.replicate n false = l) (hS : S w.drew)
    (h : S w.drew → wpAnyLast P .any ops Q S ds n l a w.drew) : (Code.region id ops true).wpIn (Fence.wide.inRound l0) m P Q a w := by
  subst hn
  subst hl
  exact wpIn_round_any hnd hout hm (fun W' e => by subst e; exact wpAny_of_last _ _ _ _ (h hS))
theorem setCell_blk {W : World} {b j : Nat} {cs : Array Value} {t : TypeId} {fr : Nat × Nat} (v : Value) (h : W.heap[b]? = some (.cells cs t fr)) : (W.setCell ⟨b, j, none⟩ v).heap[b]? = some (.cells (cs.setIfInBounds j v) t fr) := by
  obtain ⟨hlt, hk⟩ := Array.getElem?_eq_some_iff.1 h
  show (W.heap.modify b _)[b]? = _
  rw [Array.getElem?_eq_getElem (by rw [Array.size_modify]; exact hlt), Array.getElem_modify_self, hk]; simp
end Go.Proofs.YtbcbmmlpgdndpaaDoor.R
end
section
namespace Go.Proofs.YtbcbmmlpgdndpaaDoor.Q
open Go.RowKit Go.Proofs.YtbcbmmlpgdndpaaDoorW.PrintWords Go.Proofs.YtbcbmmlpgdndpaaDoorW.PrintLast Go.Proofs.YtbcbmmlpgdndpaaDoorW.PrintMore Go.Proofs.YtbcbmmlpgdndpaaDoor.P1
set_option linter.unusedSimpArgs false
set_option linter.unusedVariables false
end Go.Proofs.YtbcbmmlpgdndpaaDoor.Q
end
section
namespace Go.Proofs.YtbcbmmlpgdndpaaDoor.Q
open Go.RowKit Go.Proofs.YtbcbmmlpgdndpaaDoorW.PrintWords Go.Proofs.YtbcbmmlpgdndpaaDoorW.PrintLast Go.Proofs.YtbcbmmlpgdndpaaDoorW.PrintMore Go.Proofs.YtbcbmmlpgdndpaaDoor.P1 Go.Proofs.YtbcbmmlpgdndpaaDoor.Qu
set_option linter.unusedSimpArgs false
end Go.Proofs.YtbcbmmlpgdndpaaDoor.Q
end
section
set_option linter.unusedSimpArgs false
set_option linter.unusedVariables false
namespace Go.Proofs.YtbcbmmlpgdndpaaDoor.Q
open Go.RowKit Go.Proofs.YtbcbmmlpgdndpaaDoorW.PrintWords Go.Proofs.YtbcbmmlpgdndpaaDoorW.PrintLast Go.Proofs.YtbcbmmlpgdndpaaDoorW.PrintMore Go.Proofs.YtbcbmmlpgdndpaaDoor.P1 Go.Proofs.YtbcbmmlpgdndpaaDoor.Qu
end Go.Proofs.YtbcbmmlpgdndpaaDoor.Q
end
section
namespace Go.Proofs.YtbcbmmlpgdndpaaDoor.Q.Pc
open Go.RowKit Go.Proofs.YtbcbmmlpgdndpaaDoorW.PrintWords Go.Proofs.YtbcbmmlpgdndpaaDoorW.PrintLast Go.Proofs.YtbcbmmlpgdndpaaDoorW.PrintMore Go.Proofs.YtbcbmmlpgdndpaaDoor.P1
set_option linter.unusedSimpArgs false
end Go.Proofs.YtbcbmmlpgdndpaaDoor.Q.Pc
end
