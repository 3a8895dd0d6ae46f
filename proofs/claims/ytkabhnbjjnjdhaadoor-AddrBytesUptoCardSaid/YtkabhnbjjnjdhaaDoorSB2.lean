/- Words that the walks of this claim use. -/
import Derived.Test.YtkabhnbjjnjdhaaDoorSWTab
import Derived.Test.YtkabhnbjjnjdhaaDoorSWWords
import Derived.Test.YtkabhnbjjnjdhaaDoorSWLast
import Derived.Test.YtkabhnbjjnjdhaaDoorSWN
import Derived.Laws.StructEq
section
namespace Go.Proofs.YtkabhnbjjnjdhaaDoorW.PrintLast
section
variable {P : Program} {ops : Array Oper} {Q : Exit → Act → World → Prop} {md : Region.Mode} {S : World → Prop} {ds : List Nat} {T : Bool × List (List Nat × List Nat)}
end
end Go.Proofs.YtkabhnbjjnjdhaaDoorW.PrintLast
end
section
namespace Go.Proofs.YtkabhnbjjnjdhaaDoorW.PrintWords
open Go.RowKit
namespace Kd
section
variable {α : Type} {d : Kd α} {e base g o n cap : Nat} {ok okp : Nat → Prop} {w W : World} {v : Value} {xs : List α}
end
section
variable {α : Type} {enc : α → Value} {h1 : ∀ x, (enc x).oneCell' = true} {e base g o n cap : Nat} {ok : Nat → Prop} {W : World} {xs : List α}
end
end Kd
end Go.Proofs.YtkabhnbjjnjdhaaDoorW.PrintWords
end
section
namespace Go.Proofs.YtkabhnbjjnjdhaaDoorW.PrintWords
open Go.RowKit
namespace Kd
section
variable {α : Type} {d : Kd α} {W : World} {g n : Nat} {S ok : Nat → Prop} {A : Option Addr} {ad : Addr} {xs : List α}
end
end Kd
end Go.Proofs.YtkabhnbjjnjdhaaDoorW.PrintWords
end
section
namespace Go.Proofs.YtkabhnbjjnjdhaaDoorW.PrintWords
open Go.RowKit
section
variable {w w' u : World} {m B g : Nat} {o : Obj} {row : Option Nat} {S : Nat → Prop} {a : Addr} {v : Value}
end
namespace Kd
section
variable {α : Type} {d : Kd α} {e base n m : Nat} {ok : Nat → Prop} {w w' : World} {v : Value} {A : Option Addr} {xs : List α}
end
end Kd
end Go.Proofs.YtkabhnbjjnjdhaaDoorW.PrintWords
end
section
namespace Go.Proofs.YtkabhnbjjnjdhaaDoorW.PrintWords
open Go.RowKit
section
variable {P : Program} {d : Nat} {xs ys : Array Value} {f : Field} {fs : List Field} {a b : Value} {r s : Bool} {w : World}
end
end Go.Proofs.YtkabhnbjjnjdhaaDoorW.PrintWords
end
section
namespace Go.Proofs.YtkabhnbjjnjdhaaDoorW.PrintLast
section
variable {P : Program} {ops : Array Oper} {Q : Exit → Act → World → Prop} {md : Region.Mode} {T : Bool × List (List Nat × List Nat)} {B : List Nat} {O : List Nat} {b : Nat → Bool} {i j n : Nat}
end
end Go.Proofs.YtkabhnbjjnjdhaaDoorW.PrintLast
end
section
namespace Go.Proofs.YtkabhnbjjnjdhaaDoorW.PrintWords
open Go.RowKit
end Go.Proofs.YtkabhnbjjnjdhaaDoorW.PrintWords
namespace Go.Proofs.YtkabhnbjjnjdhaaDoorW.PrintLast
section
variable {ops : Array Oper} {a : Act} {o og : Oper} {g : Nat} {t : Tmp} {u : Bool}
end
end Go.Proofs.YtkabhnbjjnjdhaaDoorW.PrintLast
end
section
namespace Go.Proofs.YtkabhnbjjnjdhaaDoorW.PrintWords
open Go.RowKit
section
variable {P : Program} {ops : Array Oper} {rest : List Oper} {o : Oper} {a : Act} {Q : Exit → Act → World → Prop} {W : World}
end
end Go.Proofs.YtkabhnbjjnjdhaaDoorW.PrintWords
end
section
namespace Go.Proofs.YtkabhnbjjnjdhaaDoorW.PrintWords
open Go.RowKit
namespace Kd
section
variable {α : Type} {d : Kd α} {e base n cap g : Nat} {ok ok' okp : Nat → Prop} {w w1 W : World} {v v1 : Value} {xs ys : List α}
end
section
variable {P : Program} {ops : Array Oper} {rest : List Oper} {o : Oper} {a : Act} {Q : Exit → Act → World → Prop} {Kc : Act → World → Prop} {α : Type}
end
end Kd
end Go.Proofs.YtkabhnbjjnjdhaaDoorW.PrintWords
end
