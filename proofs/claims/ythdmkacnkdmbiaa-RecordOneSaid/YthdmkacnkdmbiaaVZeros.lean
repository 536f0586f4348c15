/- Words for this seat's walks: cut by trim.py, a program of these sessions, out of the file <Name>WZeros that the kit's print.sh wrote; what the texts do not reach is left out, the rest is as printed. -/
import Derived.Test.YthdmkacnkdmbiaaVApart
import Derived.Test.YthdmkacnkdmbiaaVArr
/-! ### 42. append(v, make([]T, n)...): the operation comes as_ append with the number in the second place -/
namespace Go.Proofs.YthdmkacnkdmbiaaW.PrintWords
open Go.RowKit
section
variable {P : Program}
end
namespace Kd
section
variable {P : Program} {ops : Array Oper} {rest : List Oper} {o : Oper} {a : Act} {Q : Exit → Act → World → Prop} {Kc : Act → World → Prop} {α : Type}
end
/-! #### the same for rows whose elements lie apart -/
section
variable {α : Type} {d : Kd α} {e : Nat} {w : World} {base : Nat} {ok : Nat → Prop} {v : Value} {xs : List α}
end
section
variable {P : Program} {ops : Array Oper} {rest : List Oper} {o : Oper} {a : Act} {Q : Exit → Act → World → Prop} {Kc : Act → World → Prop} {α : Type}
end
end Kd
end Go.Proofs.YthdmkacnkdmbiaaW.PrintWords

