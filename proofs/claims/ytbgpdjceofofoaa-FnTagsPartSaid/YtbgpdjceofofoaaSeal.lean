/- Small lemmas: the world at hand gets a name. -/
import Derived.Test.YtbgpdjceofofoaaKeep
import Derived.Deep.DeepCutAuto
import Derived.Deep.CutBlock
namespace Go.Proofs.Ytbgpdjceofofoaa
open Go.RowKit

theorem seal_wp {P : Program} {c : Code} {K : Exit → Act → World → Prop} {a : Act} {w : World} (h : ∀ x : World, x = w → Code.wp P c K a x) : Code.wp P c K a w := h w rfl
theorem seal_calls {P : Program} {f : FuncId} {args : Array Value} {w : World} {Q : Ending → World → Prop} (h : ∀ x : World, x = w → Calls P f args x Q) : Calls P f args w Q := h w rfl
theorem seal_post {P : Program} {f : Func} {Q : Ending → World → Prop} {e : Exit} {a : Act} {w : World} (h : ∀ x : World, x = w → bodyPost P f Q e a x) : bodyPost P f Q e a w := h w rfl
end Go.Proofs.Ytbgpdjceofofoaa
