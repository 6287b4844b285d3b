/- A later world is there: so that a fact for each later world that names none is that fact. -/
import Derived.Test.YtflbiiflbehleaaData
namespace Go.Proofs.Ytflbiiflbehleaa
open Go.RowKit
instance {w : World} : Nonempty (Later w) := ⟨⟨w, Below.refl _ _⟩⟩
end Go.Proofs.Ytflbiiflbehleaa
