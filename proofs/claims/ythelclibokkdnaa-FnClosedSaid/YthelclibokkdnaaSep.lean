/-
  Two rows in blocks of their own.
-/
import Derived.Test.YthelclibokkdnaaMem
namespace Go.Proofs.Ythelclibokkdnaa
open Go.RowKit

/-- Two rows in blocks of their own. -/
def Sep (u v : Value) : Prop := ∀ g, u.ownBlock = some g → v.ownBlock ≠ some g
theorem Sep.symm {u v : Value} (h : Sep u v) : Sep v u := fun g h1 h2 => h g h2 h1
end Go.Proofs.Ythelclibokkdnaa
