/- The listed variable of this seat (larder/disk.flush): the doors' world meets what the tied rows say of it. -/
import Derived.Test.YtbjhpjgneanphaaDoorRows
import Derived.WalkKit
import Derived.ProofKit
import Derived.LaidMore
import Derived.OpenShut
import Derived.Stop.Joined
namespace Go.Proofs.YtbjhpjgneanphaaDoor.Table
open Go.ChangeShapes Go.WideShapes Go.ChangeAt Go.WideMaps Go.WideElems Go.RowKit
def laid {H : Type} : List (String × DataW H) := [("larder/disk.flush", Rows.laid_larder_disk_flush)]
theorem door_met (os : Os) (args : Array Value) : laidMetH Tryd.prog laid ((World.doorLaid Tryd.prog 400 os).forCall (fun _ _ => 0) ⟨#[], args, []⟩).memory :=
  laidMetH_of_parts3 (fuel := 8) (laidMet_of_run' 8 (by kernel_rfl) (by kernel_rfl)) (by kernel_rfl) (by kernel_rfl)
end Go.Proofs.YtbjhpjgneanphaaDoor.Table
