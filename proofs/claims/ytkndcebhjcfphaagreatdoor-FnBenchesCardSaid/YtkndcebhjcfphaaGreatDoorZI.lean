import Derived.Test.YtkndcebhjcfphaaGreatDoorZE
import Derived.Deep.RegionHeld3
namespace Go.Proofs.YtkndcebhjcfphaaGreatDoor
open Go.RowKit Go.Proofs.Tryz
set_option maxRecDepth 100000
set_option maxHeartbeats 4000000
set_option linter.all false

