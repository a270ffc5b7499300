/- The sort of numbers is the library's. -/
import Derived.Test.YtbdhjeojcpgblaaGreatDoorArgs
import Derived.Test.YtbdhjeojcpgblaaGreatDoorShelf2
import Derived.Test.YtbdhjeojcpgblaaGreatDoorJ2
namespace Go.Proofs.YtbdhjeojcpgblaaGreatDoor
open Go Go.Am
set_option maxRecDepth 100000
theorem SO0:Qe8 Tryz.prog:=⟨fun blk off cap zs w h1 h2 h3=>Tryz.slices_Sort_ids blk off cap zs w h1 h2 h3,fun p cap w=>Tryz.slices_Sort_ids_none p cap w⟩
end Go.Proofs.YtbdhjeojcpgblaaGreatDoor
