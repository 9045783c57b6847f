/- Part of the proof of TopFeeds: FacC. -/
import Derived.JoinedOf
import Derived.Test.YtlibhkkckgkkkaaGreatDoorCards
namespace Go.Proofs.YtlibhkkckgkkkaaGreatDoor.Top
open Go
theorem f13:(Rows.topFeedsRow.named==Tryz.prog.varsNamed 3)=true:=by kernel_rfl
theorem fn3:Tryz.prog.funcNamed "haggler/hagglertop.TopFeeds" =some 3:=by kernel_rfl
end Go.Proofs.YtlibhkkckgkkkaaGreatDoor.Top
