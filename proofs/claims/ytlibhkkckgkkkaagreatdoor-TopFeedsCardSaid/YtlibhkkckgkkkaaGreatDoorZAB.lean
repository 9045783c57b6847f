/- Part of the proof of TopFeeds: FacB. -/
import Derived.JoinedOf
import Derived.Test.YtlibhkkckgkkkaaGreatDoorCards
namespace Go.Proofs.YtlibhkkckgkkkaaGreatDoor.Top
open Go
theorem f11:(Rows.topFeedsRow.unfollowed==Tryz.prog.unfollowed 3)=true:=by kernel_rfl
theorem f12:(Rows.topFeedsRow.recurses==Tryz.prog.recurses 3)=true:=by kernel_rfl
end Go.Proofs.YtlibhkkckgkkkaaGreatDoor.Top
