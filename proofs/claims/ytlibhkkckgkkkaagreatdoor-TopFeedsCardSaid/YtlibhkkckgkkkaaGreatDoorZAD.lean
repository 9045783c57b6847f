/- Part of the proof of TopFeeds: FacD. -/
import Derived.JoinedOf
import Derived.Test.YtlibhkkckgkkkaaGreatDoorCards
namespace Go.Proofs.YtlibhkkckgkkkaaGreatDoor.Top
open Go
theorem aRb:true=Tryz.prog.looks []:=by kernel_rfl
theorem goes:false=Rows.topFeedsRow.goesBy Tryz.prog:=by kernel_rfl
theorem aPc:Tryz.prog.mainIs=some (true, "b5d8660ecb28bb8221815a97bce24200d74f737e6100c0eaa54f742e95e4a045".toList):=by kernel_rfl
theorem aQx:Rows.topFeedsRow.wfByText (OpenSpec.ofChange Rows.topFeedsSpec)=true:=by kernel_rfl
theorem aQ4:([22,23,24,3].all fun u=>!Tryz.prog.wantsStandIn u)=true:=by kernel_rfl
end Go.Proofs.YtlibhkkckgkkkaaGreatDoor.Top
