/- Part of the proof of TopFeeds: FacA. -/
import Derived.JoinedOf
import Derived.Test.YtlibhkkckgkkkaaGreatDoorCards
namespace Go.Proofs.YtlibhkkckgkkkaaGreatDoor.Top
open Go
theorem f1:Rows.topFeedsRow.wf (OpenSpec.ofChange Rows.topFeedsSpec)=true:=by kernel_rfl
theorem oF:laidOutB Tryz.prog=true:=by kernel_rfl
theorem f3:mapsRowed Tryz.prog=true:=by kernel_rfl
theorem f4:Tryz.f3.params.all (Tryz.prog.readableRec ·)=true:=by kernel_rfl
theorem f5:namedTie Tryz.prog Rows.topFeedsRow.named Rows.topFeedsSpec.vars=true:=by kernel_rfl
theorem f7:(Tryz.prog.stops==[])=true:=by kernel_rfl
theorem f9:(Tryz.prog.stopKnobs==[])=true:=by kernel_rfl
theorem f10:(Rows.topFeedsRow.inPlace==Tryz.prog.inPlace 3)=true:=by kernel_rfl
end Go.Proofs.YtlibhkkckgkkkaaGreatDoor.Top
