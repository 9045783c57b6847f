/- Names returns true. No condition. -/
import Derived.Test.YtbkhbmjhdggocaaPNamesx1
namespace Go.Proofs.Ytbkhbmjhdggocaa.Pure
open Go.RowKit Go.Proofs.Ytbkhbmjhdggocaa.PNames Go.Proofs.YtbkhbmjhdggocaaW.PrintWords Go.Proofs.YtbkhbmjhdggocaaW.PrintLast Go.Proofs.YtbkhbmjhdggocaaW.PrintMore

theorem Names : hagglertop_Names.Pure := rfl

end Go.Proofs.Ytbkhbmjhdggocaa.Pure
