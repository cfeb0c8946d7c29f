/- The kinds of points: the check, 5120 to 9727. -/
import Derived.Test.YtfafjbolmeimmaaGreatDoorF9
namespace Go.Proofs.YtfafjbolmeimmaaGreatDoor.P
open Go.RowKit Go.Proofs.YtfafjbolmeimmaaGreatDoorW.PrintWords Go.Proofs.YtfafjbolmeimmaaGreatDoorW.PrintMore
theorem kd_5 : kdAll 10 5120 = true := by decide +kernel
theorem kd_6 : kdAll 10 6144 = true := by decide +kernel
theorem kd_7 : kdAll 10 7168 = true := by decide +kernel
theorem kd_8 : kdAll 10 8192 = true := by decide +kernel
theorem kd_9 : kdAll 9 9216 = true := by decide +kernel
end Go.Proofs.YtfafjbolmeimmaaGreatDoor.P
