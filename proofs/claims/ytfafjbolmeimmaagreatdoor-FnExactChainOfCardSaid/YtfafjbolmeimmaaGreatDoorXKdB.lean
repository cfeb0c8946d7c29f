/- The kinds of points: the check, 0 to 4095. -/
import Derived.Test.YtfafjbolmeimmaaGreatDoorF9
namespace Go.Proofs.YtfafjbolmeimmaaGreatDoor.P
open Go.RowKit Go.Proofs.YtfafjbolmeimmaaGreatDoorW.PrintWords Go.Proofs.YtfafjbolmeimmaaGreatDoorW.PrintMore
theorem kd_0 : kdAll 10 0 = true := by decide +kernel
theorem kd_1 : kdAll 10 1024 = true := by decide +kernel
theorem kd_2 : kdAll 10 2048 = true := by decide +kernel
theorem kd_3 : kdAll 10 3072 = true := by decide +kernel
theorem kd_4 : kdAll 10 4096 = true := by decide +kernel
end Go.Proofs.YtfafjbolmeimmaaGreatDoor.P
