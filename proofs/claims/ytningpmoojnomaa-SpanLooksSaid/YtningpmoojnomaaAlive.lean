/- The awake part of the statements: alive answers true. No condition. -/
import Derived.Test.YtningpmoojnomaaPrx30
namespace Go.Proofs.Ytningpmoojnomaa.Pr
open Go.RowKit Go.Proofs.YtningpmoojnomaaW.PrintWords Go.Proofs.YtningpmoojnomaaW.PrintLast Go.Proofs.YtningpmoojnomaaW.PrintMore
theorem alive_now : kimberlitelaw01_alive.f 40 = some true := by kernel_rfl
theorem alive_ev : Ev (fun k => kimberlitelaw01_alive.f k) true := Ev.of (fun k => kimberlitelaw01_alive.mono k) alive_now
#print axioms alive_ev
end Go.Proofs.Ytningpmoojnomaa.Pr
