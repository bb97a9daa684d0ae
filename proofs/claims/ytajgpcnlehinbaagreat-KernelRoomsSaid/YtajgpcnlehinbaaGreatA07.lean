/- Part of a proof. -/
import Derived.Test.YtajgpcnlehinbaaGreatProg
import Derived.Test.YtajgpcnlehinbaaGreatA03
namespace Go.Proofs.YtajgpcnlehinbaaGreat
open Tryz
set_option maxRecDepth 100000
set_option maxHeartbeats 60000000
set_option linter.all false
abbrev aW (f:FuncId) (args:Array Value) (w w0:World) (v:Value) (l:List SL):Prop:=Calls prog f args w fun e w'=>e= .returned v∧In w0 w' l
end Go.Proofs.YtajgpcnlehinbaaGreat
