/- Part Qt44 of the proof. -/
import Derived.Test.YtjkkfifojkfnjaaGreatDoorQts0
import Derived.Test.YtjkkfifojkfnjaaGreatDoorQts1
import Derived.Test.YtjkkfifojkfnjaaGreatDoorQts2
import Derived.Test.YtjkkfifojkfnjaaGreatDoorQts3
import Derived.Test.YtjkkfifojkfnjaaGreatDoorQts4
import Derived.Test.YtjkkfifojkfnjaaGreatDoorQts5
import Derived.Test.YtjkkfifojkfnjaaGreatDoorQts6
import Derived.Test.YtjkkfifojkfnjaaGreatDoorQts7
import Derived.Test.YtjkkfifojkfnjaaGreatDoorQts8
import Derived.Test.YtjkkfifojkfnjaaGreatDoorNo
set_option linter.unusedVariables false
set_option linter.unusedSimpArgs false
namespace Go.Sx
open Go Go.Proofs Go.RowKit
set_option maxRecDepth 10000000
noncomputable def subs:List (Cx.Sub Tryz.prog 0 Sha.K0):=[sb0,sb1,sb2,sb3,sb4,sb5,sb6,sb7,sb8]
theorem bothOk:Cx.OrOk Tryz.prog gl (Cx.orTwo (Cx.askSub subs) (Cx.askL ors)):=Cx.orTwo_ok (Cx.sub_ok hm (by decide) subs) (Cx.ask_ok orsOk)
theorem ran:Cx.runs Tryz.prog (Cx.orTwo (Cx.askSub subs) (Cx.askL ors)) 1000000 Tryz.f3 (bodyOf Tryz.f3) 0 Sha.K0 []=true:=by kernel_rfl
theorem walkKnown (w:World) (hg:GlobOk gl w):Calls Tryz.prog 3 #[] w fun e w'=>e=.returned (.bool true)/\Below w.heap.size w w' :=
 Cx.known_or (g:=0) (tl:=Sha.K0) hm bothOk Tryz.func3 (c:=bodyOf Tryz.f3) rfl 1000000 ran (by decide) w hg [] fun _=>trivial
end Go.Sx
