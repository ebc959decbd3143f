/- Plain: messages compared. No program in sight. -/
import Derived.Test.YthnmoiilaaoooaaWE
import Derived.Test.YthnmoiilaaoooaaPK
namespace Go.Proofs.Ythnmoiilaaoooaa.L
open Go

def cmpM (a b : Msg) : Int := if a.pri = b.pri then cmpI a.id b.id else cmpI a.pri b.pri
end Go.Proofs.Ythnmoiilaaoooaa.L
