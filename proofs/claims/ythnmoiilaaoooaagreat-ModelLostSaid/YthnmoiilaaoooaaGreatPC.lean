/- Plain: messages compared. No program in sight. -/
import Derived.Test.YthnmoiilaaoooaaGreatWE
import Derived.Test.YthnmoiilaaoooaaGreatPK
namespace Go.Proofs.YthnmoiilaaoooaaGreat.L
open Go

def cmpM (a b : Msg) : Int := if a.pri = b.pri then cmpI a.id b.id else cmpI a.pri b.pri
end Go.Proofs.YthnmoiilaaoooaaGreat.L
