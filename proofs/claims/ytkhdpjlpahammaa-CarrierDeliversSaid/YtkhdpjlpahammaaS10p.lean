import Derived.Test.YtkhdpjlpahammaaS8p
import Derived.Test.YtkhdpjlpahammaaFp
import Derived.Test.YtkhdpjlpahammaaXBp
import Derived.Test.YtkhdpjlpahammaaLp
import Derived.Test.YtkhdpjlpahammaaZ1p
import Derived.Test.YtkhdpjlpahammaaA1p
set_option linter.unusedVariables false
set_option linter.unusedSimpArgs false
set_option maxRecDepth 100000
set_option maxHeartbeats 2000000
namespace Go.Proofs.Ytkhdpjlpahammaa
open Go.RowKit
abbrev zF : FtT := (false, (0, (false, 0)))
def fateAt (fates : List FtT) (n : Int) : FtT := fates.getD n.toNat zF
def newPc (f : FtT) (n : Int) (from_ to_ : List UInt8) (now : Int) (data : List Int) : List PcT :=
  if f.1 = true then [] else (f, (n, (from_, (to_, (now, (false, data)))))) :: (if f.2.2.1 = true then [(f, (n, (from_, (to_, (now, (true, data))))))] else [])
end Go.Proofs.Ytkhdpjlpahammaa
