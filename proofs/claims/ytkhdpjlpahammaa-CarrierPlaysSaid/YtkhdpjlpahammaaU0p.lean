import Derived.Test.YtkhdpjlpahammaaFp
import Derived.Test.YtkhdpjlpahammaaXBp
namespace Go.Proofs.Ytkhdpjlpahammaa
open Go.RowKit
abbrev UFt : U := .pair .bool (.pair (.int .i64) (.pair .bool (.int .i64)))
abbrev UPc : U := .pair UFt (.pair (.int .i64) (.pair .str (.pair .str (.pair (.int .i64) (.pair .bool (.list (.int .u8)))))))
abbrev UDg : U := .pair (.int .i64) (.pair .str (.pair .str (.pair (.int .i64) (.list (.int .u8)))))
end Go.Proofs.Ytkhdpjlpahammaa
