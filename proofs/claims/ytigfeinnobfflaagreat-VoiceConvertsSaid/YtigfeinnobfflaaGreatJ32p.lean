import Derived.Test.YtigfeinnobfflaaGreatZ3p
import Derived.Test.YtigfeinnobfflaaGreatXBp
import Derived.Test.YtigfeinnobfflaaGreatJ31p
set_option linter.unusedSimpArgs false
set_option linter.unusedVariables false
set_option maxRecDepth 1000000
set_option maxHeartbeats 0
namespace Go.Proofs.YtigfeinnobfflaaGreat
open Go.RowKit
def aku:List (Nat×PL):=[(18049585297752081,(.carry [.tmp 0 false [(.pt 20000050 0)],.tmp 1 false [dO],.mix 20000050 (([fB,(.ki .u32 (7)),(.dat (.int .u16)),(.dat (.int .u32)),dO,dI,dI,dI,(.kb false),(.ki .u8 (0)),(.ki .u8 (0)),(.ki .u32 (0)),(.ki .i64 (0)),(.ki .i64 (0)),(.ki .i64 (1)),(.ki .i64 (1)),(.ki .i64 (0)),(.kb false),(.ki .i64 (0)),(.ki .i64 (0)),(.ki .i64 (-1)),(.ki .i64 (-1)),(.ki .i64 (0)),(.ki .i64 (0)),.nil,(.ki .i64 (0)),(.ki .i64 (0)),(.ki .i64 (0)),(.kb false),(.ki .i64 (0)),(.ki .i64 (0)),(.ki .i64 (0)),(.kb false),(.ki .i64 (0)),(.ki .i64 (0)),(.ki .i64 (0)),(.ki .i64 (0)),(.ki .i64 (0)),(.ki .i64 (0)),(.ki .i64 (0)),(.kb false),(.ki .u32 (0)),(.ki .u8 (0)),(.ki .i64 (0)),(.kb false),(.ki .u32 (7)),(.dat (.int .u32)),(.dat (.int .u32)),fB,(.ki .u32 (8))]:List CS)++([(.ki .u16 (0)),(.ki .u32 (0)),(.kb true),(.ki .i64 (0)),(.ki .i64 (0)),(.ki .i64 (0)),(.kb false),(.ki .u8 (0)),(.ki .u8 (0)),(.ki .u32 (0)),(.ki .i64 (0)),(.ki .i64 (0)),dI,dI,dI,dO,dI,dI,dI,dI,dI,dI,(.dat (.list (.pair ak (.pair ak (.pair ak (.pair .bool (.pair aX (.list aX)))))))),dI,dI,dI,dO,dI,dI,dI,dO,dI,dI,dI,dI,dI,dI,dI,(.kb false),(.ki .u32 (0)),(.ki .u8 (0)),(.ki .i64 (0)),(.kb false),(.dat (.int .u32)),(.ki .u32 (0)),(.ki .u32 (0)),(.pt 20000010 0),dI,dI,(.own 20000051 62 (.list (.int .i16)))]:List CS)++([(.dat (.list (.pair ak ak))),(.own 20000052 234 (.pair aX (.pair .bool (.pair (.int .u32) ak)))),(.own 20000053 31 (.int .u32)),dI,dI,dI,dI,dI,dI,dI,dO]:List CS)),.mix 20000010 [(.kb true),(.dat (.list (.pair .bool (.pair ak (.pair .bool ak))))),(.own 20000011 112 (.pair (.pair .bool (.pair ak (.pair .bool ak))) (.pair ak (.pair .str (.pair .str (.pair ak (.pair .bool (.list aX)))))))),dI,dI,dI]])),(134479890,(.carry [.tmp 0 false [(.pt 20000150 0)],.tmp 1 false [dO],.mix 20000150 (([fB,(.ki .u32 (7)),(.dat (.int .u16)),(.dat (.int .u32)),dO,dI,dI,dI,(.kb false),(.ki .u8 (0)),(.ki .u8 (0)),(.ki .u32 (0)),(.ki .i64 (0)),(.ki .i64 (0)),(.ki .i64 (1)),(.ki .i64 (1)),(.ki .i64 (0)),(.kb false),(.ki .i64 (0)),(.ki .i64 (0)),(.ki .i64 (-1)),(.ki .i64 (-1)),(.ki .i64 (0)),(.ki .i64 (0)),.nil,(.ki .i64 (0)),(.ki .i64 (0)),(.ki .i64 (0)),(.kb false),(.ki .i64 (0)),(.ki .i64 (0)),(.ki .i64 (0)),(.kb false),(.ki .i64 (0)),(.ki .i64 (0)),(.ki .i64 (0)),(.ki .i64 (0)),(.ki .i64 (0)),(.ki .i64 (0)),(.ki .i64 (0)),(.kb false),(.ki .u32 (0)),(.ki .u8 (0)),(.ki .i64 (0)),(.kb false),(.ki .u32 (7)),(.dat (.int .u32)),(.dat (.int .u32)),fB,(.ki .u32 (8))]:List CS)++([(.ki .u16 (0)),(.ki .u32 (0)),(.kb true),(.ki .i64 (0)),(.ki .i64 (0)),(.ki .i64 (0)),(.kb false),(.ki .u8 (0)),(.ki .u8 (0)),(.ki .u32 (0)),(.ki .i64 (0)),(.ki .i64 (0)),dI,dI,dI,dO,dI,dI,dI,dI,dI,dI,(.dat (.list (.pair ak (.pair ak (.pair ak (.pair .bool (.pair aX (.list aX)))))))),dI,dI,dI,dO,dI,dI,dI,dO,dI,dI,dI,dI,dI,dI,dI,(.kb false),(.ki .u32 (0)),(.ki .u8 (0)),(.ki .i64 (0)),(.kb false),(.dat (.int .u32)),(.ki .u32 (0)),(.ki .u32 (0)),(.pt 20000110 0),dI,dI,(.own 20000151 62 (.list (.int .i16)))]:List CS)++([(.dat (.list (.pair ak ak))),(.own 20000152 234 (.pair aX (.pair .bool (.pair (.int .u32) ak)))),(.own 20000153 31 (.int .u32)),dI,dI,dI,dI,dI,dI,dI,dO]:List CS)),.mix 20000110 [(.kb true),(.dat (.list (.pair .bool (.pair ak (.pair .bool ak))))),(.own 20000111 112 (.pair (.pair .bool (.pair ak (.pair .bool ak))) (.pair ak (.pair .str (.pair .str (.pair ak (.pair .bool (.list aX)))))))),dI,dI,dI]])),(9241421688590303249,(.carry [.tmp 0 false [(.pt 20000250 0)],.tmp 1 false [dO],.mix 20000250 (([fB,(.ki .u32 (7)),(.dat (.int .u16)),(.dat (.int .u32)),dO,dI,dI,dI,(.kb false),(.ki .u8 (0)),(.ki .u8 (0)),(.ki .u32 (0)),(.ki .i64 (0)),(.ki .i64 (0)),(.ki .i64 (1)),(.ki .i64 (1)),(.ki .i64 (0)),(.kb false),(.ki .i64 (0)),(.ki .i64 (0)),(.ki .i64 (-1)),(.ki .i64 (-1)),(.ki .i64 (0)),(.ki .i64 (0)),.nil,(.ki .i64 (0)),(.ki .i64 (0)),(.ki .i64 (0)),(.kb false),(.ki .i64 (0)),(.ki .i64 (0)),(.ki .i64 (0)),(.kb false),(.ki .i64 (0)),(.ki .i64 (0)),(.ki .i64 (0)),(.ki .i64 (0)),(.ki .i64 (0)),(.ki .i64 (0)),(.ki .i64 (0)),(.kb false),(.ki .u32 (0)),(.ki .u8 (0)),(.ki .i64 (0)),(.kb false),(.ki .u32 (7)),(.dat (.int .u32)),(.dat (.int .u32)),fB,(.ki .u32 (8))]:List CS)++([(.ki .u16 (0)),(.ki .u32 (0)),(.kb true),(.ki .i64 (0)),(.ki .i64 (0)),(.ki .i64 (0)),(.kb false),(.ki .u8 (0)),(.ki .u8 (0)),(.ki .u32 (0)),(.ki .i64 (0)),(.ki .i64 (0)),dI,dI,dI,dO,dI,dI,dI,dI,dI,dI,(.dat (.list (.pair ak (.pair ak (.pair ak (.pair .bool (.pair aX (.list aX)))))))),dI,dI,dI,dO,dI,dI,dI,dO,dI,dI,dI,dI,dI,dI,dI,(.kb false),(.ki .u32 (0)),(.ki .u8 (0)),(.ki .i64 (0)),(.kb false),(.dat (.int .u32)),(.ki .u32 (0)),(.ki .u32 (0)),(.pt 20000210 0),dI,dI,(.own 20000251 62 (.list (.int .i16)))]:List CS)++([(.dat (.list (.pair ak ak))),(.own 20000252 234 (.pair aX (.pair .bool (.pair (.int .u32) ak)))),(.own 20000253 31 (.int .u32)),dI,dI,dI,dI,dI,dI,dI,dO]:List CS)),.mix 20000210 [(.kb true),(.dat (.list (.pair .bool (.pair ak (.pair .bool ak))))),(.own 20000211 112 (.pair (.pair .bool (.pair ak (.pair .bool ak))) (.pair ak (.pair .str (.pair .str (.pair ak (.pair .bool (.list aX)))))))),dI,dI,dI]])),(2422574330006487819354625,(.carry [.tmp 4 false [(.own 20000255 67 (.pair .bool (.pair ak (.pair .bool ak))))]])),(9241387672449319425,(.carry [.mix 20000050 (([fB,(.ki .u32 (7)),(.dat (.int .u16)),(.dat (.int .u32)),dO,dI,dI,dI,(.kb false),(.ki .u8 (0)),(.ki .u8 (0)),(.ki .u32 (0)),(.ki .i64 (0)),(.ki .i64 (0)),(.ki .i64 (1)),(.ki .i64 (1)),(.ki .i64 (0)),(.kb false),(.ki .i64 (0)),(.ki .i64 (0)),(.ki .i64 (-1)),(.ki .i64 (-1)),(.ki .i64 (0)),(.ki .i64 (0)),.nil,(.ki .i64 (0)),(.ki .i64 (0)),(.ki .i64 (0)),(.kb false),(.ki .i64 (0)),(.ki .i64 (0)),(.ki .i64 (0)),(.kb false),(.ki .i64 (0)),(.ki .i64 (0)),(.ki .i64 (0)),(.ki .i64 (0)),(.ki .i64 (0)),(.ki .i64 (0)),(.ki .i64 (0)),(.kb false),(.ki .u32 (0)),(.ki .u8 (0)),(.ki .i64 (0)),(.kb false),(.ki .u32 (7)),(.dat (.int .u32)),(.dat (.int .u32)),fB,(.ki .u32 (8))]:List CS)++([(.ki .u16 (0)),(.ki .u32 (0)),(.kb true),(.ki .i64 (0)),(.ki .i64 (0)),(.ki .i64 (0)),(.kb false),(.ki .u8 (0)),(.ki .u8 (0)),(.ki .u32 (0)),(.ki .i64 (0)),(.ki .i64 (0)),dI,dI,dI,dO,dI,dI,dI,dI,dI,dI,(.dat (.list (.pair ak (.pair ak (.pair ak (.pair .bool (.pair aX (.list aX)))))))),dI,dI,dI,dO,dI,dI,dI,dO,dI,dI,dI,dI,dI,dI,dI,(.kb false),(.ki .u32 (0)),(.ki .u8 (0)),(.ki .i64 (0)),(.kb false),(.dat (.int .u32)),(.ki .u32 (0)),(.ki .u32 (0)),(.pt 20000010 0),dI,dI,(.own 20000264 62 (.list (.int .i16)))]:List CS)++([(.dat (.list (.pair ak ak))),(.own 20000265 234 (.pair aX (.pair .bool (.pair (.int .u32) ak)))),(.own 20000266 31 (.int .u32)),dI,dI,dI,dI,dI,dI,dI,dO]:List CS)),.mix 20000010 [(.kb true),(.dat (.list (.pair .bool (.pair ak (.pair .bool ak))))),(.own 20000267 112 (.pair (.pair .bool (.pair ak (.pair .bool ak))) (.pair ak (.pair .str (.pair .str (.pair ak (.pair .bool (.list aX)))))))),dI,dI,dI],.dead 20000051,.dead 20000011,.dead 20000052,.dead 20000053])),(1240362622532514024912060929,(.carry [])),(4731607904558235517441,(.carry [.mix 20000250 (([fB,(.ki .u32 (7)),(.dat (.int .u16)),(.dat (.int .u32)),dO,dI,dI,dI,(.kb false),(.ki .u8 (0)),(.ki .u8 (0)),(.ki .u32 (0)),(.ki .i64 (0)),(.ki .i64 (0)),(.ki .i64 (1)),(.ki .i64 (1)),(.ki .i64 (0)),(.kb false),(.ki .i64 (0)),(.ki .i64 (0)),(.ki .i64 (-1)),(.ki .i64 (-1)),(.ki .i64 (0)),(.ki .i64 (0)),.nil,(.ki .i64 (0)),(.ki .i64 (0)),(.ki .i64 (0)),(.kb false),(.ki .i64 (0)),(.ki .i64 (0)),(.ki .i64 (0)),(.kb false),(.ki .i64 (0)),(.ki .i64 (0)),(.ki .i64 (0)),(.ki .i64 (0)),(.ki .i64 (0)),(.ki .i64 (0)),(.ki .i64 (0)),(.kb false),(.ki .u32 (0)),(.ki .u8 (0)),(.ki .i64 (0)),(.kb false),(.ki .u32 (7)),(.dat (.int .u32)),(.dat (.int .u32)),fB,(.ki .u32 (8))]:List CS)++([(.ki .u16 (0)),(.ki .u32 (0)),(.kb true),(.ki .i64 (0)),(.ki .i64 (0)),(.ki .i64 (0)),(.kb false),(.ki .u8 (0)),(.ki .u8 (0)),(.ki .u32 (0)),(.ki .i64 (0)),(.ki .i64 (0)),dI,dI,dI,dO,dI,dI,dI,dI,dI,dI,(.dat (.list (.pair ak (.pair ak (.pair ak (.pair .bool (.pair aX (.list aX)))))))),dI,dI,dI,dO,dI,dI,dI,dO,dI,dI,dI,dI,dI,dI,dI,(.kb false),(.ki .u32 (0)),(.ki .u8 (0)),(.ki .i64 (0)),(.kb false),(.dat (.int .u32)),(.ki .u32 (0)),(.ki .u32 (0)),(.pt 20000210 0),dI,dI,(.own 20000268 62 (.list (.int .i16)))]:List CS)++([(.dat (.list (.pair ak ak))),(.own 20000269 234 (.pair aX (.pair .bool (.pair (.int .u32) ak)))),(.own 20000270 31 (.int .u32)),dI,dI,dI,dI,dI,dI,dI,dO]:List CS)),.mix 20000210 [(.kb true),(.dat (.list (.pair .bool (.pair ak (.pair .bool ak))))),(.own 20000271 112 (.pair (.pair .bool (.pair ak (.pair .bool ak))) (.pair ak (.pair .str (.pair .str (.pair ak (.pair .bool (.list aX)))))))),dI,dI,dI],.dead 20000251,.dead 20000211,.dead 20000252,.dead 20000253])),(325152422484593020373452059838470,(.carry [.tmp 5 false [dI],.tmp 4 false [(.own 20000254 67 (.pair .bool (.pair ak (.pair .bool ak))))]])),(635063325165220742916898816020,.unroll),(1240358056963355848235812870,(.carry [.tmp 8 false [dI],.mix 20000050 (([fB,(.ki .u32 (7)),(.dat (.int .u16)),(.dat (.int .u32)),dO,dI,dI,dI,(.kb false),(.ki .u8 (0)),(.ki .u8 (0)),(.ki .u32 (0)),(.ki .i64 (0)),(.ki .i64 (0)),(.ki .i64 (1)),(.ki .i64 (1)),(.ki .i64 (0)),(.kb false),(.ki .i64 (0)),(.ki .i64 (0)),(.ki .i64 (-1)),(.ki .i64 (-1)),(.ki .i64 (0)),(.ki .i64 (0)),.nil,(.ki .i64 (0)),(.ki .i64 (0)),(.ki .i64 (0)),(.kb false),(.ki .i64 (0)),(.ki .i64 (0)),(.ki .i64 (0)),(.kb false),(.ki .i64 (0)),(.ki .i64 (0)),(.ki .i64 (0)),(.ki .i64 (0)),(.ki .i64 (0)),(.ki .i64 (0)),(.ki .i64 (0)),(.kb false),(.ki .u32 (0)),(.ki .u8 (0)),(.ki .i64 (0)),(.kb false),(.ki .u32 (7)),(.dat (.int .u32)),(.dat (.int .u32)),fB,(.ki .u32 (8))]:List CS)++([(.ki .u16 (0)),(.ki .u32 (0)),(.kb true),(.ki .i64 (0)),(.ki .i64 (0)),(.ki .i64 (0)),(.kb false),(.ki .u8 (0)),(.ki .u8 (0)),(.ki .u32 (0)),(.ki .i64 (0)),(.ki .i64 (0)),dI,dI,dI,dO,dI,dI,dI,dI,dI,dI,(.dat (.list (.pair ak (.pair ak (.pair ak (.pair .bool (.pair aX (.list aX)))))))),dI,dI,dI,dO,dI,dI,dI,dO,dI,dI,dI,dI,dI,dI,dI,(.kb false),(.ki .u32 (0)),(.ki .u8 (0)),(.ki .i64 (0)),(.kb false),(.dat (.int .u32)),(.ki .u32 (0)),(.ki .u32 (0)),(.pt 20000010 0),dI,dI,(.own 20000256 62 (.list (.int .i16)))]:List CS)++([(.dat (.list (.pair ak ak))),(.own 20000257 234 (.pair aX (.pair .bool (.pair (.int .u32) ak)))),(.own 20000258 31 (.int .u32)),dI,dI,dI,dI,dI,dI,dI,dO]:List CS)),.mix 20000010 [(.kb true),(.dat (.list (.pair .bool (.pair ak (.pair .bool ak))))),(.own 20000259 112 (.pair (.pair .bool (.pair ak (.pair .bool ak))) (.pair ak (.pair .str (.pair .str (.pair ak (.pair .bool (.list aX)))))))),dI,dI,dI],.dead 20000051,.dead 20000011,.dead 20000052,.dead 20000053])),(166478653092435638551832217553995782,(.carry [])),(325153619321163356546547300171796,.unroll),(635065662736647214839701440518,(.carry [.tmp 7 false [dI],.mix 20000250 (([fB,(.ki .u32 (7)),(.dat (.int .u16)),(.dat (.int .u32)),dO,dI,dI,dI,(.kb false),(.ki .u8 (0)),(.ki .u8 (0)),(.ki .u32 (0)),(.ki .i64 (0)),(.ki .i64 (0)),(.ki .i64 (1)),(.ki .i64 (1)),(.ki .i64 (0)),(.kb false),(.ki .i64 (0)),(.ki .i64 (0)),(.ki .i64 (-1)),(.ki .i64 (-1)),(.ki .i64 (0)),(.ki .i64 (0)),.nil,(.ki .i64 (0)),(.ki .i64 (0)),(.ki .i64 (0)),(.kb false),(.ki .i64 (0)),(.ki .i64 (0)),(.ki .i64 (0)),(.kb false),(.ki .i64 (0)),(.ki .i64 (0)),(.ki .i64 (0)),(.ki .i64 (0)),(.ki .i64 (0)),(.ki .i64 (0)),(.ki .i64 (0)),(.kb false),(.ki .u32 (0)),(.ki .u8 (0)),(.ki .i64 (0)),(.kb false),(.ki .u32 (7)),(.dat (.int .u32)),(.dat (.int .u32)),fB,(.ki .u32 (8))]:List CS)++([(.ki .u16 (0)),(.ki .u32 (0)),(.kb true),(.ki .i64 (0)),(.ki .i64 (0)),(.ki .i64 (0)),(.kb false),(.ki .u8 (0)),(.ki .u8 (0)),(.ki .u32 (0)),(.ki .i64 (0)),(.ki .i64 (0)),dI,dI,dI,dO,dI,dI,dI,dI,dI,dI,(.dat (.list (.pair ak (.pair ak (.pair ak (.pair .bool (.pair aX (.list aX)))))))),dI,dI,dI,dO,dI,dI,dI,dO,dI,dI,dI,dI,dI,dI,dI,(.kb false),(.ki .u32 (0)),(.ki .u8 (0)),(.ki .i64 (0)),(.kb false),(.dat (.int .u32)),(.ki .u32 (0)),(.ki .u32 (0)),(.pt 20000210 0),dI,dI,(.own 20000260 62 (.list (.int .i16)))]:List CS)++([(.dat (.list (.pair ak ak))),(.own 20000261 234 (.pair aX (.pair .bool (.pair (.int .u32) ak)))),(.own 20000262 31 (.int .u32)),dI,dI,dI,dI,dI,dI,dI,dO]:List CS)),.mix 20000210 [(.kb true),(.dat (.list (.pair .bool (.pair ak (.pair .bool ak))))),(.own 20000263 112 (.pair (.pair .bool (.pair ak (.pair .bool ak))) (.pair ak (.pair .str (.pair .str (.pair ak (.pair .bool (.list aX)))))))),dI,dI,dI],.dead 20000251,.dead 20000211,.dead 20000252,.dead 20000253])),(325152422484593020373452194054165,.unroll),(43641219399578190199182464968752468590609,.unroll),(22344304332584647397823083750922285769556481,(.carry [.tmp 9 false [(.dat (.int .u16))]])),(166478653092435638551832217688211477,.unroll),(22344386578566885392656130495279344159817745,.unroll),(11440325928226245935055780475269945231677850113,(.carry [.tmp 8 false [(.dat (.int .u16))]])),(166478040312111626431207523355984385,(.carry [.tmp 13 false [dO]])),(22344304332584033381981422081313349375885329,.unroll),(85237070383327046938538095456364528129,(.carry [.tmp 13 false [dO]])),(11440325928226245321039938813600336295284178961,.unroll)]
noncomputable def gG:((Int×(Int×(Int×(Int×(List (Bool×(Int×(Bool×Int))))))))×LN)->Option Bool:=fun ((a1,(a2,(a3,(a4,a5)))),a6) =>
 au (au (au (bn (fun (v7,v8) =>
 bif (decide (v7<(a5.length:Int))) then
 bif (decide (v7<120)) then
 bif (decide ((0<=v7)/\(v7<(a5.length:Int)))) then
 ah a5[v7.toNat]? fun x9 =>
 ah (some (Int.tmod (IntKind.wrap .u64 x9.2.1) (3001:Int))) fun x11 =>
 ah (some (Int.tmod (IntKind.wrap .u64 x9.2.2.2) (3001:Int))) fun x14 =>
 bif (decide (v8.length<=v8.length)) then
 bif (decide (((List.length ((v8.take v8.length)++((x9.1,((IntKind.wrap .i64 x11),(x9.2.2.1,(IntKind.wrap .i64 x14))))::([]:List (Bool×(Int×(Bool×Int)))))))*32)<=140737488355328)) then
 ah (some ((v8.take v8.length)++((x9.1,((IntKind.wrap .i64 x11),(x9.2.2.1,(IntKind.wrap .i64 x14))))::([]:List (Bool×(Int×(Bool×Int))))))) fun x16 =>
 bif (decide (x16.length<=x16.length)) then
 some (Sum.inl ((IntKind.wrap .i64 (v7+(1:Int))),(x16.take x16.length)))
 else none
 else none
 else none
 else none
 else
 aA (bif (decide (v8.length<=v8.length)) then
 some (Sum.inl (v8.take v8.length))
 else none)
 else
 aA (bif (decide (v8.length<=v8.length)) then
 some (Sum.inl (v8.take v8.length))
 else none)) ((0:Int),([]:List (Bool×(Int×(Bool×Int)))))) fun v18 =>
 ah (aJ a1) fun x19 =>
 ah (aZ x19) fun x20 =>
 bif (!x20) then
 ah (aJ a2) fun x21 =>
 ah (aZ x21) fun x22 =>
 bif (!x22) then
 bif (decide (v18.length=v18.length)) then
 ah (aF v18) fun (x24,(x25,(x26,(x27,x28)))) =>
 au (bif (decide (a3>=1)) then
 bif (decide (a3<=a4)) then
 some (Sum.inl (decide (a4<=1000)))
 else
 some (Sum.inl false)
 else
 some (Sum.inl false)) fun v29 =>
 none
 else none
 else
 ah (ay (a3,a4)) fun x30 =>
 bif (!x30) then
 bif (decide (v18.length=v18.length)) then
 ah (aF v18) fun (x32,(x33,(x34,(x35,x36)))) =>
 au (bif (decide (a3>=1)) then
 bif (decide (a3<=a4)) then
 some (Sum.inl (decide (a4<=1000)))
 else
 some (Sum.inl false)
 else
 some (Sum.inl false)) fun v37 =>
 none
 else none
 else
 bif (decide (v18.length=v18.length)) then
 ah (aF v18) fun (x39,(x40,(x41,(x42,x43)))) =>
 au (bif (decide (a3>=1)) then
 bif (decide (a3<=a4)) then
 some (Sum.inl (decide (a4<=1000)))
 else
 some (Sum.inl false)
 else
 some (Sum.inl false)) fun v44 =>
 none
 else none
 else
 ah (ay ((1:Int),(1:Int))) fun x45 =>
 bif (!x45) then
 ah (aJ a2) fun x46 =>
 ah (aZ x46) fun x47 =>
 bif (!x47) then
 bif (decide (v18.length=v18.length)) then
 ah (aF v18) fun (x49,(x50,(x51,(x52,x53)))) =>
 au (bif (decide (a3>=1)) then
 bif (decide (a3<=a4)) then
 some (Sum.inl (decide (a4<=1000)))
 else
 some (Sum.inl false)
 else
 some (Sum.inl false)) fun v54 =>
 none
 else none
 else
 ah (ay (a3,a4)) fun x55 =>
 bif (!x55) then
 bif (decide (v18.length=v18.length)) then
 ah (aF v18) fun (x57,(x58,(x59,(x60,x61)))) =>
 au (bif (decide (a3>=1)) then
 bif (decide (a3<=a4)) then
 some (Sum.inl (decide (a4<=1000)))
 else
 some (Sum.inl false)
 else
 some (Sum.inl false)) fun v62 =>
 none
 else none
 else
 bif (decide (v18.length=v18.length)) then
 ah (aF v18) fun (x64,(x65,(x66,(x67,x68)))) =>
 au (bif (decide (a3>=1)) then
 bif (decide (a3<=a4)) then
 some (Sum.inl (decide (a4<=1000)))
 else
 some (Sum.inl false)
 else
 some (Sum.inl false)) fun v69 =>
 none
 else none
 else
 ah (aJ a2) fun x70 =>
 ah (aZ x70) fun x71 =>
 bif (!x71) then
 bif (decide (v18.length=v18.length)) then
 ah (aF v18) fun (x73,(x74,(x75,(x76,x77)))) =>
 au (bif (decide (a3>=1)) then
 bif (decide (a3<=a4)) then
 some (Sum.inl (decide (a4<=1000)))
 else
 some (Sum.inl false)
 else
 some (Sum.inl false)) fun v78 =>
 bif (false != v78) then
 none
 else
 none
 else none
 else
 ah (ay (a3,a4)) fun x79 =>
 bif (!x79) then
 bif (decide (v18.length=v18.length)) then
 ah (aF v18) fun (x81,(x82,(x83,(x84,x85)))) =>
 au (bif (decide (a3>=1)) then
 bif (decide (a3<=a4)) then
 some (Sum.inl (decide (a4<=1000)))
 else
 some (Sum.inl false)
 else
 some (Sum.inl false)) fun v86 =>
 bif (false != v86) then
 none
 else
 none
 else none
 else
 bif (decide (v18.length=v18.length)) then
 ah (aF v18) fun (x88,(x89,(x90,(x91,x92)))) =>
 au (bif (decide (a3>=1)) then
 bif (decide (a3<=a4)) then
 some (Sum.inl (decide (a4<=1000)))
 else
 some (Sum.inl false)
 else
 some (Sum.inl false)) fun v93 =>
 bif (true != v93) then
 bif (decide (x89.length=x89.length)) then
 some (Sum.inl (v93,((x19,((0:Int),((0:Int),(true,((0:Int),((0:Int),((0:Int),((0:Int),((0:Int),(x70,(a3,(a4,((0:Int),(false,((0:Int),((0:Int),((-1:Int),((-1:Int),((0:Int),((0:Int),(([]:List (Int×(Int×(Int×(Bool×(Int×LN)))))),((0:Int),((0:Int),((0:Int),(false,((0:Int),((0:Int),((0:Int),(false,((0:Int),((0:Int),((0:Int),((0:Int),((0:Int),((0:Int),((0:Int),((8:Int),((0:Int),((-1:Int),(([]:List LN),(([]:List (Int×Int)),(([]:List (Int×(Bool×(Int×Int)))),(([]:List Int),((0:Int),((0:Int),((0:Int),((0:Int),((0:Int),((0:Int),((0:Int),true)))))))))))))))))))))))))))))))))))))))))))))))))),(x88,(x89,(x90,(x91,x92)))))))
 else none
 else
 bif (decide (x89.length=x89.length)) then
 some (Sum.inl (v93,((x19,((0:Int),((0:Int),(true,((0:Int),((0:Int),((0:Int),((0:Int),((0:Int),(x70,(a3,(a4,((0:Int),(false,((0:Int),((0:Int),((-1:Int),((-1:Int),((0:Int),((0:Int),(([]:List (Int×(Int×(Int×(Bool×(Int×LN)))))),((0:Int),((0:Int),((0:Int),(false,((0:Int),((0:Int),((0:Int),(false,((0:Int),((0:Int),((0:Int),((0:Int),((0:Int),((0:Int),((0:Int),((8:Int),((0:Int),((-1:Int),(([]:List LN),(([]:List (Int×Int)),(([]:List (Int×(Bool×(Int×Int)))),(([]:List Int),((0:Int),((0:Int),((0:Int),((0:Int),((0:Int),((0:Int),((0:Int),false)))))))))))))))))))))))))))))))))))))))))))))))))),(x88,(x89,(x90,(x91,x92)))))))
 else none
 else none) fun (v94,((v95,(v96,(v97,(v98,(v99,(v100,(v101,(v102,(v103,(v104,(v105,(v106,(v107,(v108,(v109,(v110,(v111,(v112,(v113,(v114,(v115,(v116,(v117,(v118,(v119,(v120,(v121,(v122,(v123,(v124,(v125,(v126,(v127,(v128,(v129,(v130,(v131,(v132,(v133,(v134,(v135,(v136,(v137,(v138,(v139,(v140,(v141,(v142,(v143,(v144,v145)))))))))))))))))))))))))))))))))))))))))))))))))),(v146,(v147,(v148,(v149,v150)))))) =>
 bif (!v94) then
 bif ((decide (v134.length=v134.length))&&((decide (v136.length=v136.length))&&((decide (v137.length=v137.length))&&(decide (v147.length=v147.length))))) then
 some (Sum.inl (v94,((v95,(v96,(v97,(v98,(v99,(v100,(v101,(v102,(v103,(v104,(v105,(v106,(v107,(v108,(v109,(v110,(v111,(v112,(v113,(v114,(v115,(v116,(v117,(v118,(v119,(v120,(v121,(v122,(v123,(v124,(v125,(v126,(v127,(v128,(v129,(v130,(v131,(v132,(v133,(v134,(v135,(v136,(v137,(v138,(v139,(v140,(v141,(v142,(v143,(v144,v145)))))))))))))))))))))))))))))))))))))))))))))))))),(v146,(v147,(v148,(v149,v150)))))))
 else none
 else
 bif v145 then
 bif ((decide (v134.length=v134.length))&&((decide (v136.length=v136.length))&&((decide (v137.length=v137.length))&&(decide (v147.length=v147.length))))) then
 some (Sum.inl (v94,((v95,(v96,(v97,(v98,(v99,(v100,(v101,(v102,(v103,(v104,(v105,(v106,(v107,(v108,(v109,(v110,(v111,(v112,(v113,(v114,(v115,(v116,(v117,(v118,(v119,(v120,(v121,(v122,(v123,(v124,(v125,(v126,(v127,(v128,(v129,(v130,(v131,(v132,(v133,(v134,(v135,(v136,(v137,(v138,(v139,(v140,(v141,(v142,(v143,(v144,v145)))))))))))))))))))))))))))))))))))))))))))))))))),(v146,(v147,(v148,(v149,v150)))))))
 else none
 else
 au (bif ((decide (v134.length<=v134.length))&&((decide (v136.length<=v136.length))&&((decide (v137.length<=v137.length))&&(decide (v147.length<=v147.length))))) then
 bn (fun (v151,((v152,(v153,(v154,(v155,(v156,(v157,(v158,(v159,(v160,(v161,(v162,(v163,(v164,(v165,(v166,(v167,(v168,(v169,(v170,(v171,(v172,(v173,(v174,(v175,(v176,(v177,(v178,(v179,(v180,(v181,(v182,(v183,(v184,(v185,(v186,(v187,(v188,(v189,(v190,(v191,(v192,(v193,(v194,(v195,(v196,(v197,(v198,(v199,(v200,(v201,v202)))))))))))))))))))))))))))))))))))))))))))))))))),(v203,(v204,(v205,(v206,v207)))))) =>
 bif (decide (v151<60)) then
 bif (!v202) then
 bif ((decide (v191.length=v191.length))&&((decide (v193.length=v193.length))&&((decide (v194.length=v194.length))&&(decide (v204.length=v204.length))))) then
 ah (aI ((IntKind.wrap .i64 ((20:Int)*v151)),((v152,(v153,(v154,(v155,(v156,(v157,(v158,(v159,(v160,(v161,(v162,(v163,(v164,(v165,(v166,(v167,(v168,(v169,(v170,(v171,(v172,(v173,(v174,(v175,(v176,(v177,(v178,(v179,(v180,(v181,(v182,(v183,(v184,(v185,(v186,(v187,(v188,(v189,(v190,(v191,(v192,(v193,(v194,(v195,(v196,(v197,(v198,(v199,(v200,(v201,v202)))))))))))))))))))))))))))))))))))))))))))))))))),(v203,(v204,(v205,(v206,v207))))))) fun ((x210,(x211,(x212,(x213,(x214,(x215,(x216,(x217,(x218,(x219,(x220,(x221,(x222,(x223,(x224,(x225,(x226,(x227,(x228,(x229,(x230,(x231,(x232,(x233,(x234,(x235,(x236,(x237,(x238,(x239,(x240,(x241,(x242,(x243,(x244,(x245,(x246,(x247,(x248,(x249,(x250,(x251,(x252,(x253,(x254,(x255,(x256,(x257,(x258,(x259,x260)))))))))))))))))))))))))))))))))))))))))))))))))),(x261,(x262,(x263,(x264,x265))))) =>
 au (bif (decide (v151<(a6.length:Int))) then
 bif (decide ((0<=v151)/\(v151<(a6.length:Int)))) then
 ah a6[v151.toNat]? fun x266 =>
 some (Sum.inl x266)
 else none
 else
 some (Sum.inl (5000:Int))) fun v267 =>
 ah (gK (v267,v151)) fun x268 =>
 bif ((decide (x249.length=x249.length))&&((decide (x251.length=x251.length))&&((decide (x252.length=x252.length))&&(decide (x262.length=x262.length))))) then
 ah (bD (x268,((x210,(x211,(x212,(x213,(x214,(x215,(x216,(x217,(x218,(x219,(x220,(x221,(x222,(x223,(x224,(x225,(x226,(x227,(x228,(x229,(x230,(x231,(x232,(x233,(x234,(x235,(x236,(x237,(x238,(x239,(x240,(x241,(x242,(x243,(x244,(x245,(x246,(x247,(x248,(x249,(x250,(x251,(x252,(x253,(x254,(x255,(x256,(x257,(x258,(x259,x260)))))))))))))))))))))))))))))))))))))))))))))))))),(x261,(x262,(x263,(x264,x265))))))) fun ((x270,(x271,(x272,(x273,(x274,(x275,(x276,(x277,(x278,(x279,(x280,(x281,(x282,(x283,(x284,(x285,(x286,(x287,(x288,(x289,(x290,(x291,(x292,(x293,(x294,(x295,(x296,(x297,(x298,(x299,(x300,(x301,(x302,(x303,(x304,(x305,(x306,(x307,(x308,(x309,(x310,(x311,(x312,(x313,(x314,(x315,(x316,(x317,(x318,(x319,x320)))))))))))))))))))))))))))))))))))))))))))))))))),(x321,(x322,(x323,(x324,x325))))) =>
 bif ((decide (x309.length<=x309.length))&&((decide (x311.length<=x311.length))&&((decide (x312.length<=x312.length))&&(decide (x322.length<=x322.length))))) then
 some (Sum.inl ((IntKind.wrap .i64 (v151+(1:Int))),((x270,(x271,(x272,(x273,(x274,(x275,(x276,(x277,(x278,(x279,(x280,(x281,(x282,(x283,(x284,(x285,(x286,(x287,(x288,(x289,(x290,(x291,(x292,(x293,(x294,(x295,(x296,(x297,(x298,(x299,(x300,(x301,(x302,(x303,(x304,(x305,(x306,(x307,(x308,((x309.take x309.length),(x310,((x311.take x311.length),((x312.take x312.length),(x313,(x314,(x315,(x316,(x317,(x318,(x319,x320)))))))))))))))))))))))))))))))))))))))))))))))))),(x321,((x322.take x322.length),(x323,(x324,x325)))))))
 else none
 else none
 else none
 else
 aA (bif ((decide (v191.length<=v191.length))&&((decide (v193.length<=v193.length))&&((decide (v194.length<=v194.length))&&(decide (v204.length<=v204.length))))) then
 some (Sum.inl ((v152,(v153,(v154,(v155,(v156,(v157,(v158,(v159,(v160,(v161,(v162,(v163,(v164,(v165,(v166,(v167,(v168,(v169,(v170,(v171,(v172,(v173,(v174,(v175,(v176,(v177,(v178,(v179,(v180,(v181,(v182,(v183,(v184,(v185,(v186,(v187,(v188,(v189,(v190,((v191.take v191.length),(v192,((v193.take v193.length),((v194.take v194.length),(v195,(v196,(v197,(v198,(v199,(v200,(v201,v202)))))))))))))))))))))))))))))))))))))))))))))))))),(v203,((v204.take v204.length),(v205,(v206,v207))))))
 else none)
 else
 aA (bif ((decide (v191.length<=v191.length))&&((decide (v193.length<=v193.length))&&((decide (v194.length<=v194.length))&&(decide (v204.length<=v204.length))))) then
 some (Sum.inl ((v152,(v153,(v154,(v155,(v156,(v157,(v158,(v159,(v160,(v161,(v162,(v163,(v164,(v165,(v166,(v167,(v168,(v169,(v170,(v171,(v172,(v173,(v174,(v175,(v176,(v177,(v178,(v179,(v180,(v181,(v182,(v183,(v184,(v185,(v186,(v187,(v188,(v189,(v190,((v191.take v191.length),(v192,((v193.take v193.length),((v194.take v194.length),(v195,(v196,(v197,(v198,(v199,(v200,(v201,v202)))))))))))))))))))))))))))))))))))))))))))))))))),(v203,((v204.take v204.length),(v205,(v206,v207))))))
 else none)) ((0:Int),((v95,(v96,(v97,(v98,(v99,(v100,(v101,(v102,(v103,(v104,(v105,(v106,(v107,(v108,(v109,(v110,(v111,(v112,(v113,(v114,(v115,(v116,(v117,(v118,(v119,(v120,(v121,(v122,(v123,(v124,(v125,(v126,(v127,(v128,(v129,(v130,(v131,(v132,(v133,((v134.take v134.length),(v135,((v136.take v136.length),((v137.take v137.length),(v138,(v139,(v140,(v141,(v142,(v143,(v144,v145)))))))))))))))))))))))))))))))))))))))))))))))))),(v146,((v147.take v147.length),(v148,(v149,v150))))))
 else none) fun ((v327,(v328,(v329,(v330,(v331,(v332,(v333,(v334,(v335,(v336,(v337,(v338,(v339,(v340,(v341,(v342,(v343,(v344,(v345,(v346,(v347,(v348,(v349,(v350,(v351,(v352,(v353,(v354,(v355,(v356,(v357,(v358,(v359,(v360,(v361,(v362,(v363,(v364,(v365,(v366,(v367,(v368,(v369,(v370,(v371,(v372,(v373,(v374,(v375,(v376,v377)))))))))))))))))))))))))))))))))))))))))))))))))),(v378,(v379,(v380,(v381,v382))))) =>
 bif ((decide (v366.length=v366.length))&&((decide (v368.length=v368.length))&&((decide (v369.length=v369.length))&&(decide (v379.length=v379.length))))) then
 ah (aI ((IntKind.wrap .i64 (v364+(4000:Int))),((v327,(v328,(v329,(v330,(v331,(v332,(v333,(v334,(v335,(v336,(v337,(v338,(v339,(v340,(v341,(v342,(v343,(v344,(v345,(v346,(v347,(v348,(v349,(v350,(v351,(v352,(v353,(v354,(v355,(v356,(v357,(v358,(v359,(v360,(v361,(v362,(v363,(v364,(v365,(v366,(v367,(v368,(v369,(v370,(v371,(v372,(v373,(v374,(v375,(v376,v377)))))))))))))))))))))))))))))))))))))))))))))))))),(v378,(v379,(v380,(v381,v382))))))) fun ((x385,(x386,(x387,(x388,(x389,(x390,(x391,(x392,(x393,(x394,(x395,(x396,(x397,(x398,(x399,(x400,(x401,(x402,(x403,(x404,(x405,(x406,(x407,(x408,(x409,(x410,(x411,(x412,(x413,(x414,(x415,(x416,(x417,(x418,(x419,(x420,(x421,(x422,(x423,(x424,(x425,(x426,(x427,(x428,(x429,(x430,(x431,(x432,(x433,(x434,x435)))))))))))))))))))))))))))))))))))))))))))))))))),(x436,(x437,(x438,(x439,x440))))) =>
 bif ((decide (x424.length=x424.length))&&((decide (x426.length=x426.length))&&((decide (x427.length=x427.length))&&(decide (x437.length=x437.length))))) then
 ah (aV ((IntKind.wrap .i64 (x422+(200000:Int))),((x385,(x386,(x387,(x388,(x389,(x390,(x391,(x392,(x393,(x394,(x395,(x396,(x397,(x398,(x399,(x400,(x401,(x402,(x403,(x404,(x405,(x406,(x407,(x408,(x409,(x410,(x411,(x412,(x413,(x414,(x415,(x416,(x417,(x418,(x419,(x420,(x421,(x422,(x423,(x424,(x425,(x426,(x427,(x428,(x429,(x430,(x431,(x432,(x433,(x434,x435)))))))))))))))))))))))))))))))))))))))))))))))))),(x436,(x437,(x438,(x439,x440))))))) fun (x443,(x444,(x445,(x446,(x447,(x448,(x449,(x450,(x451,(x452,(x453,(x454,(x455,(x456,(x457,(x458,(x459,(x460,(x461,(x462,(x463,(x464,(x465,(x466,(x467,(x468,(x469,(x470,(x471,(x472,(x473,(x474,(x475,(x476,(x477,(x478,(x479,(x480,(x481,(x482,(x483,(x484,(x485,(x486,(x487,(x488,(x489,(x490,(x491,(x492,x493)))))))))))))))))))))))))))))))))))))))))))))))))) =>
 bif ((decide (x482.length=x482.length))&&((decide (x484.length=x484.length))&&((decide (x485.length=x485.length))&&(decide (x437.length=x437.length))))) then
 some (Sum.inl (true,((x443,(x444,(x445,(x446,(x447,(x448,(x449,(x450,(x451,(x452,(x453,(x454,(x455,(x456,(x457,(x458,(x459,(x460,(x461,(x462,(x463,(x464,(x465,(x466,(x467,(x468,(x469,(x470,(x471,(x472,(x473,(x474,(x475,(x476,(x477,(x478,(x479,(x480,(x481,(x482,(x483,(x484,(x485,(x486,(x487,(x488,(x489,(x490,(x491,(x492,x493)))))))))))))))))))))))))))))))))))))))))))))))))),(x436,(x437,(x438,(x439,x440)))))))
 else none
 else none
 else none) fun (v494,((v495,(v496,(v497,(v498,(v499,(v500,(v501,(v502,(v503,(v504,(v505,(v506,(v507,(v508,(v509,(v510,(v511,(v512,(v513,(v514,(v515,(v516,(v517,(v518,(v519,(v520,(v521,(v522,(v523,(v524,(v525,(v526,(v527,(v528,(v529,(v530,(v531,(v532,(v533,(v534,(v535,(v536,(v537,(v538,(v539,(v540,(v541,(v542,(v543,(v544,v545)))))))))))))))))))))))))))))))))))))))))))))))))),(v546,(v547,(v548,(v549,v550)))))) =>
 bif (!v494) then
 bif (!v545) then
 ah (dP ()) fun x551 =>
 some x551
 else
 some false
 else
 bif v545 then
 some false
 else
 bif (decide ((v535.length:Int)≠0)) then
 some false
 else
 au (au (bn (fun _ =>
 aA (some (Sum.inl ()))) ()) fun _ =>
 ah (aJ a1) fun x552 =>
 ah (aZ x552) fun x553 =>
 bif (!x553) then
 ah (aJ a2) fun x554 =>
 ah (aZ x554) fun x555 =>
 bif (!x555) then
 ah (aF ([]:List (Bool×(Int×(Bool×Int))))) fun (x557,(x558,(x559,(x560,x561)))) =>
 au (bif (decide (a3>=1)) then
 bif (decide (a3<=a4)) then
 some (Sum.inl (decide (a4<=1000)))
 else
 some (Sum.inl false)
 else
 some (Sum.inl false)) fun v562 =>
 none
 else
 ah (ay (a3,a4)) fun x563 =>
 bif (!x563) then
 ah (aF ([]:List (Bool×(Int×(Bool×Int))))) fun (x565,(x566,(x567,(x568,x569)))) =>
 au (bif (decide (a3>=1)) then
 bif (decide (a3<=a4)) then
 some (Sum.inl (decide (a4<=1000)))
 else
 some (Sum.inl false)
 else
 some (Sum.inl false)) fun v570 =>
 none
 else
 ah (aF ([]:List (Bool×(Int×(Bool×Int))))) fun (x572,(x573,(x574,(x575,x576)))) =>
 au (bif (decide (a3>=1)) then
 bif (decide (a3<=a4)) then
 some (Sum.inl (decide (a4<=1000)))
 else
 some (Sum.inl false)
 else
 some (Sum.inl false)) fun v577 =>
 none
 else
 ah (ay ((1:Int),(1:Int))) fun x578 =>
 bif (!x578) then
 ah (aJ a2) fun x579 =>
 ah (aZ x579) fun x580 =>
 bif (!x580) then
 ah (aF ([]:List (Bool×(Int×(Bool×Int))))) fun (x582,(x583,(x584,(x585,x586)))) =>
 au (bif (decide (a3>=1)) then
 bif (decide (a3<=a4)) then
 some (Sum.inl (decide (a4<=1000)))
 else
 some (Sum.inl false)
 else
 some (Sum.inl false)) fun v587 =>
 none
 else
 ah (ay (a3,a4)) fun x588 =>
 bif (!x588) then
 ah (aF ([]:List (Bool×(Int×(Bool×Int))))) fun (x590,(x591,(x592,(x593,x594)))) =>
 au (bif (decide (a3>=1)) then
 bif (decide (a3<=a4)) then
 some (Sum.inl (decide (a4<=1000)))
 else
 some (Sum.inl false)
 else
 some (Sum.inl false)) fun v595 =>
 none
 else
 ah (aF ([]:List (Bool×(Int×(Bool×Int))))) fun (x597,(x598,(x599,(x600,x601)))) =>
 au (bif (decide (a3>=1)) then
 bif (decide (a3<=a4)) then
 some (Sum.inl (decide (a4<=1000)))
 else
 some (Sum.inl false)
 else
 some (Sum.inl false)) fun v602 =>
 none
 else
 ah (aJ a2) fun x603 =>
 ah (aZ x603) fun x604 =>
 bif (!x604) then
 ah (aF ([]:List (Bool×(Int×(Bool×Int))))) fun (x606,(x607,(x608,(x609,x610)))) =>
 au (bif (decide (a3>=1)) then
 bif (decide (a3<=a4)) then
 some (Sum.inl (decide (a4<=1000)))
 else
 some (Sum.inl false)
 else
 some (Sum.inl false)) fun v611 =>
 bif (false != v611) then
 none
 else
 none
 else
 ah (ay (a3,a4)) fun x612 =>
 bif (!x612) then
 ah (aF ([]:List (Bool×(Int×(Bool×Int))))) fun (x614,(x615,(x616,(x617,x618)))) =>
 au (bif (decide (a3>=1)) then
 bif (decide (a3<=a4)) then
 some (Sum.inl (decide (a4<=1000)))
 else
 some (Sum.inl false)
 else
 some (Sum.inl false)) fun v619 =>
 bif (false != v619) then
 none
 else
 none
 else
 ah (aF ([]:List (Bool×(Int×(Bool×Int))))) fun (x621,(x622,(x623,(x624,x625)))) =>
 au (bif (decide (a3>=1)) then
 bif (decide (a3<=a4)) then
 some (Sum.inl (decide (a4<=1000)))
 else
 some (Sum.inl false)
 else
 some (Sum.inl false)) fun v626 =>
 bif (true != v626) then
 bif (decide (x622.length=x622.length)) then
 some (Sum.inl (v626,((x552,((0:Int),((0:Int),(true,((0:Int),((0:Int),((0:Int),((0:Int),((0:Int),(x603,(a3,(a4,((0:Int),(false,((0:Int),((0:Int),((-1:Int),((-1:Int),((0:Int),((0:Int),(([]:List (Int×(Int×(Int×(Bool×(Int×LN)))))),((0:Int),((0:Int),((0:Int),(false,((0:Int),((0:Int),((0:Int),(false,((0:Int),((0:Int),((0:Int),((0:Int),((0:Int),((0:Int),((0:Int),((8:Int),((0:Int),((-1:Int),(([]:List LN),(([]:List (Int×Int)),(([]:List (Int×(Bool×(Int×Int)))),(([]:List Int),((0:Int),((0:Int),((0:Int),((0:Int),((0:Int),((0:Int),((0:Int),true)))))))))))))))))))))))))))))))))))))))))))))))))),(x621,(x622,(x623,(x624,x625)))))))
 else none
 else
 bif (decide (x622.length=x622.length)) then
 some (Sum.inl (v626,((x552,((0:Int),((0:Int),(true,((0:Int),((0:Int),((0:Int),((0:Int),((0:Int),(x603,(a3,(a4,((0:Int),(false,((0:Int),((0:Int),((-1:Int),((-1:Int),((0:Int),((0:Int),(([]:List (Int×(Int×(Int×(Bool×(Int×LN)))))),((0:Int),((0:Int),((0:Int),(false,((0:Int),((0:Int),((0:Int),(false,((0:Int),((0:Int),((0:Int),((0:Int),((0:Int),((0:Int),((0:Int),((8:Int),((0:Int),((-1:Int),(([]:List LN),(([]:List (Int×Int)),(([]:List (Int×(Bool×(Int×Int)))),(([]:List Int),((0:Int),((0:Int),((0:Int),((0:Int),((0:Int),((0:Int),((0:Int),false)))))))))))))))))))))))))))))))))))))))))))))))))),(x621,(x622,(x623,(x624,x625)))))))
 else none) fun (v627,((v628,(v629,(v630,(v631,(v632,(v633,(v634,(v635,(v636,(v637,(v638,(v639,(v640,(v641,(v642,(v643,(v644,(v645,(v646,(v647,(v648,(v649,(v650,(v651,(v652,(v653,(v654,(v655,(v656,(v657,(v658,(v659,(v660,(v661,(v662,(v663,(v664,(v665,(v666,(v667,(v668,(v669,(v670,(v671,(v672,(v673,(v674,(v675,(v676,(v677,v678)))))))))))))))))))))))))))))))))))))))))))))))))),(v679,(v680,(v681,(v682,v683)))))) =>
 bif (!v627) then
 some false
 else
 bif v678 then
 some false
 else
 au (bif ((decide (v667.length<=v667.length))&&((decide (v669.length<=v669.length))&&((decide (v670.length<=v670.length))&&(decide (v680.length<=v680.length))))) then
 bn (fun (v684,((v685,(v686,(v687,(v688,(v689,(v690,(v691,(v692,(v693,(v694,(v695,(v696,(v697,(v698,(v699,(v700,(v701,(v702,(v703,(v704,(v705,(v706,(v707,(v708,(v709,(v710,(v711,(v712,(v713,(v714,(v715,(v716,(v717,(v718,(v719,(v720,(v721,(v722,(v723,(v724,(v725,(v726,(v727,(v728,(v729,(v730,(v731,(v732,(v733,(v734,v735)))))))))))))))))))))))))))))))))))))))))))))))))),(v736,(v737,(v738,(v739,v740)))))) =>
 bif (decide (v684<60)) then
 bif (!v735) then
 bif ((decide (v724.length=v724.length))&&((decide (v726.length=v726.length))&&((decide (v727.length=v727.length))&&(decide (v737.length=v737.length))))) then
 ah (aI ((IntKind.wrap .i64 ((20:Int)*v684)),((v685,(v686,(v687,(v688,(v689,(v690,(v691,(v692,(v693,(v694,(v695,(v696,(v697,(v698,(v699,(v700,(v701,(v702,(v703,(v704,(v705,(v706,(v707,(v708,(v709,(v710,(v711,(v712,(v713,(v714,(v715,(v716,(v717,(v718,(v719,(v720,(v721,(v722,(v723,(v724,(v725,(v726,(v727,(v728,(v729,(v730,(v731,(v732,(v733,(v734,v735)))))))))))))))))))))))))))))))))))))))))))))))))),(v736,(v737,(v738,(v739,v740))))))) fun ((x743,(x744,(x745,(x746,(x747,(x748,(x749,(x750,(x751,(x752,(x753,(x754,(x755,(x756,(x757,(x758,(x759,(x760,(x761,(x762,(x763,(x764,(x765,(x766,(x767,(x768,(x769,(x770,(x771,(x772,(x773,(x774,(x775,(x776,(x777,(x778,(x779,(x780,(x781,(x782,(x783,(x784,(x785,(x786,(x787,(x788,(x789,(x790,(x791,(x792,x793)))))))))))))))))))))))))))))))))))))))))))))))))),(x794,(x795,(x796,(x797,x798))))) =>
 au (bif (decide (v684<(a6.length:Int))) then
 bif (decide ((0<=v684)/\(v684<(a6.length:Int)))) then
 ah a6[v684.toNat]? fun x799 =>
 some (Sum.inl x799)
 else none
 else
 some (Sum.inl (5000:Int))) fun v800 =>
 ah (gK (v800,v684)) fun x801 =>
 bif ((decide (x782.length=x782.length))&&((decide (x784.length=x784.length))&&((decide (x785.length=x785.length))&&(decide (x795.length=x795.length))))) then
 ah (bD (x801,((x743,(x744,(x745,(x746,(x747,(x748,(x749,(x750,(x751,(x752,(x753,(x754,(x755,(x756,(x757,(x758,(x759,(x760,(x761,(x762,(x763,(x764,(x765,(x766,(x767,(x768,(x769,(x770,(x771,(x772,(x773,(x774,(x775,(x776,(x777,(x778,(x779,(x780,(x781,(x782,(x783,(x784,(x785,(x786,(x787,(x788,(x789,(x790,(x791,(x792,x793)))))))))))))))))))))))))))))))))))))))))))))))))),(x794,(x795,(x796,(x797,x798))))))) fun ((x803,(x804,(x805,(x806,(x807,(x808,(x809,(x810,(x811,(x812,(x813,(x814,(x815,(x816,(x817,(x818,(x819,(x820,(x821,(x822,(x823,(x824,(x825,(x826,(x827,(x828,(x829,(x830,(x831,(x832,(x833,(x834,(x835,(x836,(x837,(x838,(x839,(x840,(x841,(x842,(x843,(x844,(x845,(x846,(x847,(x848,(x849,(x850,(x851,(x852,x853)))))))))))))))))))))))))))))))))))))))))))))))))),(x854,(x855,(x856,(x857,x858))))) =>
 bif ((decide (x842.length=x842.length))&&((decide (x844.length=x844.length))&&((decide (x845.length=x845.length))&&(decide (x855.length=x855.length))))) then
 ah (aI ((IntKind.wrap .i64 ((20:Int)*v684)),((x803,(x804,(x805,(x806,(x807,(x808,(x809,(x810,(x811,(x812,(x813,(x814,(x815,(x816,(x817,(x818,(x819,(x820,(x821,(x822,(x823,(x824,(x825,(x826,(x827,(x828,(x829,(x830,(x831,(x832,(x833,(x834,(x835,(x836,(x837,(x838,(x839,(x840,(x841,(x842,(x843,(x844,(x845,(x846,(x847,(x848,(x849,(x850,(x851,(x852,x853)))))))))))))))))))))))))))))))))))))))))))))))))),(x854,(x855,(x856,(x857,x858))))))) fun ((x861,(x862,(x863,(x864,(x865,(x866,(x867,(x868,(x869,(x870,(x871,(x872,(x873,(x874,(x875,(x876,(x877,(x878,(x879,(x880,(x881,(x882,(x883,(x884,(x885,(x886,(x887,(x888,(x889,(x890,(x891,(x892,(x893,(x894,(x895,(x896,(x897,(x898,(x899,(x900,(x901,(x902,(x903,(x904,(x905,(x906,(x907,(x908,(x909,(x910,x911)))))))))))))))))))))))))))))))))))))))))))))))))),(x912,(x913,(x914,(x915,x916))))) =>
 bif (decide ((x900.length:Int) > (x782.length:Int))) then
 bif (decide ((x901.length:Int)=0)) then
 aA (aA (some false))
 else
 ah (some (IntKind.wrap .i64 ((x901.length:Int)-(1:Int)))) fun x917 =>
 bif (decide ((0<=x917)/\(x917<(x901.length:Int)))) then
 ah x901[x917.toNat]? fun x918 =>
 bif (!((decide (x918.1=(IntKind.wrap .i64 ((IntKind.wrap .i64 ((20:Int)*v684))+a3))))&&(decide (x918.2=(x782.length:Int))))) then
 aA (aA (some false))
 else
 bif ((decide (x900.length<=x900.length))&&((decide (x902.length<=x902.length))&&((decide (x903.length<=x903.length))&&(decide (x913.length<=x913.length))))) then
 some (Sum.inl ((IntKind.wrap .i64 (v684+(1:Int))),((x861,(x862,(x863,(x864,(x865,(x866,(x867,(x868,(x869,(x870,(x871,(x872,(x873,(x874,(x875,(x876,(x877,(x878,(x879,(x880,(x881,(x882,(x883,(x884,(x885,(x886,(x887,(x888,(x889,(x890,(x891,(x892,(x893,(x894,(x895,(x896,(x897,(x898,(x899,((x900.take x900.length),(x901,((x902.take x902.length),((x903.take x903.length),(x904,(x905,(x906,(x907,(x908,(x909,(x910,x911)))))))))))))))))))))))))))))))))))))))))))))))))),(x912,((x913.take x913.length),(x914,(x915,x916)))))))
 else none
 else none
 else
 bif ((decide (x900.length<=x900.length))&&((decide (x902.length<=x902.length))&&((decide (x903.length<=x903.length))&&(decide (x913.length<=x913.length))))) then
 some (Sum.inl ((IntKind.wrap .i64 (v684+(1:Int))),((x861,(x862,(x863,(x864,(x865,(x866,(x867,(x868,(x869,(x870,(x871,(x872,(x873,(x874,(x875,(x876,(x877,(x878,(x879,(x880,(x881,(x882,(x883,(x884,(x885,(x886,(x887,(x888,(x889,(x890,(x891,(x892,(x893,(x894,(x895,(x896,(x897,(x898,(x899,((x900.take x900.length),(x901,((x902.take x902.length),((x903.take x903.length),(x904,(x905,(x906,(x907,(x908,(x909,(x910,x911)))))))))))))))))))))))))))))))))))))))))))))))))),(x912,((x913.take x913.length),(x914,(x915,x916)))))))
 else none
 else none
 else none
 else none
 else
 aA (bif ((decide (v724.length<=v724.length))&&((decide (v726.length<=v726.length))&&((decide (v727.length<=v727.length))&&(decide (v737.length<=v737.length))))) then
 some (Sum.inl ((v685,(v686,(v687,(v688,(v689,(v690,(v691,(v692,(v693,(v694,(v695,(v696,(v697,(v698,(v699,(v700,(v701,(v702,(v703,(v704,(v705,(v706,(v707,(v708,(v709,(v710,(v711,(v712,(v713,(v714,(v715,(v716,(v717,(v718,(v719,(v720,(v721,(v722,(v723,((v724.take v724.length),(v725,((v726.take v726.length),((v727.take v727.length),(v728,(v729,(v730,(v731,(v732,(v733,(v734,v735)))))))))))))))))))))))))))))))))))))))))))))))))),(v736,((v737.take v737.length),(v738,(v739,v740))))))
 else none)
 else
 aA (bif ((decide (v724.length<=v724.length))&&((decide (v726.length<=v726.length))&&((decide (v727.length<=v727.length))&&(decide (v737.length<=v737.length))))) then
 some (Sum.inl ((v685,(v686,(v687,(v688,(v689,(v690,(v691,(v692,(v693,(v694,(v695,(v696,(v697,(v698,(v699,(v700,(v701,(v702,(v703,(v704,(v705,(v706,(v707,(v708,(v709,(v710,(v711,(v712,(v713,(v714,(v715,(v716,(v717,(v718,(v719,(v720,(v721,(v722,(v723,((v724.take v724.length),(v725,((v726.take v726.length),((v727.take v727.length),(v728,(v729,(v730,(v731,(v732,(v733,(v734,v735)))))))))))))))))))))))))))))))))))))))))))))))))),(v736,((v737.take v737.length),(v738,(v739,v740))))))
 else none)) ((0:Int),((v628,(v629,(v630,(v631,(v632,(v633,(v634,(v635,(v636,(v637,(v638,(v639,(v640,(v641,(v642,(v643,(v644,(v645,(v646,(v647,(v648,(v649,(v650,(v651,(v652,(v653,(v654,(v655,(v656,(v657,(v658,(v659,(v660,(v661,(v662,(v663,(v664,(v665,(v666,((v667.take v667.length),(v668,((v669.take v669.length),((v670.take v670.length),(v671,(v672,(v673,(v674,(v675,(v676,(v677,v678)))))))))))))))))))))))))))))))))))))))))))))))))),(v679,((v680.take v680.length),(v681,(v682,v683))))))
 else none) fun ((v923,(v924,(v925,(v926,(v927,(v928,(v929,(v930,(v931,(v932,(v933,(v934,(v935,(v936,(v937,(v938,(v939,(v940,(v941,(v942,(v943,(v944,(v945,(v946,(v947,(v948,(v949,(v950,(v951,(v952,(v953,(v954,(v955,(v956,(v957,(v958,(v959,(v960,(v961,(v962,(v963,(v964,(v965,(v966,(v967,(v968,(v969,(v970,(v971,(v972,v973)))))))))))))))))))))))))))))))))))))))))))))))))),(v974,(v975,(v976,(v977,v978))))) =>
 bif ((decide (v962.length=v962.length))&&((decide (v964.length=v964.length))&&((decide (v965.length=v965.length))&&(decide (v975.length=v975.length))))) then
 ah (aV ((IntKind.wrap .i64 (v960+(2000:Int))),((v923,(v924,(v925,(v926,(v927,(v928,(v929,(v930,(v931,(v932,(v933,(v934,(v935,(v936,(v937,(v938,(v939,(v940,(v941,(v942,(v943,(v944,(v945,(v946,(v947,(v948,(v949,(v950,(v951,(v952,(v953,(v954,(v955,(v956,(v957,(v958,(v959,(v960,(v961,(v962,(v963,(v964,(v965,(v966,(v967,(v968,(v969,(v970,(v971,(v972,v973)))))))))))))))))))))))))))))))))))))))))))))))))),(v974,(v975,(v976,(v977,v978))))))) fun (x981,(x982,(x983,(x984,(x985,(x986,(x987,(x988,(x989,(x990,(x991,(x992,(x993,(x994,(x995,(x996,(x997,(x998,(x999,(x1000,(x1001,(x1002,(x1003,(x1004,(x1005,(x1006,(x1007,(x1008,(x1009,(x1010,(x1011,(x1012,(x1013,(x1014,(x1015,(x1016,(x1017,(x1018,(x1019,(x1020,(x1021,(x1022,(x1023,(x1024,(x1025,(x1026,(x1027,(x1028,(x1029,(x1030,x1031)))))))))))))))))))))))))))))))))))))))))))))))))) =>
 bif (!x1031) then
 bif (decide ((x1021.length:Int)=0)) then
 ah (dP ()) fun x1032 =>
 some x1032
 else
 some false
 else
 some false
 else none
noncomputable def akv:List (Nat×CE):=[(61,VJ),(26,Ol),(10,ado),(13,aaB),(11,adr),(9,ce9),(8,ce8),(14,adw),(6,ce6)]
theorem aaT:cu Tryz.prog akv:=⟨Ju,He,aaA,Uh,aaD,akm,akp,aaL,akt,trivial⟩
noncomputable def ce4:CE:=⟨[(.tmp 0 true [fB,fB,dI,dI,(.dat (.list (.pair .bool (.pair ak (.pair .bool ak)))))]),(.tmp 1 false [(.dat (.list (.int .u16)))])],[(.tmp 0 false [dO])],gG⟩
theorem aly:aB Tryz.prog 4 ce4 :=nK aku dD aaT Tryz.func4
def xY:List (Nat×PL):=[(166478653092435638551832217553995782,.stop),(134479890,.unroll),(18049585297752081,.unroll),(2422574330006487819354625,(.carry [.tmp 4 false [(.own 10000002 67 (.pair .bool (.pair ak (.pair .bool ak))))]])),(325152422484593020373452059838470,(.carry [.tmp 5 false [dI],.tmp 4 false [(.own 10000001 67 (.pair .bool (.pair ak (.pair .bool ak))))]])),(635063325165220742916898816020,.unroll),(325152422484593020373452194054165,.unroll),(43641219399578190199182464968752468590609,.unroll),(166478040312111626431207523355984385,(.carry [.tmp 13 false [dO]])),(22344304332584033381981422081313349375885329,.unroll),(9241421688590303249,.unroll),(9241387672449319425,.unroll),(1240362622532514024912060929,.unroll),(1240358056963355848235812870,.stop)]
noncomputable def nI:((Int×(Int×(Int×(Int×(List (Bool×(Int×(Bool×Int))))))))×LN)->Option Bool:=fun ((a1,(a2,(a3,(a4,a5)))),a6) =>
 au (bn (fun (v7,v8) =>
 bif (decide (v7<(a5.length:Int))) then
 bif (decide (v7<120)) then
 bif (decide ((0<=v7)/\(v7<(a5.length:Int)))) then
 ah a5[v7.toNat]? fun x9 =>
 ah (some (Int.tmod (IntKind.wrap .u64 x9.2.1) (3001:Int))) fun x11 =>
 ah (some (Int.tmod (IntKind.wrap .u64 x9.2.2.2) (3001:Int))) fun x14 =>
 bif (decide (v8.length<=v8.length)) then
 bif (decide (((List.length ((v8.take v8.length)++((x9.1,((IntKind.wrap .i64 x11),(x9.2.2.1,(IntKind.wrap .i64 x14))))::([]:List (Bool×(Int×(Bool×Int)))))))*32)<=140737488355328)) then
 ah (some ((v8.take v8.length)++((x9.1,((IntKind.wrap .i64 x11),(x9.2.2.1,(IntKind.wrap .i64 x14))))::([]:List (Bool×(Int×(Bool×Int))))))) fun x16 =>
 bif (decide (x16.length<=x16.length)) then
 some (Sum.inl ((IntKind.wrap .i64 (v7+(1:Int))),(x16.take x16.length)))
 else none
 else none
 else none
 else none
 else
 aA (bif (decide (v8.length<=v8.length)) then
 some (Sum.inl (v8.take v8.length))
 else none)
 else
 aA (bif (decide (v8.length<=v8.length)) then
 some (Sum.inl (v8.take v8.length))
 else none)) ((0:Int),([]:List (Bool×(Int×(Bool×Int)))))) fun v18 =>
 ah (aJ a1) fun x19 =>
 ah (aZ x19) fun x20 =>
 bif (!x20) then
 ah (aJ a2) fun x21 =>
 ah (aZ x21) fun x22 =>
 bif (!x22) then
 bif (decide (v18.length=v18.length)) then
 ah (aF v18) fun (x24,(x25,(x26,(x27,x28)))) =>
 au (bif (decide (a3>=1)) then
 bif (decide (a3<=a4)) then
 some (Sum.inl (decide (a4<=1000)))
 else
 some (Sum.inl false)
 else
 some (Sum.inl false)) fun v29 =>
 bif (!v29) then
 bif (!v29) then
 some false
 else
 some false
 else
 bif (!v29) then
 some false
 else
 some false
 else none
 else
 ah (ay (a3,a4)) fun x30 =>
 bif (!x30) then
 bif (decide (v18.length=v18.length)) then
 ah (aF v18) fun (x32,(x33,(x34,(x35,x36)))) =>
 au (bif (decide (a3>=1)) then
 bif (decide (a3<=a4)) then
 some (Sum.inl (decide (a4<=1000)))
 else
 some (Sum.inl false)
 else
 some (Sum.inl false)) fun v37 =>
 bif (!v37) then
 bif (!v37) then
 some false
 else
 some false
 else
 bif (!v37) then
 some false
 else
 some false
 else none
 else
 bif (decide (v18.length=v18.length)) then
 ah (aF v18) fun (x39,(x40,(x41,(x42,x43)))) =>
 au (bif (decide (a3>=1)) then
 bif (decide (a3<=a4)) then
 some (Sum.inl (decide (a4<=1000)))
 else
 some (Sum.inl false)
 else
 some (Sum.inl false)) fun v44 =>
 bif (!v44) then
 bif (!v44) then
 some false
 else
 some false
 else
 bif (!v44) then
 some false
 else
 some false
 else none
 else
 ah (ay ((1:Int),(1:Int))) fun x45 =>
 bif (!x45) then
 ah (aJ a2) fun x46 =>
 ah (aZ x46) fun x47 =>
 bif (!x47) then
 bif (decide (v18.length=v18.length)) then
 ah (aF v18) fun (x49,(x50,(x51,(x52,x53)))) =>
 au (bif (decide (a3>=1)) then
 bif (decide (a3<=a4)) then
 some (Sum.inl (decide (a4<=1000)))
 else
 some (Sum.inl false)
 else
 some (Sum.inl false)) fun v54 =>
 bif (!v54) then
 bif (!v54) then
 some false
 else
 some false
 else
 bif (!v54) then
 some false
 else
 some false
 else none
 else
 ah (ay (a3,a4)) fun x55 =>
 bif (!x55) then
 bif (decide (v18.length=v18.length)) then
 ah (aF v18) fun (x57,(x58,(x59,(x60,x61)))) =>
 au (bif (decide (a3>=1)) then
 bif (decide (a3<=a4)) then
 some (Sum.inl (decide (a4<=1000)))
 else
 some (Sum.inl false)
 else
 some (Sum.inl false)) fun v62 =>
 bif (!v62) then
 bif (!v62) then
 some false
 else
 some false
 else
 bif (!v62) then
 some false
 else
 some false
 else none
 else
 bif (decide (v18.length=v18.length)) then
 ah (aF v18) fun (x64,(x65,(x66,(x67,x68)))) =>
 au (bif (decide (a3>=1)) then
 bif (decide (a3<=a4)) then
 some (Sum.inl (decide (a4<=1000)))
 else
 some (Sum.inl false)
 else
 some (Sum.inl false)) fun v69 =>
 bif (!v69) then
 bif (!v69) then
 some false
 else
 some false
 else
 bif (!v69) then
 some false
 else
 some false
 else none
 else
 ah (aJ a2) fun x70 =>
 ah (aZ x70) fun x71 =>
 bif (!x71) then
 bif (decide (v18.length=v18.length)) then
 ah (aF v18) fun (x73,(x74,(x75,(x76,x77)))) =>
 au (bif (decide (a3>=1)) then
 bif (decide (a3<=a4)) then
 some (Sum.inl (decide (a4<=1000)))
 else
 some (Sum.inl false)
 else
 some (Sum.inl false)) fun v78 =>
 bif (false != v78) then
 bif (!v78) then
 bif (!v78) then
 some false
 else
 some false
 else
 bif (!v78) then
 some false
 else
 some false
 else
 bif (!v78) then
 bif (!v78) then
 ah (dP ()) fun x79 =>
 some x79
 else
 none
 else
 none
 else none
 else
 ah (ay (a3,a4)) fun x80 =>
 bif (!x80) then
 bif (decide (v18.length=v18.length)) then
 ah (aF v18) fun (x82,(x83,(x84,(x85,x86)))) =>
 au (bif (decide (a3>=1)) then
 bif (decide (a3<=a4)) then
 some (Sum.inl (decide (a4<=1000)))
 else
 some (Sum.inl false)
 else
 some (Sum.inl false)) fun v87 =>
 bif (false != v87) then
 bif (!v87) then
 bif (!v87) then
 some false
 else
 some false
 else
 bif (!v87) then
 some false
 else
 some false
 else
 bif (!v87) then
 bif (!v87) then
 ah (dP ()) fun x88 =>
 some x88
 else
 none
 else
 none
 else none
 else
 bif (decide (v18.length=v18.length)) then
 ah (aF v18) fun (x90,(x91,(x92,(x93,x94)))) =>
 au (bif (decide (a3>=1)) then
 bif (decide (a3<=a4)) then
 some (Sum.inl (decide (a4<=1000)))
 else
 some (Sum.inl false)
 else
 some (Sum.inl false)) fun v95 =>
 bif (true != v95) then
 bif (!v95) then
 bif (!v95) then
 some false
 else
 some false
 else
 bif (!v95) then
 some false
 else
 some false
 else
 bif (!v95) then
 bif (!v95) then
 ah (dP ()) fun x96 =>
 some x96
 else
 none
 else
 none
 else none
noncomputable def xZ:List (Nat×CE):=[(61,VJ),(26,Ol),(13,aaB),(14,adw),(6,ce6)]
theorem uw:cu Tryz.prog xZ:=⟨Ju,He,Uh,aaL,akt,trivial⟩
noncomputable def zF:CE:=⟨[(.tmp 0 true [fB,fB,dI,dI,(.dat (.list (.pair .bool (.pair ak (.pair .bool ak)))))]),(.tmp 1 false [(.dat (.list (.int .u16)))])],[(.tmp 0 false [dO])],nI⟩
theorem yT:aB Tryz.prog 4 zF :=nK xY dD uw Tryz.func4
set_option maxRecDepth 100000
set_option maxHeartbeats 4000000
theorem Ou {a1 a2 a3 a4:Int} {a5:List FT} {a6:List Int} (h1:0<=a1) (h2:0<=a2) (hv:¬(1<=a3/\a3<=a4/\a4<=1000)):nI ((a1,(a2,(a3,(a4,a5)))),a6)=some true:=by
 unfold nI;refine So.eq (So.join (P:=adz) (Oq a5) fun l hl=>So.bind (pF h1) fun a ha=>So.is (lK ha) (So.tr rfl (So.is Lp (So.tr rfl (So.bind (pF h2) fun b hb=>So.is (lK hb) (So.tr rfl (So.is yO ?_)))))));refine So.nf (decide_eq_false hv) (So.pos rfl (So.is (Lm hl.1 (by have:=hl.2;omega)) (So.join (Ho a3 a4) fun v hv' => ?_)));rw [decide_eq_false hv] at hv';subst hv';exact So.bne rfl (So.nf rfl (So.nf rfl Ot))
theorem adA {v:Vl} {c:Ca} (h:LV v) {n:Int} (hn:v.now<=n/\n<=1000000) (hq:∀w∈v.p.j.q,w.1<=n) :
 So (aV (n,(v.t,c.t))) (fun r=>∃v':Vl,r=v'.t/\v'.fails=false/\v'.due=[]):=by
 refine (Lj h (n:=n) hn).imp fun r hr => ?_;obtain ⟨u,rfl,z1,z2,_⟩:=hr;refine ⟨u,rfl,z1,?_⟩;rw [z2];have hd:left n v.p.j.q=[]:=by
  unfold left;have:∀q:List WT,(∀w∈q,w.1<=n)->q.dropWhile (fun w=>decide (w.1<=n))=[]:=fun q=>by
   induction q with
   | nil=>intro _;rfl
   | cons w q ih =>
     intro hq;rw [List.dropWhile_cons,if_pos (decide_eq_true (hq w (List.mem_cons_self ..)))];exact ih fun x hx=>hq x (List.mem_cons_of_mem _ hx)
  exact this _ hq
 rw [hd];rfl
def TkP (s:Bool×(VT×(List FT×(List Jv×(Int×(Int×Int)))))):Prop:=∃(v:Vl) (c:Ca),s=(true,(v.t,c.t))/\v.fails=false/\v.due=[]
def RXv (a3:Int) (s:Int×(VT×(List FT×(List Jv×(Int×(Int×Int)))))):Prop:=∃(n:Nat) (v:Vl) (c:Ca),s=((n:Int),(v.t,c.t))/\n<=60/\RE a3 n v c/\20*(n:Int)<=v.now+20
def RZv (a3:Int) (s:VT×(List FT×(List Jv×(Int×(Int×Int))))):Prop:=∃(v:Vl) (c:Ca),s=(v.t,c.t)/\RE a3 60 v c/\1180<=v.now
theorem adB {l:List (Int×Int)} {x:Int×Int}:(l++[x])[(((l++[x]).length:Nat)-1:Int).toNat]? = some x:=by
 have:(((l++[x]).length:Nat)-1:Int).toNat=l.length:=by rw [List.length_append];simp only [List.length_cons,List.length_nil];omega
 rw [this,List.getElem?_append_right (Nat.le_refl _),Nat.sub_self];rfl
theorem Lr {a1 a2 a3 a4:Int} {a5:List FT} {a6:List Int} (h1:0<=a1) (h2:0<=a2) (hv:1<=a3/\a3<=a4/\a4<=1000):gG ((a1,(a2,(a3,(a4,a5)))),a6)=some true:=by
 unfold gG;refine So.eq (So.join (P:=TkP) ?_ fun s hs => ?_)
 ·refine So.join (P:=fun s=>BeP s a3 a4) ?_ fun s hs => ?_
  ·refine So.join (P:=adz) (Oq a5) fun l hl=>So.bind (pF h1) fun a ha=>So.is (lK ha) (So.tr rfl (So.is Lp (So.tr rfl (So.bind (pF h2) fun b hb=>So.is (lK hb) (So.tr rfl (So.is yO ?_))))));refine So.tr (decide_eq_true hv) (So.pos rfl (So.is (Lm hl.1 (by have:=hl.2;omega)) (So.join (Ho a3 a4) fun v hv' => ?_)));rw [decide_eq_true hv] at hv';subst hv';exact So.bne rfl (So.pos rfl (.inl ⟨a,b,l,rfl,ha,hb,hl.1⟩))
  ·obtain ⟨a,b,fs,rfl,ha,hb,hf⟩:=hs;refine So.tr rfl (So.fl rfl (So.join (P:=REv) (So.le4 (So.loop RIv (fun s=>(60-s.1).toNat) (fun s hs => ?_) ⟨0,iD a b a3 a4,lZ fs,rfl,by omega,aaQ ha hb hv hf⟩)) fun s hs => ?_))
   ·obtain ⟨n,v,c,rfl,hn,hr⟩:=hs;have hend:REv (v.t,c.t):=⟨n,v,c,rfl,hn,hr⟩
    refine So.dec (p:=(n:Int)<60) (fun hi=>So.nf hr.gk.lv.ff (So.eq4 (So.bind (P:=fun r=>∃(v':Vl) (c':Ca),r=(v'.t,c'.t)/\GK v' v' [] c'/\v'.f=v.f/\v'.sent=v.sent/\v'.now=20*n) ?_ fun r hr' => ?_))) fun hi => .out (So.le4 (.inl ?_))
    ·rw [aj (n:=20*(n:Int)) (by omega)];exact Uk hr (by omega) (by omega)
    ·obtain ⟨v',c',rfl,k1,k2,k3,k4⟩:=hr';refine So.join (P:=fun _=>True) (So.dec (fun h=>So.pos ⟨by omega,h⟩ (So.get (show (n:Int).toNat<a6.length by omega) fun x _ _ => .inl trivial)) fun _ => .inl trivial) fun x _=>So.bind (Ll x _) fun fr hfr=>So.eq4 (So.bind (Ul (i:=n) k1 (by rw [k2];exact hr.tm) (by rw [k3];exact hr.sl) k4 (by omega) hfr.1 hfr.2) fun r hr' => ?_);obtain ⟨w,c2,rfl,_,hw⟩:=hr';refine So.le4 (.inl ⟨⟨n+1,w,c2,?_,by omega,hw⟩,?_⟩)
     ·simp only [Vl.t,Ca.t,List.take_length];rw [aj (n:=(n:Int)+1) (by omega)];rfl
     ·show (60-IntKind.wrap .i64 ((n:Int)+1)).toNat<(60-(n:Int)).toNat;rw [aj (by omega)];omega
    ·simp only [Vl.t,Ca.t,List.take_length];exact hend
   ·obtain ⟨n,v,c,rfl,hn,hr⟩:=hs;have hnw:=hr.gk.lv.nw;have hnn:=hr.nw;refine So.eq4 (So.bind (P:=fun r=>∃(v':Vl) (c':Ca),r=(v'.t,c'.t)/\GK v' v' [] c'/\v'.f=v.f/\v'.sent=v.sent/\v'.now=v.now+4000) ?_ fun r hr' => ?_)
    ·show So (aI (IntKind.wrap .i64 (v.now+4000),(v.t,c.t))) _;rw [aj (n:=v.now+4000) (by omega)];exact Uk hr (by omega) (by omega)
    ·obtain ⟨v',c',rfl,k1,k2,k3,k4⟩:=hr';refine So.eq4 (So.bind (P:=fun r=>∃v':Vl,r=v'.t/\v'.fails=false/\v'.due=[]) ?_ fun r hr' => ?_)
     ·show So (aV (IntKind.wrap .i64 (v'.now+200000),(v'.t,c'.t))) _;rw [aj (n:=v'.now+200000) (by omega)];exact aaP k1.lv (by omega)
     ·obtain ⟨u,rfl,z1,z2⟩:=hr';exact So.eq4 (.inl ⟨u,c',rfl,z1,z2⟩)
 ·obtain ⟨v,c,rfl,hf,hd⟩:=hs;refine So.tr rfl (So.fl hf (So.neg (by show ¬((v.due.length:Nat):Int)≠0;rw [hd];simp) (So.join (P:=fun s=>∃a b,s=(true,((iD a b a3 a4).t,(lZ []).t))/\ET a/\ET b) ?_ fun s hs => ?_)))
  ·refine So.join (P:=fun _=>True) (So.loop (fun _=>True) (fun _=>0) (fun _ _ => .out (.inl trivial)) trivial) fun _ _=>So.bind (pF h1) fun a ha=>So.is (lK ha) (So.tr rfl (So.is Lp (So.tr rfl (So.bind (pF h2) fun b hb=>So.is (lK hb) (So.tr rfl (So.is yO ?_))))));refine So.tr (decide_eq_true hv) (So.is (Lm (fs:=[]) (fun f hf=>(by cases hf)) (by decide)) (So.join (Ho a3 a4) fun v hv' => ?_));rw [decide_eq_true hv] at hv';subst hv';exact So.bne rfl (So.pos rfl (.inl ⟨a,b,rfl,ha,hb⟩))
  ·obtain ⟨a,b,rfl,ha,hb⟩:=hs;refine So.tr rfl (So.fl rfl (So.join (P:=RZv a3) (So.le4 (So.loop (RXv a3) (fun s=>(60-s.1).toNat) (fun s hs => ?_) ⟨0,iD a b a3 a4,lZ [],rfl,by omega,aaR ha hb hv,by show (20:Int)*0<=0+20;decide⟩)) fun s hs => ?_))
   ·obtain ⟨n,v,c,rfl,hn,hr,hnl⟩:=hs;refine So.dec (p:=(n:Int)<60) (fun hi=>So.nf hr.gk.lv.ff (So.eq4 (So.bind (P:=fun r=>∃(v':Vl) (c':Ca),r=(v'.t,c'.t)/\RE a3 n v' c'/\v'.now=20*n/\v'.sent=v.sent) ?_ fun r hr' => ?_))) fun hi => .out (So.le4 (.inl ?_))
    ·rw [aj (n:=20*(n:Int)) (by omega)];exact alv hr (by omega)
    ·obtain ⟨v',c',rfl,k1,k2,k3⟩:=hr';refine So.join (P:=fun _=>True) (So.dec (fun h=>So.pos ⟨by omega,h⟩ (So.get (show (n:Int).toNat<a6.length by omega) fun x _ _ => .inl trivial)) fun _ => .inl trivial) fun x _=>So.bind (Ll x _) fun fr hfr=>So.eq4 (So.bind (alx k1 k2 (by omega) hfr.1 hfr.2) fun r hr' => ?_);obtain ⟨v2,c2,rfl,hu⟩:=hr';rw [aj (n:=20*(n:Int)) (by omega)];refine So.eq4 (So.bind hu fun r hr' => ?_);obtain ⟨w,c3,rfl,hw,hwn,how⟩:=hr';have hgo:∀ {β:Type} {Q:β->Prop},So (some (Sum.inl (IntKind.wrap .i64 ((n:Int)+1),(w.t,c3.t)))) (Sm (fun y=>RXv a3 y/\(60-y.1).toNat<(60-(n:Int)).toNat) Q):=by
      intro β Q;refine .inl ⟨⟨n+1,w,c3,?_,by omega,hw,by rw [hwn];omega⟩,?_⟩
      ·rw [aj (n:=(n:Int)+1) (by omega)];rfl
      ·show (60-IntKind.wrap .i64 ((n:Int)+1)).toNat<(60-(n:Int)).toNat;rw [aj (by omega)];omega
     have hs0:0<=(v'.sent.length:Int):=by omega
     rcases how with e | ⟨e,l,hd⟩
     ·refine So.neg (p:=((w.sent.length:Nat):Int) > ((v'.sent.length:Nat):Int)) (by rw [e];omega) (So.le4 ?_);simp only [Vl.t,Ca.t,List.take_length];exact hgo
     ·have hq:w.due.length<=190:=by
       obtain ⟨_,_,_,_,_,_,_,_,q1,q2,q3,q4⟩:=hw.gk.lv.pv.2.1.1;rw [hw.gk.lv.due,List.length_map];omega
      have hlen:w.due.length=l.length+1:=by rw [hd,List.length_append];rfl
      refine So.pos (p:=((w.sent.length:Nat):Int) > ((v'.sent.length:Nat):Int)) (by omega) (So.neg (p:=((w.due.length:Nat):Int)=0) (by omega) (So.is rfl ?_));have hwr:IntKind.wrap .i64 (((w.due.length:Nat):Int)-1)=((w.due.length:Nat):Int)-1:=aj (by omega);rw [hwr];refine So.pos (by omega) (So.is (a:=(20*(n:Int)+a3,(v'.sent.length:Int))) ?_ (So.tr ?_ (So.le4 ?_)))
      ·show w.due[_]? = _;rw [hd];exact adB
      ·rw [aj (n:=20*(n:Int)+a3) (by omega)];simp
      ·simp only [Vl.t,Ca.t,List.take_length];exact hgo
    ·simp only [Vl.t,Ca.t,List.take_length];have:(n:Int)=60:=by omega
     exact ⟨v,c,rfl,by rw [<-this];exact hr,by omega⟩
   ·obtain ⟨v,c,rfl,hr,hl⟩:=hs;have hnw:=hr.nw;refine So.eq4 (So.bind (P:=fun r=>∃v':Vl,r=v'.t/\v'.fails=false/\v'.due=[]) ?_ fun r hr' => ?_)
    ·show So (aV (IntKind.wrap .i64 (v.now+2000),(v.t,c.t))) _;rw [aj (n:=v.now+2000) (by omega)];exact adA hr.gk.lv (by omega) fun w hw=>by have:=hr.ex.q w hw;rw [hr.le] at this;omega
    ·obtain ⟨u,rfl,z1,z2⟩:=hr';exact So.nf z1 (So.pos (by rw [z2];rfl) Ot)
theorem Ij (a:(bQ [(.tmp 0 true [(.dat (.int .u8)),(.dat (.int .u8)),(.dat (.int .i64)),(.dat (.int .i64)),(.dat (.list (.pair .bool (.pair (.int .i64) (.pair .bool (.int .i64))))))]),(.tmp 1 false [(.dat (.list (.int .u16)))])]).T) (h:Qz _ a):gG a=some true\/nI a=some true:=by
 obtain ⟨⟨a1,a2,a3,a4,a5⟩,a6⟩:=a;have h1:0<=a1:=(ajz h.1.1).1;have h2:0<=a2:=(ajz h.1.2.1).1;by_cases hv:1<=a3/\a3<=a4/\a4<=1000
 ·exact .inl (Lr h1 h2 hv)
 ·exact .inr (Ou h1 h2 hv)
end Go.Proofs.YtigfeinnobfflaaGreat
