import Derived.Test.YtigfeinnobfflaaGreatZ3p
import Derived.Test.YtigfeinnobfflaaGreatXBp
import Derived.Test.YtigfeinnobfflaaGreatU3p
import Derived.Test.YtigfeinnobfflaaGreatZ2p
set_option linter.unusedSimpArgs false
set_option linter.unusedVariables false
set_option maxRecDepth 1000000
set_option maxHeartbeats 0
namespace Go.Proofs.YtigfeinnobfflaaGreat
open Go.RowKit
def air:List (Nat×PL):=[(68853957121,(.carry [.tmp 6 false [dI]])),(18049651735267334,(.carry [.tmp 6 false [dI]])),(35253226045953,(.carry [])),(4731607904558101301254,(.carry [.tmp 7 false [dI]]))]
noncomputable def dR:((Int×Int)×((Int×(Int×(Int×(Bool×(Int×(Int×(Int×(Int×(Int×(Int×(Int×(Int×(Int×(Bool×(Int×(Int×(Int×(Int×(Int×(Int×((List (Int×(Int×(Int×(Bool×(Int×LN))))))×(Int×(Int×(Int×(Bool×(Int×(Int×(Int×(Bool×(Int×(Int×(Int×(Int×(Int×(Int×(Int×(Int×(Int×(Int×((List LN)×((List (Int×Int))×((List (Int×(Bool×(Int×Int))))×(LN×(Int×(Int×(Int×(Int×(Int×(Int×(Int×Bool))))))))))))))))))))))))))))))))))))))))))))))))))×((List (Bool×(Int×(Bool×Int))))×((List ((Bool×(Int×(Bool×Int)))×(Int×(LU×(LU×(Int×(Bool×LN)))))))×(Int×(Int×Int))))))->Option (Bool×(Int×(Int×(Int×(Bool×(Int×(Int×(Int×(Int×(Int×(Int×(Int×(Int×(Int×(Bool×(Int×(Int×(Int×(Int×(Int×(Int×((List (Int×(Int×(Int×(Bool×(Int×LN))))))×(Int×(Int×(Int×(Bool×(Int×(Int×(Int×(Bool×(Int×(Int×(Int×(Int×(Int×(Int×(Int×(Int×(Int×(Int×((List LN)×((List (Int×Int))×((List (Int×(Bool×(Int×Int))))×(LN×(Int×(Int×(Int×(Int×(Int×(Int×(Int×Bool))))))))))))))))))))))))))))))))))))))))))))))))))):=fun ((a1,a2),((a3,(a4,(a5,(a6,(a7,(a8,(a9,(a10,(a11,(a12,(a13,(a14,(a15,(a16,(a17,(a18,(a19,(a20,(a21,(a22,(a23,(a24,(a25,(a26,(a27,(a28,(a29,(a30,(a31,(a32,(a33,(a34,(a35,(a36,(a37,(a38,(a39,(a40,(a41,(a42,(a43,(a44,(a45,(a46,(a47,(a48,(a49,(a50,(a51,(a52,a53)))))))))))))))))))))))))))))))))))))))))))))))))),(a54,(a55,(a56,(a57,a58)))))) =>
 au (bn (fun v59 =>
 bif (decide (v59<(a43.length:Int))) then
 bif (decide ((0<=v59)/\(v59<(a43.length:Int)))) then
 ah a43[v59.toNat]? fun x60 =>
 bif (decide (x60.1<a1)) then
 some (Sum.inl (IntKind.wrap .i64 (v59+(1:Int))))
 else
 bif (decide ((0<=v59)/\(v59<(a43.length:Int)))) then
 ah a43[v59.toNat]? fun x62 =>
 bif (decide (x62.1=a1)) then
 bif (decide ((0<=v59)/\(v59<(a43.length:Int)))) then
 ah a43[v59.toNat]? fun x63 =>
 bif (decide (x63.2<a2)) then
 some (Sum.inl (IntKind.wrap .i64 (v59+(1:Int))))
 else
 aA (some (Sum.inl v59))
 else none
 else
 aA (some (Sum.inl v59))
 else none
 else none
 else
 aA (some (Sum.inl v59))) (0:Int)) fun v65 =>
 au (bn (fun v66 =>
 bif (decide (v66<(a43.length:Int))) then
 bif (decide ((0<=v66)/\(v66<(a43.length:Int)))) then
 ah a43[v66.toNat]? fun x67 =>
 bif (decide (x67.2=a2)) then
 aA (aA (bif ((decide (a42.length<=a42.length))&&((decide (a44.length<=a44.length))&&(decide (a45.length<=a45.length)))) then
 some (false,(a3,(a4,(a5,(a6,(a7,(a8,(a9,(a10,(a11,(a12,(a13,(a14,(a15,(a16,(a17,(a18,(a19,(a20,(a21,(a22,(a23,(a24,(a25,(a26,(a27,(a28,(a29,(a30,(a31,(a32,(a33,(a34,(a35,(a36,(a37,(a38,(a39,(a40,(a41,((a42.take a42.length),(a43,((a44.take a44.length),((a45.take a45.length),(a46,(a47,(a48,(a49,(a50,(a51,(a52,a53)))))))))))))))))))))))))))))))))))))))))))))))))))
 else none))
 else
 some (Sum.inl (IntKind.wrap .i64 (v66+(1:Int))))
 else none
 else
 aA (some (Sum.inl ()))) (0:Int)) fun _ =>
 bif (decide ((0<=v65)/\(v65<=(a43.length:Int)))) then
 ah (some (List.take v65.toNat a43)) fun x69 =>
 bif (decide ((x69.length*16)<=140737488355328)) then
 bif (decide (x69.length<=x69.length)) then
 bif (decide (((List.length ((x69.take x69.length)++((a1,a2)::([]:List (Int×Int)))))*16)<=140737488355328)) then
 ah (some ((x69.take x69.length)++((a1,a2)::([]:List (Int×Int))))) fun x71 =>
 bif (decide ((0<=v65)/\(v65<=(a43.length:Int)))) then
 ah (some (List.drop v65.toNat a43)) fun x72 =>
 bif (decide (x71.length<=x71.length)) then
 bif (decide (((List.length ((x71.take x71.length)++x72))*16)<=140737488355328)) then
 ah (some ((x71.take x71.length)++x72)) fun x73 =>
 bif ((decide (a42.length<=a42.length))&&((decide (x73.length<=x73.length))&&((decide (a44.length<=a44.length))&&(decide (a45.length<=a45.length))))) then
 some (true,(a3,(a4,(a5,(a6,(a7,(a8,(a9,(a10,(a11,(a12,(a13,(a14,(a15,(a16,(a17,(a18,(a19,(a20,(a21,(a22,(a23,(a24,(a25,(a26,(a27,(a28,(a29,(a30,(a31,(a32,(a33,(a34,(a35,(a36,(a37,(a38,(a39,(a40,(a41,((a42.take a42.length),((x73.take x73.length),((a44.take a44.length),((a45.take a45.length),(a46,(a47,(a48,(a49,(a50,(a51,(a52,a53)))))))))))))))))))))))))))))))))))))))))))))))))))
 else none
 else none
 else none
 else none
 else none
 else none
 else none
 else none
noncomputable def ais:List (Nat×CE):=[]
theorem Xl:cu Tryz.prog ais:=trivial
noncomputable def ait:CE:=⟨[.tmp 0 false [.pt 20000050 0],.tmp 1 true [.dat ak,.dat ak],.mix 20000050 cVl,.mix 20000010 Ie],[.tmp 0 false [dO],.mix 20000050 (([fB,(.ki .u32 (7)),(.dat (.int .u16)),(.dat (.int .u32)),dO,dI,dI,dI,(.kb false),(.ki .u8 (0)),(.ki .u8 (0)),(.ki .u32 (0)),(.ki .i64 (0)),(.ki .i64 (0)),(.ki .i64 (1)),(.ki .i64 (1)),(.ki .i64 (0)),(.kb false),(.ki .i64 (0)),(.ki .i64 (0)),(.ki .i64 (-1)),(.ki .i64 (-1)),(.ki .i64 (0)),(.ki .i64 (0)),.nil,(.ki .i64 (0)),(.ki .i64 (0)),(.ki .i64 (0)),(.kb false),(.ki .i64 (0)),(.ki .i64 (0)),(.ki .i64 (0)),(.kb false),(.ki .i64 (0)),(.ki .i64 (0)),(.ki .i64 (0)),(.ki .i64 (0)),(.ki .i64 (0)),(.ki .i64 (0)),(.ki .i64 (0)),(.kb false),(.ki .u32 (0)),(.ki .u8 (0)),(.ki .i64 (0)),(.kb false),(.ki .u32 (7)),(.dat (.int .u32)),(.dat (.int .u32)),fB,(.ki .u32 (8))]:List CS)++([(.ki .u16 (0)),(.ki .u32 (0)),(.kb true),(.ki .i64 (0)),(.ki .i64 (0)),(.ki .i64 (0)),(.kb false),(.ki .u8 (0)),(.ki .u8 (0)),(.ki .u32 (0)),(.ki .i64 (0)),(.ki .i64 (0)),dI,dI,dI,dO,dI,dI,dI,dI,dI,dI,(.dat (.list (.pair ak (.pair ak (.pair ak (.pair .bool (.pair aX (.list aX)))))))),dI,dI,dI,dO,dI,dI,dI,dO,dI,dI,dI,dI,dI,dI,dI,(.kb false),(.ki .u32 (0)),(.ki .u8 (0)),(.ki .i64 (0)),(.kb false),(.dat (.int .u32)),(.ki .u32 (0)),(.ki .u32 (0)),(.pt 20000010 0),dI,dI,(.own 10000001 62 (.list (.int .i16)))]:List CS)++([(.dat (.list (.pair ak ak))),(.own 10000003 234 (.pair aX (.pair .bool (.pair (.int .u32) ak)))),(.own 10000004 31 (.int .u32)),dI,dI,dI,dI,dI,dI,dI,dO]:List CS)),.dead 20000051,.dead 20000052,.dead 20000053],dR⟩
theorem aeD:aB Tryz.prog 42 ait :=
 dF (bV (plan:=fA air) (eg:=dD) KK dM (bM Xl) Tryz.func42 (by kernel_rfl) (by kernel_rfl) 10000 (fun a r h=>Eq.trans (show _=dR a from by kernel_rfl) h)) (by rfl)
def aiu:List (Nat×PL):=[(262657,(.carry [])),(35253091829766,(.carry [.tmp 5 false [dI]]))]
noncomputable def dZ:(Int×((Int×(Int×(Int×(Bool×(Int×(Int×(Int×(Int×(Int×(Int×(Int×(Int×(Int×(Bool×(Int×(Int×(Int×(Int×(Int×(Int×((List (Int×(Int×(Int×(Bool×(Int×LN))))))×(Int×(Int×(Int×(Bool×(Int×(Int×(Int×(Bool×(Int×(Int×(Int×(Int×(Int×(Int×(Int×(Int×(Int×(Int×((List LN)×((List (Int×Int))×((List (Int×(Bool×(Int×Int))))×(LN×(Int×(Int×(Int×(Int×(Int×(Int×(Int×Bool))))))))))))))))))))))))))))))))))))))))))))))))))×((List (Bool×(Int×(Bool×Int))))×((List ((Bool×(Int×(Bool×Int)))×(Int×(LU×(LU×(Int×(Bool×LN)))))))×(Int×(Int×Int))))))->Option Bool:=fun (a1,((a2,(a3,(a4,(a5,(a6,(a7,(a8,(a9,(a10,(a11,(a12,(a13,(a14,(a15,(a16,(a17,(a18,(a19,(a20,(a21,(a22,(a23,(a24,(a25,(a26,(a27,(a28,(a29,(a30,(a31,(a32,(a33,(a34,(a35,(a36,(a37,(a38,(a39,(a40,(a41,(a42,(a43,(a44,(a45,(a46,(a47,(a48,(a49,(a50,(a51,a52)))))))))))))))))))))))))))))))))))))))))))))))))),(a53,(a54,(a55,(a56,a57)))))) =>
 au (bn (fun v58 =>
 bif (decide (v58<(a42.length:Int))) then
 bif (decide ((0<=v58)/\(v58<(a42.length:Int)))) then
 ah a42[v58.toNat]? fun x59 =>
 bif (decide (x59.2=a1)) then
 aA (aA (some true))
 else
 some (Sum.inl (IntKind.wrap .i64 (v58+(1:Int))))
 else none
 else
 aA (some (Sum.inl ()))) (0:Int)) fun _ =>
 some false
noncomputable def aiv:List (Nat×CE):=[(42,ait)]
theorem Xm:cu Tryz.prog aiv:=⟨aeD,trivial⟩
noncomputable def aiw:CE:=⟨[.tmp 0 false [.pt 20000050 0],.tmp 1 false [.dat ak],.mix 20000050 cVl,.mix 20000010 Ie],[.tmp 0 false [dO]],dZ⟩
theorem aeE:aB Tryz.prog 43 aiw :=
 dF (bV (plan:=fA aiu) (eg:=dD) KK dM (bM Xm) Tryz.func43 (by kernel_rfl) (by kernel_rfl) 10000 (fun a r h=>Eq.trans (show _=dZ a from by kernel_rfl) h)) (by rfl)
def aix:List (Nat×PL):=[(513,(.carry [.mix 20000050 (([fB,(.ki .u32 (7)),(.dat (.int .u16)),(.dat (.int .u32)),dO,dI,dI,dI,(.kb false),(.ki .u8 (0)),(.ki .u8 (0)),(.ki .u32 (0)),(.ki .i64 (0)),(.ki .i64 (0)),(.ki .i64 (1)),(.ki .i64 (1)),(.ki .i64 (0)),(.kb false),(.ki .i64 (0)),(.ki .i64 (0)),(.ki .i64 (-1)),(.ki .i64 (-1)),(.ki .i64 (0)),(.ki .i64 (0)),.nil,(.ki .i64 (0)),(.ki .i64 (0)),(.ki .i64 (0)),(.kb false),(.ki .i64 (0)),(.ki .i64 (0)),(.ki .i64 (0)),(.kb false),(.ki .i64 (0)),(.ki .i64 (0)),(.ki .i64 (0)),(.ki .i64 (0)),(.ki .i64 (0)),(.ki .i64 (0)),(.ki .i64 (0)),(.kb false),(.ki .u32 (0)),(.ki .u8 (0)),(.ki .i64 (0)),(.kb false),(.ki .u32 (7)),(.dat (.int .u32)),(.dat (.int .u32)),fB,(.ki .u32 (8))]:List CS)++([(.ki .u16 (0)),(.ki .u32 (0)),(.kb true),(.ki .i64 (0)),(.ki .i64 (0)),(.ki .i64 (0)),(.kb false),(.ki .u8 (0)),(.ki .u8 (0)),(.ki .u32 (0)),(.ki .i64 (0)),(.ki .i64 (0)),dI,dI,dI,dO,dI,dI,dI,dI,dI,dI,(.dat (.list (.pair ak (.pair ak (.pair ak (.pair .bool (.pair aX (.list aX)))))))),dI,dI,dI,dO,dI,dI,dI,dO,dI,dI,dI,dI,dI,dI,dI,(.kb false),(.ki .u32 (0)),(.ki .u8 (0)),(.ki .i64 (0)),(.kb false),(.dat (.int .u32)),(.ki .u32 (0)),(.ki .u32 (0)),(.pt 20000010 0),dI,dI,(.own 10000007 62 (.list (.int .i16)))]:List CS)++([(.dat (.list (.pair ak ak))),(.own 10000008 234 (.pair aX (.pair .bool (.pair (.int .u32) ak)))),(.own 10000009 31 (.int .u32)),dI,dI,dI,dI,dI,dI,dI,dO]:List CS)),.dead 20000052,.dead 20000051,.dead 20000053])),(68719740934,(.carry [.tmp 4 false [dI],.mix 20000050 (([fB,(.ki .u32 (7)),(.dat (.int .u16)),(.dat (.int .u32)),dO,dI,dI,dI,(.kb false),(.ki .u8 (0)),(.ki .u8 (0)),(.ki .u32 (0)),(.ki .i64 (0)),(.ki .i64 (0)),(.ki .i64 (1)),(.ki .i64 (1)),(.ki .i64 (0)),(.kb false),(.ki .i64 (0)),(.ki .i64 (0)),(.ki .i64 (-1)),(.ki .i64 (-1)),(.ki .i64 (0)),(.ki .i64 (0)),.nil,(.ki .i64 (0)),(.ki .i64 (0)),(.ki .i64 (0)),(.kb false),(.ki .i64 (0)),(.ki .i64 (0)),(.ki .i64 (0)),(.kb false),(.ki .i64 (0)),(.ki .i64 (0)),(.ki .i64 (0)),(.ki .i64 (0)),(.ki .i64 (0)),(.ki .i64 (0)),(.ki .i64 (0)),(.kb false),(.ki .u32 (0)),(.ki .u8 (0)),(.ki .i64 (0)),(.kb false),(.ki .u32 (7)),(.dat (.int .u32)),(.dat (.int .u32)),fB,(.ki .u32 (8))]:List CS)++([(.ki .u16 (0)),(.ki .u32 (0)),(.kb true),(.ki .i64 (0)),(.ki .i64 (0)),(.ki .i64 (0)),(.kb false),(.ki .u8 (0)),(.ki .u8 (0)),(.ki .u32 (0)),(.ki .i64 (0)),(.ki .i64 (0)),dI,dI,dI,dO,dI,dI,dI,dI,dI,dI,(.dat (.list (.pair ak (.pair ak (.pair ak (.pair .bool (.pair aX (.list aX)))))))),dI,dI,dI,dO,dI,dI,dI,dO,dI,dI,dI,dI,dI,dI,dI,(.kb false),(.ki .u32 (0)),(.ki .u8 (0)),(.ki .i64 (0)),(.kb false),(.dat (.int .u32)),(.ki .u32 (0)),(.ki .u32 (0)),(.pt 20000010 0),dI,dI,(.own 10000001 62 (.list (.int .i16)))]:List CS)++([(.dat (.list (.pair ak ak))),(.own 10000002 234 (.pair aX (.pair .bool (.pair (.int .u32) ak)))),(.own 10000003 31 (.int .u32)),dI,dI,dI,dI,dI,dI,dI,dO]:List CS)),.dead 20000052,.dead 20000051,.dead 20000053])),(2417860934870064195174913,(.carry [])),(633827736910578108379932393985,(.carry [.mix 20000050 (([fB,(.ki .u32 (7)),(.dat (.int .u16)),(.dat (.int .u32)),dO,dI,dI,dI,(.kb false),(.ki .u8 (0)),(.ki .u8 (0)),(.ki .u32 (0)),(.ki .i64 (0)),(.ki .i64 (0)),(.ki .i64 (1)),(.ki .i64 (1)),(.ki .i64 (0)),(.kb false),(.ki .i64 (0)),(.ki .i64 (0)),(.ki .i64 (-1)),(.ki .i64 (-1)),(.ki .i64 (0)),(.ki .i64 (0)),.nil,(.ki .i64 (0)),(.ki .i64 (0)),(.ki .i64 (0)),(.kb false),(.ki .i64 (0)),(.ki .i64 (0)),(.ki .i64 (0)),(.kb false),(.ki .i64 (0)),(.ki .i64 (0)),(.ki .i64 (0)),(.ki .i64 (0)),(.ki .i64 (0)),(.ki .i64 (0)),(.ki .i64 (0)),(.kb false),(.ki .u32 (0)),(.ki .u8 (0)),(.ki .i64 (0)),(.kb false),(.ki .u32 (7)),(.dat (.int .u32)),(.dat (.int .u32)),fB,(.ki .u32 (8))]:List CS)++([(.ki .u16 (0)),(.ki .u32 (0)),(.kb true),(.ki .i64 (0)),(.ki .i64 (0)),(.ki .i64 (0)),(.kb false),(.ki .u8 (0)),(.ki .u8 (0)),(.ki .u32 (0)),(.ki .i64 (0)),(.ki .i64 (0)),dI,dI,dI,dO,dI,dI,dI,dI,dI,dI,(.dat (.list (.pair ak (.pair ak (.pair ak (.pair .bool (.pair aX (.list aX)))))))),dI,dI,dI,dO,dI,dI,dI,dO,dI,dI,dI,dI,dI,dI,dI,(.kb false),(.ki .u32 (0)),(.ki .u8 (0)),(.ki .i64 (0)),(.kb false),(.dat (.int .u32)),(.ki .u32 (0)),(.ki .u32 (0)),(.pt 20000010 0),dI,dI,(.own 10000010 62 (.list (.int .i16)))]:List CS)++([(.dat (.list (.pair ak ak))),(.own 10000011 234 (.pair aX (.pair .bool (.pair (.int .u32) ak)))),(.own 10000012 31 (.int .u32)),dI,dI,dI,dI,dI,dI,dI,dO]:List CS)),.dead 10000001,.dead 10000002,.dead 10000003]))]
noncomputable def bW:((List (Int×(LN×(List (Int×(Bool×(Int×Int)))))))×((Int×(Int×(Int×(Bool×(Int×(Int×(Int×(Int×(Int×(Int×(Int×(Int×(Int×(Bool×(Int×(Int×(Int×(Int×(Int×(Int×((List (Int×(Int×(Int×(Bool×(Int×LN))))))×(Int×(Int×(Int×(Bool×(Int×(Int×(Int×(Bool×(Int×(Int×(Int×(Int×(Int×(Int×(Int×(Int×(Int×(Int×((List LN)×((List (Int×Int))×((List (Int×(Bool×(Int×Int))))×(LN×(Int×(Int×(Int×(Int×(Int×(Int×(Int×Bool))))))))))))))))))))))))))))))))))))))))))))))))))×((List (Bool×(Int×(Bool×Int))))×((List ((Bool×(Int×(Bool×Int)))×(Int×(LU×(LU×(Int×(Bool×LN)))))))×(Int×(Int×Int))))))->Option (Int×(Int×(Int×(Bool×(Int×(Int×(Int×(Int×(Int×(Int×(Int×(Int×(Int×(Bool×(Int×(Int×(Int×(Int×(Int×(Int×((List (Int×(Int×(Int×(Bool×(Int×LN))))))×(Int×(Int×(Int×(Bool×(Int×(Int×(Int×(Bool×(Int×(Int×(Int×(Int×(Int×(Int×(Int×(Int×(Int×(Int×((List LN)×((List (Int×Int))×((List (Int×(Bool×(Int×Int))))×(LN×(Int×(Int×(Int×(Int×(Int×(Int×(Int×Bool)))))))))))))))))))))))))))))))))))))))))))))))))):=fun (a1,((a2,(a3,(a4,(a5,(a6,(a7,(a8,(a9,(a10,(a11,(a12,(a13,(a14,(a15,(a16,(a17,(a18,(a19,(a20,(a21,(a22,(a23,(a24,(a25,(a26,(a27,(a28,(a29,(a30,(a31,(a32,(a33,(a34,(a35,(a36,(a37,(a38,(a39,(a40,(a41,(a42,(a43,(a44,(a45,(a46,(a47,(a48,(a49,(a50,(a51,a52)))))))))))))))))))))))))))))))))))))))))))))))))),(a53,(a54,(a55,(a56,a57)))))) =>
 au (bif ((decide (a41.length<=a41.length))&&((decide (a43.length<=a43.length))&&(decide (a44.length<=a44.length)))) then
 bn (fun (v58,(v59,(v60,(v61,(v62,(v63,(v64,(v65,(v66,(v67,(v68,(v69,(v70,(v71,(v72,(v73,(v74,(v75,(v76,(v77,(v78,(v79,(v80,(v81,(v82,(v83,(v84,(v85,(v86,(v87,(v88,(v89,(v90,(v91,(v92,(v93,(v94,(v95,(v96,(v97,(v98,(v99,(v100,(v101,(v102,(v103,(v104,(v105,(v106,(v107,(v108,v109))))))))))))))))))))))))))))))))))))))))))))))))))) =>
 bif (decide (v58<(a1.length:Int))) then
 bif (decide ((0<=v58)/\(v58<(a1.length:Int)))) then
 ah a1[v58.toNat]? fun x110 =>
 bif (decide ((x110.2.2.length:Int) > 0)) then
 bif (decide ((0<=v58)/\(v58<(a1.length:Int)))) then
 ah a1[v58.toNat]? fun x111 =>
 bif (decide (v100.length<=v100.length)) then
 bif (decide (((List.length ((v100.take v100.length)++x111.2.2))*16)<=140737488355328)) then
 ah (some ((v100.take v100.length)++x111.2.2)) fun x112 =>
 bif ((decide (v98.length<=v98.length))&&((decide (x112.length<=x112.length))&&(decide (v101.length<=v101.length)))) then
 some (Sum.inl ((IntKind.wrap .i64 (v58+(1:Int))),(v59,(v60,(v61,(v62,(v63,(v64,(v65,(v66,(v67,(v68,(v69,(v70,(v71,(v72,(v73,(v74,(v75,(v76,(v77,(v78,(v79,(v80,(v81,(v82,(v83,(v84,(v85,(v86,(v87,(v88,(v89,(v90,(v91,(v92,(v93,(v94,(v95,(v96,(v97,((v98.take v98.length),(v99,((x112.take x112.length),((v101.take v101.length),(v102,(v103,(v104,(v105,(v106,(v107,(v108,v109))))))))))))))))))))))))))))))))))))))))))))))))))))
 else none
 else none
 else none
 else none
 else
 au (bif (decide ((v99.length:Int)=0)) then
 aA (aA (aA (bif ((decide (v98.length<=v98.length))&&((decide (v100.length<=v100.length))&&(decide (v101.length<=v101.length)))) then
 some (v59,(v60,(v61,(v62,(v63,(v64,(v65,(v66,(v67,(v68,(v69,(v70,(v71,(v72,(v73,(v74,(v75,(v76,(v77,(v78,(v79,(v80,(v81,(v82,(v83,(v84,(v85,(v86,(v87,(v88,(v89,(v90,(v91,(v92,(v93,(v94,(v95,(v96,(v97,((v98.take v98.length),(v99,((v100.take v100.length),((v101.take v101.length),(v102,(v103,(v104,(v105,(v106,(v107,(v108,true))))))))))))))))))))))))))))))))))))))))))))))))))
 else none)))
 else
 bif (decide ((0<=v58)/\(v58<(a1.length:Int)))) then
 ah a1[v58.toNat]? fun x114 =>
 bif (decide (((0:Int)<=0)/\(0<(v99.length:Int)))) then
 ah v99[0]? fun x115 =>
 bif (decide (x114.1≠x115.1)) then
 aA (aA (aA (bif ((decide (v98.length<=v98.length))&&((decide (v100.length<=v100.length))&&(decide (v101.length<=v101.length)))) then
 some (v59,(v60,(v61,(v62,(v63,(v64,(v65,(v66,(v67,(v68,(v69,(v70,(v71,(v72,(v73,(v74,(v75,(v76,(v77,(v78,(v79,(v80,(v81,(v82,(v83,(v84,(v85,(v86,(v87,(v88,(v89,(v90,(v91,(v92,(v93,(v94,(v95,(v96,(v97,((v98.take v98.length),(v99,((v100.take v100.length),((v101.take v101.length),(v102,(v103,(v104,(v105,(v106,(v107,(v108,true))))))))))))))))))))))))))))))))))))))))))))))))))
 else none)))
 else
 bif (decide ((0<=v58)/\(v58<(a1.length:Int)))) then
 ah a1[v58.toNat]? fun x116 =>
 bif (decide (x116.1 > v96)) then
 aA (aA (aA (bif ((decide (v98.length<=v98.length))&&((decide (v100.length<=v100.length))&&(decide (v101.length<=v101.length)))) then
 some (v59,(v60,(v61,(v62,(v63,(v64,(v65,(v66,(v67,(v68,(v69,(v70,(v71,(v72,(v73,(v74,(v75,(v76,(v77,(v78,(v79,(v80,(v81,(v82,(v83,(v84,(v85,(v86,(v87,(v88,(v89,(v90,(v91,(v92,(v93,(v94,(v95,(v96,(v97,((v98.take v98.length),(v99,((v100.take v100.length),((v101.take v101.length),(v102,(v103,(v104,(v105,(v106,(v107,(v108,true))))))))))))))))))))))))))))))))))))))))))))))))))
 else none)))
 else
 bif (decide ((0<=v58)/\(v58<(a1.length:Int)))) then
 ah a1[v58.toNat]? fun x117 =>
 bif (decide ((x117.2.1.length:Int)≠160)) then
 aA (aA (aA (bif ((decide (v98.length<=v98.length))&&((decide (v100.length<=v100.length))&&(decide (v101.length<=v101.length)))) then
 some (v59,(v60,(v61,(v62,(v63,(v64,(v65,(v66,(v67,(v68,(v69,(v70,(v71,(v72,(v73,(v74,(v75,(v76,(v77,(v78,(v79,(v80,(v81,(v82,(v83,(v84,(v85,(v86,(v87,(v88,(v89,(v90,(v91,(v92,(v93,(v94,(v95,(v96,(v97,((v98.take v98.length),(v99,((v100.take v100.length),((v101.take v101.length),(v102,(v103,(v104,(v105,(v106,(v107,(v108,true))))))))))))))))))))))))))))))))))))))))))))))))))
 else none)))
 else
 some (Sum.inl ())
 else none
 else none
 else none
 else none) fun _ =>
 bif (decide (((0:Int)<=0)/\(0<(v99.length:Int)))) then
 ah v99[0]? fun x118 =>
 bif (decide ((0<=x118.2)/\(x118.2<(v98.length:Int)))) then
 ah v98[x118.2.toNat]? fun x119 =>
 au (bif v109 then
 bif ((decide (v98.length<=v98.length))&&((decide (v100.length<=v100.length))&&(decide (v101.length<=v101.length)))) then
 some (Sum.inl (v59,(v60,(v61,(v62,(v63,(v64,(v65,(v66,(v67,(v68,(v69,(v70,(v71,(v72,(v73,(v74,(v75,(v76,(v77,(v78,(v79,(v80,(v81,(v82,(v83,(v84,(v85,(v86,(v87,(v88,(v89,(v90,(v91,(v92,(v93,(v94,(v95,(v96,(v97,((v98.take v98.length),(v99,((v100.take v100.length),((v101.take v101.length),(v102,(v103,(v104,(v105,(v106,(v107,(v108,true)))))))))))))))))))))))))))))))))))))))))))))))))))
 else none
 else
 bif (decide ((x119.length:Int) > 0)) then
 bif (decide ((0<=v58)/\(v58<(a1.length:Int)))) then
 ah a1[v58.toNat]? fun x120 =>
 ah (jc (x119,x120.2.1)) fun x121 =>
 bif ((decide (v98.length<=v98.length))&&((decide (v100.length<=v100.length))&&(decide (v101.length<=v101.length)))) then
 some (Sum.inl (v59,(v60,(v61,(v62,(v63,(v64,(v65,(v66,(v67,(v68,(v69,(v70,(v71,(v72,(v73,(v74,(v75,(v76,(v77,(v78,(v79,(v80,(v81,(v82,(v83,(v84,(v85,(v86,(v87,(v88,(v89,(v90,(v91,(v92,(v93,(v94,(v95,(v96,(v97,((v98.take v98.length),(v99,((v100.take v100.length),((v101.take v101.length),(v102,(v103,(v104,(v105,(v106,(v107,(v108,(!x121))))))))))))))))))))))))))))))))))))))))))))))))))))
 else none
 else none
 else
 bif ((decide (v98.length<=v98.length))&&((decide (v100.length<=v100.length))&&(decide (v101.length<=v101.length)))) then
 some (Sum.inl (v59,(v60,(v61,(v62,(v63,(v64,(v65,(v66,(v67,(v68,(v69,(v70,(v71,(v72,(v73,(v74,(v75,(v76,(v77,(v78,(v79,(v80,(v81,(v82,(v83,(v84,(v85,(v86,(v87,(v88,(v89,(v90,(v91,(v92,(v93,(v94,(v95,(v96,(v97,((v98.take v98.length),(v99,((v100.take v100.length),((v101.take v101.length),(v102,(v103,(v104,(v105,(v106,(v107,(v108,false)))))))))))))))))))))))))))))))))))))))))))))))))))
 else none) fun (v122,(v123,(v124,(v125,(v126,(v127,(v128,(v129,(v130,(v131,(v132,(v133,(v134,(v135,(v136,(v137,(v138,(v139,(v140,(v141,(v142,(v143,(v144,(v145,(v146,(v147,(v148,(v149,(v150,(v151,(v152,(v153,(v154,(v155,(v156,(v157,(v158,(v159,(v160,(v161,(v162,(v163,(v164,(v165,(v166,(v167,(v168,(v169,(v170,(v171,v172)))))))))))))))))))))))))))))))))))))))))))))))))) =>
 bif (decide (((0:Int)<=0)/\(0<(v162.length:Int)))) then
 ah v162[0]? fun x173 =>
 bif (decide (((0:Int)<=1)/\(1<=(v162.length:Int)))) then
 bif ((decide (v161.length<=v161.length))&&((decide (v163.length<=v163.length))&&(decide (v164.length<=v164.length)))) then
 some (Sum.inl ((IntKind.wrap .i64 (v58+(1:Int))),(v122,(v123,(v124,(v125,(v126,(v127,(v128,(v129,(v130,(v131,(v132,(v133,(v134,(v135,(v136,(v137,(v138,(v139,(v140,(v141,(v142,(v143,(v144,(v145,(v146,(v147,(v148,(v149,(v150,(v151,(v152,(v153,(v154,(v155,(v156,(v157,(v158,(v159,((bf v160 x173.2),((v161.take v161.length),((v162.drop 1),((v163.take v163.length),((v164.take v164.length),(v165,(v166,(v167,(v168,(v169,(v170,(v171,v172))))))))))))))))))))))))))))))))))))))))))))))))))))
 else none
 else none
 else none
 else none
 else none
 else none
 else
 aA (bif ((decide (v98.length<=v98.length))&&((decide (v100.length<=v100.length))&&(decide (v101.length<=v101.length)))) then
 some (Sum.inl (v59,(v60,(v61,(v62,(v63,(v64,(v65,(v66,(v67,(v68,(v69,(v70,(v71,(v72,(v73,(v74,(v75,(v76,(v77,(v78,(v79,(v80,(v81,(v82,(v83,(v84,(v85,(v86,(v87,(v88,(v89,(v90,(v91,(v92,(v93,(v94,(v95,(v96,(v97,((v98.take v98.length),(v99,((v100.take v100.length),((v101.take v101.length),(v102,(v103,(v104,(v105,(v106,(v107,(v108,v109)))))))))))))))))))))))))))))))))))))))))))))))))))
 else none)) ((0:Int),(a2,(a3,(a4,(a5,(a6,(a7,(a8,(a9,(a10,(a11,(a12,(a13,(a14,(a15,(a16,(a17,(a18,(a19,(a20,(a21,(a22,(a23,(a24,(a25,(a26,(a27,(a28,(a29,(a30,(a31,(a32,(a33,(a34,(a35,(a36,(a37,(a38,(a39,(a40,((a41.take a41.length),(a42,((a43.take a43.length),((a44.take a44.length),(a45,(a46,(a47,(a48,(a49,(a50,(a51,a52)))))))))))))))))))))))))))))))))))))))))))))))))))
 else none) fun (v176,(v177,(v178,(v179,(v180,(v181,(v182,(v183,(v184,(v185,(v186,(v187,(v188,(v189,(v190,(v191,(v192,(v193,(v194,(v195,(v196,(v197,(v198,(v199,(v200,(v201,(v202,(v203,(v204,(v205,(v206,(v207,(v208,(v209,(v210,(v211,(v212,(v213,(v214,(v215,(v216,(v217,(v218,(v219,(v220,(v221,(v222,(v223,(v224,(v225,v226)))))))))))))))))))))))))))))))))))))))))))))))))) =>
 bif v226 then
 bif ((decide (v215.length<=v215.length))&&((decide (v217.length<=v217.length))&&(decide (v218.length<=v218.length)))) then
 some (v176,(v177,(v178,(v179,(v180,(v181,(v182,(v183,(v184,(v185,(v186,(v187,(v188,(v189,(v190,(v191,(v192,(v193,(v194,(v195,(v196,(v197,(v198,(v199,(v200,(v201,(v202,(v203,(v204,(v205,(v206,(v207,(v208,(v209,(v210,(v211,(v212,(v213,(v214,((v215.take v215.length),(v216,((v217.take v217.length),((v218.take v218.length),(v219,(v220,(v221,(v222,(v223,(v224,(v225,true))))))))))))))))))))))))))))))))))))))))))))))))))
 else none
 else
 bif (decide ((v216.length:Int) > 0)) then
 bif (decide (((0:Int)<=0)/\(0<(v216.length:Int)))) then
 ah v216[0]? fun x227 =>
 bif ((decide (v215.length<=v215.length))&&((decide (v217.length<=v217.length))&&(decide (v218.length<=v218.length)))) then
 some (v176,(v177,(v178,(v179,(v180,(v181,(v182,(v183,(v184,(v185,(v186,(v187,(v188,(v189,(v190,(v191,(v192,(v193,(v194,(v195,(v196,(v197,(v198,(v199,(v200,(v201,(v202,(v203,(v204,(v205,(v206,(v207,(v208,(v209,(v210,(v211,(v212,(v213,(v214,((v215.take v215.length),(v216,((v217.take v217.length),((v218.take v218.length),(v219,(v220,(v221,(v222,(v223,(v224,(v225,(decide (x227.1<=v213))))))))))))))))))))))))))))))))))))))))))))))))))))
 else none
 else none
 else
 bif ((decide (v215.length<=v215.length))&&((decide (v217.length<=v217.length))&&(decide (v218.length<=v218.length)))) then
 some (v176,(v177,(v178,(v179,(v180,(v181,(v182,(v183,(v184,(v185,(v186,(v187,(v188,(v189,(v190,(v191,(v192,(v193,(v194,(v195,(v196,(v197,(v198,(v199,(v200,(v201,(v202,(v203,(v204,(v205,(v206,(v207,(v208,(v209,(v210,(v211,(v212,(v213,(v214,((v215.take v215.length),(v216,((v217.take v217.length),((v218.take v218.length),(v219,(v220,(v221,(v222,(v223,(v224,(v225,false))))))))))))))))))))))))))))))))))))))))))))))))))
 else none
noncomputable def aiy:List (Nat×CE):=[(60,aif),(43,aiw)]
theorem Xn:cu Tryz.prog aiy:=⟨aeB,aeE,trivial⟩
noncomputable def aiz:CE:=⟨[.tmp 0 false [.pt 20000050 0],.tmp 1 false [.dat (.list USd)],.mix 20000050 cVl,.mix 20000010 Ie],[.mix 20000050 (([fB,(.ki .u32 (7)),(.dat (.int .u16)),(.dat (.int .u32)),dO,dI,dI,dI,(.kb false),(.ki .u8 (0)),(.ki .u8 (0)),(.ki .u32 (0)),(.ki .i64 (0)),(.ki .i64 (0)),(.ki .i64 (1)),(.ki .i64 (1)),(.ki .i64 (0)),(.kb false),(.ki .i64 (0)),(.ki .i64 (0)),(.ki .i64 (-1)),(.ki .i64 (-1)),(.ki .i64 (0)),(.ki .i64 (0)),.nil,(.ki .i64 (0)),(.ki .i64 (0)),(.ki .i64 (0)),(.kb false),(.ki .i64 (0)),(.ki .i64 (0)),(.ki .i64 (0)),(.kb false),(.ki .i64 (0)),(.ki .i64 (0)),(.ki .i64 (0)),(.ki .i64 (0)),(.ki .i64 (0)),(.ki .i64 (0)),(.ki .i64 (0)),(.kb false),(.ki .u32 (0)),(.ki .u8 (0)),(.ki .i64 (0)),(.kb false),(.ki .u32 (7)),(.dat (.int .u32)),(.dat (.int .u32)),fB,(.ki .u32 (8))]:List CS)++([(.ki .u16 (0)),(.ki .u32 (0)),(.kb true),(.ki .i64 (0)),(.ki .i64 (0)),(.ki .i64 (0)),(.kb false),(.ki .u8 (0)),(.ki .u8 (0)),(.ki .u32 (0)),(.ki .i64 (0)),(.ki .i64 (0)),dI,dI,dI,dO,dI,dI,dI,dI,dI,dI,(.dat (.list (.pair ak (.pair ak (.pair ak (.pair .bool (.pair aX (.list aX)))))))),dI,dI,dI,dO,dI,dI,dI,dO,dI,dI,dI,dI,dI,dI,dI,(.kb false),(.ki .u32 (0)),(.ki .u8 (0)),(.ki .i64 (0)),(.kb false),(.dat (.int .u32)),(.ki .u32 (0)),(.ki .u32 (0)),(.pt 20000010 0),dI,dI,(.own 10000004 62 (.list (.int .i16)))]:List CS)++([(.dat (.list (.pair ak ak))),(.own 10000005 234 (.pair aX (.pair .bool (.pair (.int .u32) ak)))),(.own 10000006 31 (.int .u32)),dI,dI,dI,dI,dI,dI,dI,dO]:List CS)),.dead 20000051,.dead 20000052,.dead 20000053],bW⟩
theorem aeF:aB Tryz.prog 25 aiz :=
 dF (bV (plan:=fA aix) (eg:=dD) KK dM (bM Xn) Tryz.func25 (by kernel_rfl) (by kernel_rfl) 10000 (fun a r h=>Eq.trans (show _=bW a from by kernel_rfl) h)) (by rfl)
def aiA:List (Nat×PL):=[(134480385,(.carry [])),(4731607904558235517441,(.carry [.mix 20000050 (([fB,(.ki .u32 (7)),(.dat (.int .u16)),(.dat (.int .u32)),dO,dI,dI,dI,(.kb false),(.ki .u8 (0)),(.ki .u8 (0)),(.ki .u32 (0)),(.ki .i64 (0)),(.ki .i64 (0)),(.ki .i64 (1)),(.ki .i64 (1)),(.ki .i64 (0)),(.kb false),(.ki .i64 (0)),(.ki .i64 (0)),(.ki .i64 (-1)),(.ki .i64 (-1)),(.ki .i64 (0)),(.ki .i64 (0)),.nil,(.ki .i64 (0)),(.ki .i64 (0)),(.ki .i64 (0)),(.kb false),(.ki .i64 (0)),(.ki .i64 (0)),(.ki .i64 (0)),(.kb false),(.ki .i64 (0)),(.ki .i64 (0)),(.ki .i64 (0)),(.ki .i64 (0)),(.ki .i64 (0)),(.ki .i64 (0)),(.ki .i64 (0)),(.kb false),(.ki .u32 (0)),(.ki .u8 (0)),(.ki .i64 (0)),(.kb false),(.ki .u32 (7)),(.dat (.int .u32)),(.dat (.int .u32)),fB,(.ki .u32 (8))]:List CS)++([(.ki .u16 (0)),(.ki .u32 (0)),(.kb true),(.ki .i64 (0)),(.ki .i64 (0)),(.ki .i64 (0)),(.kb false),(.ki .u8 (0)),(.ki .u8 (0)),(.ki .u32 (0)),(.ki .i64 (0)),(.ki .i64 (0)),dI,dI,dI,dO,dI,dI,dI,dI,dI,dI,(.dat (.list (.pair ak (.pair ak (.pair ak (.pair .bool (.pair aX (.list aX)))))))),dI,dI,dI,dO,dI,dI,dI,dO,dI,dI,dI,dI,dI,dI,dI,(.kb false),(.ki .u32 (0)),(.ki .u8 (0)),(.ki .i64 (0)),(.kb false),(.dat (.int .u32)),(.ki .u32 (0)),(.ki .u32 (0)),(.pt 20000010 0),dI,dI,(.own 10000004 62 (.list (.int .i16)))]:List CS)++([(.dat (.list (.pair ak ak))),(.own 10000005 234 (.pair aX (.pair .bool (.pair (.int .u32) ak)))),(.own 10000006 31 (.int .u32)),dI,dI,dI,dI,dI,dI,dI,dO]:List CS)),.dead 38,.dead 39,.dead 40]))]
noncomputable def dA:(LN×((Int×(Int×(Int×(Bool×(Int×(Int×(Int×(Int×(Int×(Int×(Int×(Int×(Int×(Bool×(Int×(Int×(Int×(Int×(Int×(Int×((List (Int×(Int×(Int×(Bool×(Int×LN))))))×(Int×(Int×(Int×(Bool×(Int×(Int×(Int×(Bool×(Int×(Int×(Int×(Int×(Int×(Int×(Int×(Int×(Int×(Int×((List LN)×((List (Int×Int))×((List (Int×(Bool×(Int×Int))))×(LN×(Int×(Int×(Int×(Int×(Int×(Int×(Int×Bool))))))))))))))))))))))))))))))))))))))))))))))))))×((List (Bool×(Int×(Bool×Int))))×((List ((Bool×(Int×(Bool×Int)))×(Int×(LU×(LU×(Int×(Bool×LN)))))))×(Int×(Int×Int))))))->Option (Int×(Int×(Int×(Bool×(Int×(Int×(Int×(Int×(Int×(Int×(Int×(Int×(Int×(Bool×(Int×(Int×(Int×(Int×(Int×(Int×((List (Int×(Int×(Int×(Bool×(Int×LN))))))×(Int×(Int×(Int×(Bool×(Int×(Int×(Int×(Bool×(Int×(Int×(Int×(Int×(Int×(Int×(Int×(Int×(Int×(Int×((List LN)×((List (Int×Int))×((List (Int×(Bool×(Int×Int))))×(LN×(Int×(Int×(Int×(Int×(Int×(Int×(Int×Bool)))))))))))))))))))))))))))))))))))))))))))))))))):=fun (a1,((a2,(a3,(a4,(a5,(a6,(a7,(a8,(a9,(a10,(a11,(a12,(a13,(a14,(a15,(a16,(a17,(a18,(a19,(a20,(a21,(a22,(a23,(a24,(a25,(a26,(a27,(a28,(a29,(a30,(a31,(a32,(a33,(a34,(a35,(a36,(a37,(a38,(a39,(a40,(a41,(a42,(a43,(a44,(a45,(a46,(a47,(a48,(a49,(a50,(a51,a52)))))))))))))))))))))))))))))))))))))))))))))))))),(a53,(a54,(a55,(a56,a57)))))) =>
 ah (lG a1) fun ((x59,(x60,(x61,(x62,(x63,(x64,(x65,(x66,(x67,(x68,x69)))))))))),(x70,x71)) =>
 ah (kS ((a11,(a12,(a13,(a14,(a15,(a16,(a17,(a18,(a19,(a20,(a21,(a22,(a23,(a24,(a25,(a26,(a27,(a28,(a29,(a30,(a31,(a32,(a33,(a34,(a35,(a36,(a37,a38))))))))))))))))))))))))))),(a39,(x59,(x60,(x61,(x62,(x63,(x64,(x65,(x66,(x67,(x68,x69))))))))))))) fun ((x73,(x74,(x75,(x76,(x77,(x78,(x79,(x80,(x81,(x82,(x83,(x84,(x85,(x86,(x87,(x88,(x89,(x90,(x91,(x92,(x93,(x94,(x95,(x96,(x97,(x98,(x99,x100))))))))))))))))))))))))))),(x101,(x102,x103))) =>
 au (bif (decide (x71≠0)) then
 aA (bif ((decide (a41.length<=a41.length))&&((decide (a43.length<=a43.length))&&(decide (a44.length<=a44.length)))) then
 some (a2,(a3,(a4,(a5,(a6,(a7,(a8,(a9,(a10,(a11,(a12,(a13,(a14,(a15,(a16,(a17,(a18,(a19,(a20,(a21,(a22,(a23,(a24,(a25,(a26,(a27,(a28,(a29,(a30,(a31,(a32,(a33,(a34,(a35,(a36,(a37,(a38,(a39,(a40,((a41.take a41.length),(a42,((a43.take a43.length),((a44.take a44.length),(a45,(a46,(a47,(a48,(a49,(a50,(a51,true))))))))))))))))))))))))))))))))))))))))))))))))))
 else none)
 else
 bif (decide (x103≠0)) then
 aA (bif ((decide (a41.length<=a41.length))&&((decide (a43.length<=a43.length))&&(decide (a44.length<=a44.length)))) then
 some (a2,(a3,(a4,(a5,(a6,(a7,(a8,(a9,(a10,(a11,(a12,(a13,(a14,(a15,(a16,(a17,(a18,(a19,(a20,(a21,(a22,(a23,(a24,(a25,(a26,(a27,(a28,(a29,(a30,(a31,(a32,(a33,(a34,(a35,(a36,(a37,(a38,(a39,(a40,((a41.take a41.length),(a42,((a43.take a43.length),((a44.take a44.length),(a45,(a46,(a47,(a48,(a49,(a50,(a51,true))))))))))))))))))))))))))))))))))))))))))))))))))
 else none)
 else
 bif (decide ((IntKind.wrap .i64 x61)>=(a41.length:Int))) then
 aA (bif ((decide (a41.length<=a41.length))&&((decide (a43.length<=a43.length))&&(decide (a44.length<=a44.length)))) then
 some (a2,(a3,(a4,(a5,(a6,(a7,(a8,(a9,(a10,(a11,(a12,(a13,(a14,(a15,(a16,(a17,(a18,(a19,(a20,(a21,(a22,(a23,(a24,(a25,(a26,(a27,(a28,(a29,(a30,(a31,(a32,(a33,(a34,(a35,(a36,(a37,(a38,(a39,(a40,((a41.take a41.length),(a42,((a43.take a43.length),((a44.take a44.length),(a45,(a46,(a47,(a48,(a49,(a50,(a51,true))))))))))))))))))))))))))))))))))))))))))))))))))
 else none)
 else
 some (Sum.inl ())) fun _ =>
 bif ((decide (a41.length=a41.length))&&((decide (a43.length=a43.length))&&((decide (a44.length=a44.length))&&(decide (a54.length=a54.length))))) then
 ah (bW (x102,((a2,(a3,(a4,(a5,(a6,(a7,(a8,(a9,(a10,(x73,(x74,(x75,(x76,(x77,(x78,(x79,(x80,(x81,(x82,(x83,(x84,(x85,(x86,(x87,(x88,(x89,(x90,(x91,(x92,(x93,(x94,(x95,(x96,(x97,(x98,(x99,(x100,(a39,(a40,(a41,(a42,(a43,(a44,(a45,(a46,(a47,(a48,(a49,(a50,(a51,a52)))))))))))))))))))))))))))))))))))))))))))))))))),(a53,(a54,(a55,(a56,a57))))))) fun (x106,(x107,(x108,(x109,(x110,(x111,(x112,(x113,(x114,(x115,(x116,(x117,(x118,(x119,(x120,(x121,(x122,(x123,(x124,(x125,(x126,(x127,(x128,(x129,(x130,(x131,(x132,(x133,(x134,(x135,(x136,(x137,(x138,(x139,(x140,(x141,(x142,(x143,(x144,(x145,(x146,(x147,(x148,(x149,(x150,(x151,(x152,(x153,(x154,(x155,x156)))))))))))))))))))))))))))))))))))))))))))))))))) =>
 bif (decide (x60=101)) then
 bif (decide ((x148.length:Int)=0)) then
 bif (decide (x148.length<=x148.length)) then
 bif (decide (((List.length ((x148.take x148.length)++(x62::([]:List Int))))*4)<=140737488355328)) then
 ah (some ((x148.take x148.length)++(x62::([]:List Int)))) fun x157 =>
 bif ((decide (x145.length<=x145.length))&&((decide (x147.length<=x147.length))&&(decide (x157.length<=x157.length)))) then
 some (x106,(x107,(x108,(x109,(x110,(x111,(x112,(x113,(x114,(x115,(x116,(x117,(x118,(x119,(x120,(x121,(x122,(x123,(x124,(x125,(x126,(x127,(x128,(x129,(x130,(x131,(x132,(x133,(x134,(x135,(x136,(x137,(x138,(x139,(x140,(x141,(x142,(x143,(x144,((x145.take x145.length),(x146,((x147.take x147.length),((x157.take x157.length),(x149,(x150,(x151,(x152,(x153,(x154,(x155,x156))))))))))))))))))))))))))))))))))))))))))))))))))
 else none
 else none
 else none
 else
 ah (some (IntKind.wrap .i64 ((x148.length:Int)-(1:Int)))) fun x158 =>
 bif (decide ((0<=x158)/\(x158<(x148.length:Int)))) then
 ah x148[x158.toNat]? fun x159 =>
 bif (decide (x62 > x159)) then
 bif (decide (x148.length<=x148.length)) then
 bif (decide (((List.length ((x148.take x148.length)++(x62::([]:List Int))))*4)<=140737488355328)) then
 ah (some ((x148.take x148.length)++(x62::([]:List Int)))) fun x160 =>
 bif ((decide (x145.length<=x145.length))&&((decide (x147.length<=x147.length))&&(decide (x160.length<=x160.length)))) then
 some (x106,(x107,(x108,(x109,(x110,(x111,(x112,(x113,(x114,(x115,(x116,(x117,(x118,(x119,(x120,(x121,(x122,(x123,(x124,(x125,(x126,(x127,(x128,(x129,(x130,(x131,(x132,(x133,(x134,(x135,(x136,(x137,(x138,(x139,(x140,(x141,(x142,(x143,(x144,((x145.take x145.length),(x146,((x147.take x147.length),((x160.take x160.length),(x149,(x150,(x151,(x152,(x153,(x154,(x155,x156))))))))))))))))))))))))))))))))))))))))))))))))))
 else none
 else none
 else none
 else
 bif ((decide (x145.length<=x145.length))&&((decide (x147.length<=x147.length))&&(decide (x148.length<=x148.length)))) then
 some (x106,(x107,(x108,(x109,(x110,(x111,(x112,(x113,(x114,(x115,(x116,(x117,(x118,(x119,(x120,(x121,(x122,(x123,(x124,(x125,(x126,(x127,(x128,(x129,(x130,(x131,(x132,(x133,(x134,(x135,(x136,(x137,(x138,(x139,(x140,(x141,(x142,(x143,(x144,((x145.take x145.length),(x146,((x147.take x147.length),((x148.take x148.length),(x149,(x150,(x151,(x152,(x153,(x154,(x155,x156))))))))))))))))))))))))))))))))))))))))))))))))))
 else none
 else none
 else
 ah (jO ((x74,(x75,(x76,(x77,(x78,(x79,(x80,(x81,(x82,(x83,(x84,(x85,(x86,x87))))))))))))),(IntKind.wrap .i64 x62))) fun x163 =>
 au (bif (decide (x149=0)) then
 bif ((decide (x145.length<=x145.length))&&((decide (x147.length<=x147.length))&&(decide (x148.length<=x148.length)))) then
 some (Sum.inl (x106,(x107,(x108,(x109,(x110,(x111,(x112,(x113,(x114,(x115,(x116,(x117,(x118,(x119,(x120,(x121,(x122,(x123,(x124,(x125,(x126,(x127,(x128,(x129,(x130,(x131,(x132,(x133,(x134,(x135,(x136,(x137,(x138,(x139,(x140,(x141,(x142,(x143,(x144,((x145.take x145.length),(x146,((x147.take x147.length),((x148.take x148.length),(x149,((IntKind.wrap .i64 x61),((IntKind.wrap .i64 x61),(x152,(x153,(x154,(x155,x156)))))))))))))))))))))))))))))))))))))))))))))))))))
 else none
 else
 bif ((decide (x145.length<=x145.length))&&((decide (x147.length<=x147.length))&&(decide (x148.length<=x148.length)))) then
 some (Sum.inl (x106,(x107,(x108,(x109,(x110,(x111,(x112,(x113,(x114,(x115,(x116,(x117,(x118,(x119,(x120,(x121,(x122,(x123,(x124,(x125,(x126,(x127,(x128,(x129,(x130,(x131,(x132,(x133,(x134,(x135,(x136,(x137,(x138,(x139,(x140,(x141,(x142,(x143,(x144,((x145.take x145.length),(x146,((x147.take x147.length),((x148.take x148.length),(x149,(x150,(x151,(x152,(x153,(x154,(x155,x156)))))))))))))))))))))))))))))))))))))))))))))))))))
 else none) fun (v164,(v165,(v166,(v167,(v168,(v169,(v170,(v171,(v172,(v173,(v174,(v175,(v176,(v177,(v178,(v179,(v180,(v181,(v182,(v183,(v184,(v185,(v186,(v187,(v188,(v189,(v190,(v191,(v192,(v193,(v194,(v195,(v196,(v197,(v198,(v199,(v200,(v201,(v202,(v203,(v204,(v205,(v206,(v207,(v208,(v209,(v210,(v211,(v212,(v213,v214)))))))))))))))))))))))))))))))))))))))))))))))))) =>
 ah (some (IntKind.wrap .i64 (v207+(1:Int)))) fun x215 =>
 bif (decide (x101=1)) then
 bif v214 then
 bif ((decide (v203.length<=v203.length))&&((decide (v205.length<=v205.length))&&(decide (v206.length<=v206.length)))) then
 some (v164,(v165,(v166,(v167,(v168,(v169,(v170,(v171,(v172,(v173,(v174,(v175,(v176,(v177,(v178,(v179,(v180,(v181,(v182,(v183,(v184,(v185,(v186,(v187,(v188,(v189,(v190,(v191,(v192,(v193,(v194,(v195,(v196,(v197,(v198,(v199,(v200,(v201,(v202,((v203.take v203.length),(v204,((v205.take v205.length),((v206.take v206.length),(x215,((eU v208 (IntKind.wrap .i64 x61)),((bf v209 (IntKind.wrap .i64 x61)),(v210,(v211,(v212,(v213,true))))))))))))))))))))))))))))))))))))))))))))))))))
 else none
 else
 bif (decide (x163<=v201)) then
 bif ((decide (v203.length<=v203.length))&&((decide (v205.length<=v205.length))&&(decide (v206.length<=v206.length)))) then
 some (v164,(v165,(v166,(v167,(v168,(v169,(v170,(v171,(v172,(v173,(v174,(v175,(v176,(v177,(v178,(v179,(v180,(v181,(v182,(v183,(v184,(v185,(v186,(v187,(v188,(v189,(v190,(v191,(v192,(v193,(v194,(v195,(v196,(v197,(v198,(v199,(v200,(v201,(v202,((v203.take v203.length),(v204,((v205.take v205.length),((v206.take v206.length),(x215,((eU v208 (IntKind.wrap .i64 x61)),((bf v209 (IntKind.wrap .i64 x61)),(v210,(v211,(v212,(v213,true))))))))))))))))))))))))))))))))))))))))))))))))))
 else none
 else
 bif (decide ((IntKind.wrap .i64 x61)<=v202)) then
 bif ((decide (v203.length<=v203.length))&&((decide (v205.length<=v205.length))&&(decide (v206.length<=v206.length)))) then
 some (v164,(v165,(v166,(v167,(v168,(v169,(v170,(v171,(v172,(v173,(v174,(v175,(v176,(v177,(v178,(v179,(v180,(v181,(v182,(v183,(v184,(v185,(v186,(v187,(v188,(v189,(v190,(v191,(v192,(v193,(v194,(v195,(v196,(v197,(v198,(v199,(v200,(v201,(v202,((v203.take v203.length),(v204,((v205.take v205.length),((v206.take v206.length),(x215,((eU v208 (IntKind.wrap .i64 x61)),((bf v209 (IntKind.wrap .i64 x61)),(v210,(v211,(v212,(v213,true))))))))))))))))))))))))))))))))))))))))))))))))))
 else none
 else
 bif ((decide (v203.length=v203.length))&&((decide (v205.length=v205.length))&&((decide (v206.length=v206.length))&&(decide (a54.length=a54.length))))) then
 ah (dR ((x163,(IntKind.wrap .i64 x61)),((v164,(v165,(v166,(v167,(v168,(v169,(v170,(v171,(v172,(v173,(v174,(v175,(v176,(v177,(v178,(v179,(v180,(v181,(v182,(v183,(v184,(v185,(v186,(v187,(v188,(v189,(v190,(v191,(v192,(v193,(v194,(v195,(v196,(v197,(v198,(v199,(v200,(v201,(v202,(v203,(v204,(v205,(v206,(x215,((eU v208 (IntKind.wrap .i64 x61)),((bf v209 (IntKind.wrap .i64 x61)),(v210,(v211,(v212,(v213,v214)))))))))))))))))))))))))))))))))))))))))))))))))),(a53,(a54,(a55,(a56,a57))))))) fun (x217,(x218,(x219,(x220,(x221,(x222,(x223,(x224,(x225,(x226,(x227,(x228,(x229,(x230,(x231,(x232,(x233,(x234,(x235,(x236,(x237,(x238,(x239,(x240,(x241,(x242,(x243,(x244,(x245,(x246,(x247,(x248,(x249,(x250,(x251,(x252,(x253,(x254,(x255,(x256,(x257,(x258,(x259,(x260,(x261,(x262,(x263,(x264,(x265,(x266,(x267,x268))))))))))))))))))))))))))))))))))))))))))))))))))) =>
 bif ((decide (x257.length<=x257.length))&&((decide (x259.length<=x259.length))&&(decide (x260.length<=x260.length)))) then
 some (x218,(x219,(x220,(x221,(x222,(x223,(x224,(x225,(x226,(x227,(x228,(x229,(x230,(x231,(x232,(x233,(x234,(x235,(x236,(x237,(x238,(x239,(x240,(x241,(x242,(x243,(x244,(x245,(x246,(x247,(x248,(x249,(x250,(x251,(x252,(x253,(x254,(x255,(x256,((x257.take x257.length),(x258,((x259.take x259.length),((x260.take x260.length),(x261,(x262,(x263,(x264,(x265,(x266,(x267,(!x217)))))))))))))))))))))))))))))))))))))))))))))))))))
 else none
 else none
 else
 bif v214 then
 bif ((decide (v203.length<=v203.length))&&((decide (v205.length<=v205.length))&&(decide (v206.length<=v206.length)))) then
 some (v164,(v165,(v166,(v167,(v168,(v169,(v170,(v171,(v172,(v173,(v174,(v175,(v176,(v177,(v178,(v179,(v180,(v181,(v182,(v183,(v184,(v185,(v186,(v187,(v188,(v189,(v190,(v191,(v192,(v193,(v194,(v195,(v196,(v197,(v198,(v199,(v200,(v201,(v202,((v203.take v203.length),(v204,((v205.take v205.length),((v206.take v206.length),(x215,((eU v208 (IntKind.wrap .i64 x61)),((bf v209 (IntKind.wrap .i64 x61)),(v210,(v211,(v212,(v213,true))))))))))))))))))))))))))))))))))))))))))))))))))
 else none
 else
 bif (decide ((IntKind.wrap .i64 x61) > v202)) then
 bif ((decide (v203.length=v203.length))&&((decide (v205.length=v205.length))&&((decide (v206.length=v206.length))&&(decide (a54.length=a54.length))))) then
 ah (dZ ((IntKind.wrap .i64 x61),((v164,(v165,(v166,(v167,(v168,(v169,(v170,(v171,(v172,(v173,(v174,(v175,(v176,(v177,(v178,(v179,(v180,(v181,(v182,(v183,(v184,(v185,(v186,(v187,(v188,(v189,(v190,(v191,(v192,(v193,(v194,(v195,(v196,(v197,(v198,(v199,(v200,(v201,(v202,(v203,(v204,(v205,(v206,(x215,((eU v208 (IntKind.wrap .i64 x61)),((bf v209 (IntKind.wrap .i64 x61)),(v210,(v211,(v212,(v213,v214)))))))))))))))))))))))))))))))))))))))))))))))))),(a53,(a54,(a55,(a56,a57))))))) fun x269 =>
 bif (!x269) then
 bif (decide (x163 > v201)) then
 bif (decide (x163<=(IntKind.wrap .i64 (v201+(120000:Int))))) then
 bif ((decide (v203.length<=v203.length))&&((decide (v205.length<=v205.length))&&(decide (v206.length<=v206.length)))) then
 some (v164,(v165,(v166,(v167,(v168,(v169,(v170,(v171,(v172,(v173,(v174,(v175,(v176,(v177,(v178,(v179,(v180,(v181,(v182,(v183,(v184,(v185,(v186,(v187,(v188,(v189,(v190,(v191,(v192,(v193,(v194,(v195,(v196,(v197,(v198,(v199,(v200,(v201,(v202,((v203.take v203.length),(v204,((v205.take v205.length),((v206.take v206.length),(x215,((eU v208 (IntKind.wrap .i64 x61)),((bf v209 (IntKind.wrap .i64 x61)),(v210,(v211,(v212,(v213,(decide ((v204.length:Int)<200))))))))))))))))))))))))))))))))))))))))))))))))))))
 else none
 else
 bif ((decide (v203.length<=v203.length))&&((decide (v205.length<=v205.length))&&(decide (v206.length<=v206.length)))) then
 some (v164,(v165,(v166,(v167,(v168,(v169,(v170,(v171,(v172,(v173,(v174,(v175,(v176,(v177,(v178,(v179,(v180,(v181,(v182,(v183,(v184,(v185,(v186,(v187,(v188,(v189,(v190,(v191,(v192,(v193,(v194,(v195,(v196,(v197,(v198,(v199,(v200,(v201,(v202,((v203.take v203.length),(v204,((v205.take v205.length),((v206.take v206.length),(x215,((eU v208 (IntKind.wrap .i64 x61)),((bf v209 (IntKind.wrap .i64 x61)),(v210,(v211,(v212,(v213,false))))))))))))))))))))))))))))))))))))))))))))))))))
 else none
 else
 bif ((decide (v203.length<=v203.length))&&((decide (v205.length<=v205.length))&&(decide (v206.length<=v206.length)))) then
 some (v164,(v165,(v166,(v167,(v168,(v169,(v170,(v171,(v172,(v173,(v174,(v175,(v176,(v177,(v178,(v179,(v180,(v181,(v182,(v183,(v184,(v185,(v186,(v187,(v188,(v189,(v190,(v191,(v192,(v193,(v194,(v195,(v196,(v197,(v198,(v199,(v200,(v201,(v202,((v203.take v203.length),(v204,((v205.take v205.length),((v206.take v206.length),(x215,((eU v208 (IntKind.wrap .i64 x61)),((bf v209 (IntKind.wrap .i64 x61)),(v210,(v211,(v212,(v213,false))))))))))))))))))))))))))))))))))))))))))))))))))
 else none
 else
 bif ((decide (v203.length<=v203.length))&&((decide (v205.length<=v205.length))&&(decide (v206.length<=v206.length)))) then
 some (v164,(v165,(v166,(v167,(v168,(v169,(v170,(v171,(v172,(v173,(v174,(v175,(v176,(v177,(v178,(v179,(v180,(v181,(v182,(v183,(v184,(v185,(v186,(v187,(v188,(v189,(v190,(v191,(v192,(v193,(v194,(v195,(v196,(v197,(v198,(v199,(v200,(v201,(v202,((v203.take v203.length),(v204,((v205.take v205.length),((v206.take v206.length),(x215,((eU v208 (IntKind.wrap .i64 x61)),((bf v209 (IntKind.wrap .i64 x61)),(v210,(v211,(v212,(v213,false))))))))))))))))))))))))))))))))))))))))))))))))))
 else none
 else none
 else
 bif ((decide (v203.length<=v203.length))&&((decide (v205.length<=v205.length))&&(decide (v206.length<=v206.length)))) then
 some (v164,(v165,(v166,(v167,(v168,(v169,(v170,(v171,(v172,(v173,(v174,(v175,(v176,(v177,(v178,(v179,(v180,(v181,(v182,(v183,(v184,(v185,(v186,(v187,(v188,(v189,(v190,(v191,(v192,(v193,(v194,(v195,(v196,(v197,(v198,(v199,(v200,(v201,(v202,((v203.take v203.length),(v204,((v205.take v205.length),((v206.take v206.length),(x215,((eU v208 (IntKind.wrap .i64 x61)),((bf v209 (IntKind.wrap .i64 x61)),(v210,(v211,(v212,(v213,false))))))))))))))))))))))))))))))))))))))))))))))))))
 else none
 else none
noncomputable def aiB:List (Nat×CE):=[(39,ahi),(41,agb),(40,akd),(42,ait),(43,aiw),(25,aiz)]
theorem Xo:cu Tryz.prog aiB:=⟨aeh,ZO,ake,aeD,aeE,aeF,trivial⟩
noncomputable def aiC:CE:=⟨[.tmp 0 false [.pt 20000050 0],.tmp 1 false [.dat (.list aX)],.mix 20000050 cVl,.mix 20000010 Ie],[.mix 20000050 (([fB,(.ki .u32 (7)),(.dat (.int .u16)),(.dat (.int .u32)),dO,dI,dI,dI,(.kb false),(.ki .u8 (0)),(.ki .u8 (0)),(.ki .u32 (0)),(.ki .i64 (0)),(.ki .i64 (0)),(.ki .i64 (1)),(.ki .i64 (1)),(.ki .i64 (0)),(.kb false),(.ki .i64 (0)),(.ki .i64 (0)),(.ki .i64 (-1)),(.ki .i64 (-1)),(.ki .i64 (0)),(.ki .i64 (0)),.nil,(.ki .i64 (0)),(.ki .i64 (0)),(.ki .i64 (0)),(.kb false),(.ki .i64 (0)),(.ki .i64 (0)),(.ki .i64 (0)),(.kb false),(.ki .i64 (0)),(.ki .i64 (0)),(.ki .i64 (0)),(.ki .i64 (0)),(.ki .i64 (0)),(.ki .i64 (0)),(.ki .i64 (0)),(.kb false),(.ki .u32 (0)),(.ki .u8 (0)),(.ki .i64 (0)),(.kb false),(.ki .u32 (7)),(.dat (.int .u32)),(.dat (.int .u32)),fB,(.ki .u32 (8))]:List CS)++([(.ki .u16 (0)),(.ki .u32 (0)),(.kb true),(.ki .i64 (0)),(.ki .i64 (0)),(.ki .i64 (0)),(.kb false),(.ki .u8 (0)),(.ki .u8 (0)),(.ki .u32 (0)),(.ki .i64 (0)),(.ki .i64 (0)),dI,dI,dI,dO,dI,dI,dI,dI,dI,dI,(.dat (.list (.pair ak (.pair ak (.pair ak (.pair .bool (.pair aX (.list aX)))))))),dI,dI,dI,dO,dI,dI,dI,dO,dI,dI,dI,dI,dI,dI,dI,(.kb false),(.ki .u32 (0)),(.ki .u8 (0)),(.ki .i64 (0)),(.kb false),(.dat (.int .u32)),(.ki .u32 (0)),(.ki .u32 (0)),(.pt 20000010 0),dI,dI,(.own 10000001 62 (.list (.int .i16)))]:List CS)++([(.dat (.list (.pair ak ak))),(.own 10000002 234 (.pair aX (.pair .bool (.pair (.int .u32) ak)))),(.own 10000003 31 (.int .u32)),dI,dI,dI,dI,dI,dI,dI,dO]:List CS)),.dead 20000051,.dead 20000052,.dead 20000053],dA⟩
theorem aeG:aB Tryz.prog 17 aiC :=
 dF (bV (plan:=fA aiA) (eg:=dD) KK dM (bM Xo) Tryz.func17 (by kernel_rfl) (by kernel_rfl) 10000 (fun a r h=>Eq.trans (show _=dA a from by kernel_rfl) h)) (by rfl)
def aiD:List (Nat×PL):=[]
noncomputable def aV:(Int×((Int×(Int×(Int×(Bool×(Int×(Int×(Int×(Int×(Int×(Int×(Int×(Int×(Int×(Bool×(Int×(Int×(Int×(Int×(Int×(Int×((List (Int×(Int×(Int×(Bool×(Int×LN))))))×(Int×(Int×(Int×(Bool×(Int×(Int×(Int×(Bool×(Int×(Int×(Int×(Int×(Int×(Int×(Int×(Int×(Int×(Int×((List LN)×((List (Int×Int))×((List (Int×(Bool×(Int×Int))))×(LN×(Int×(Int×(Int×(Int×(Int×(Int×(Int×Bool))))))))))))))))))))))))))))))))))))))))))))))))))×((List (Bool×(Int×(Bool×Int))))×((List ((Bool×(Int×(Bool×Int)))×(Int×(LU×(LU×(Int×(Bool×LN)))))))×(Int×(Int×Int))))))->Option (Int×(Int×(Int×(Bool×(Int×(Int×(Int×(Int×(Int×(Int×(Int×(Int×(Int×(Bool×(Int×(Int×(Int×(Int×(Int×(Int×((List (Int×(Int×(Int×(Bool×(Int×LN))))))×(Int×(Int×(Int×(Bool×(Int×(Int×(Int×(Bool×(Int×(Int×(Int×(Int×(Int×(Int×(Int×(Int×(Int×(Int×((List LN)×((List (Int×Int))×((List (Int×(Bool×(Int×Int))))×(LN×(Int×(Int×(Int×(Int×(Int×(Int×(Int×Bool)))))))))))))))))))))))))))))))))))))))))))))))))):=fun (a1,((a2,(a3,(a4,(a5,(a6,(a7,(a8,(a9,(a10,(a11,(a12,(a13,(a14,(a15,(a16,(a17,(a18,(a19,(a20,(a21,(a22,(a23,(a24,(a25,(a26,(a27,(a28,(a29,(a30,(a31,(a32,(a33,(a34,(a35,(a36,(a37,(a38,(a39,(a40,(a41,(a42,(a43,(a44,(a45,(a46,(a47,(a48,(a49,(a50,(a51,a52)))))))))))))))))))))))))))))))))))))))))))))))))),(a53,(a54,(a55,(a56,a57)))))) =>
 ah (pz ((a11,(a12,(a13,(a14,(a15,(a16,(a17,(a18,(a19,(a20,(a21,(a22,(a23,(a24,(a25,(a26,(a27,(a28,(a29,(a30,(a31,(a32,(a33,(a34,(a35,(a36,(a37,a38))))))))))))))))))))))))))),a1)) fun ((x59,(x60,(x61,(x62,(x63,(x64,(x65,(x66,(x67,(x68,(x69,(x70,(x71,(x72,(x73,(x74,(x75,(x76,(x77,(x78,(x79,(x80,(x81,(x82,(x83,(x84,(x85,x86))))))))))))))))))))))))))),(x87,x88)) =>
 bif a52 then
 bif ((decide (a41.length=a41.length))&&((decide (a43.length=a43.length))&&((decide (a44.length=a44.length))&&(decide (a54.length=a54.length))))) then
 ah (bW (x87,((a2,(a3,(a4,(a5,(a6,(a7,(a8,(a9,(a10,(x59,(x60,(x61,(x62,(x63,(x64,(x65,(x66,(x67,(x68,(x69,(x70,(x71,(x72,(x73,(x74,(x75,(x76,(x77,(x78,(x79,(x80,(x81,(x82,(x83,(x84,(x85,(x86,(a1,(a40,(a41,(a42,(a43,(a44,(a45,(a46,(a47,(a48,(a49,(a50,(a51,true)))))))))))))))))))))))))))))))))))))))))))))))))),(a53,(a54,(a55,(a56,a57))))))) fun (x90,(x91,(x92,(x93,(x94,(x95,(x96,(x97,(x98,(x99,(x100,(x101,(x102,(x103,(x104,(x105,(x106,(x107,(x108,(x109,(x110,(x111,(x112,(x113,(x114,(x115,(x116,(x117,(x118,(x119,(x120,(x121,(x122,(x123,(x124,(x125,(x126,(x127,(x128,(x129,(x130,(x131,(x132,(x133,(x134,(x135,(x136,(x137,(x138,(x139,x140)))))))))))))))))))))))))))))))))))))))))))))))))) =>
 bif ((decide (x129.length<=x129.length))&&((decide (x131.length<=x131.length))&&(decide (x132.length<=x132.length)))) then
 some (x90,(x91,(x92,(x93,(x94,(x95,(x96,(x97,(x98,(x99,(x100,(x101,(x102,(x103,(x104,(x105,(x106,(x107,(x108,(x109,(x110,(x111,(x112,(x113,(x114,(x115,(x116,(x117,(x118,(x119,(x120,(x121,(x122,(x123,(x124,(x125,(x126,(x127,(x128,((x129.take x129.length),(x130,((x131.take x131.length),((x132.take x132.length),(x133,(x134,(x135,(x136,(x137,(x138,(x139,x140))))))))))))))))))))))))))))))))))))))))))))))))))
 else none
 else none
 else
 bif ((decide (a41.length=a41.length))&&((decide (a43.length=a43.length))&&((decide (a44.length=a44.length))&&(decide (a54.length=a54.length))))) then
 ah (bW (x87,((a2,(a3,(a4,(a5,(a6,(a7,(a8,(a9,(a10,(x59,(x60,(x61,(x62,(x63,(x64,(x65,(x66,(x67,(x68,(x69,(x70,(x71,(x72,(x73,(x74,(x75,(x76,(x77,(x78,(x79,(x80,(x81,(x82,(x83,(x84,(x85,(x86,(a1,(a40,(a41,(a42,(a43,(a44,(a45,(a46,(a47,(a48,(a49,(a50,(a51,(decide (x88≠0)))))))))))))))))))))))))))))))))))))))))))))))))))),(a53,(a54,(a55,(a56,a57))))))) fun (x142,(x143,(x144,(x145,(x146,(x147,(x148,(x149,(x150,(x151,(x152,(x153,(x154,(x155,(x156,(x157,(x158,(x159,(x160,(x161,(x162,(x163,(x164,(x165,(x166,(x167,(x168,(x169,(x170,(x171,(x172,(x173,(x174,(x175,(x176,(x177,(x178,(x179,(x180,(x181,(x182,(x183,(x184,(x185,(x186,(x187,(x188,(x189,(x190,(x191,x192)))))))))))))))))))))))))))))))))))))))))))))))))) =>
 bif ((decide (x181.length<=x181.length))&&((decide (x183.length<=x183.length))&&(decide (x184.length<=x184.length)))) then
 some (x142,(x143,(x144,(x145,(x146,(x147,(x148,(x149,(x150,(x151,(x152,(x153,(x154,(x155,(x156,(x157,(x158,(x159,(x160,(x161,(x162,(x163,(x164,(x165,(x166,(x167,(x168,(x169,(x170,(x171,(x172,(x173,(x174,(x175,(x176,(x177,(x178,(x179,(x180,((x181.take x181.length),(x182,((x183.take x183.length),((x184.take x184.length),(x185,(x186,(x187,(x188,(x189,(x190,(x191,x192))))))))))))))))))))))))))))))))))))))))))))))))))
 else none
 else none
noncomputable def aiE:List (Nat×CE):=[(24,ah7),(25,aiz),(17,aiC)]
theorem Xp:cu Tryz.prog aiE:=⟨aew,aeF,aeG,trivial⟩
noncomputable def adr:CE:=⟨[.tmp 0 false [.pt 20000050 0],.tmp 1 false [.dat ak],.mix 20000050 cVl,.mix 20000010 Ie],[.mix 20000050 (([fB,(.ki .u32 (7)),(.dat (.int .u16)),(.dat (.int .u32)),dO,dI,dI,dI,(.kb false),(.ki .u8 (0)),(.ki .u8 (0)),(.ki .u32 (0)),(.ki .i64 (0)),(.ki .i64 (0)),(.ki .i64 (1)),(.ki .i64 (1)),(.ki .i64 (0)),(.kb false),(.ki .i64 (0)),(.ki .i64 (0)),(.ki .i64 (-1)),(.ki .i64 (-1)),(.ki .i64 (0)),(.ki .i64 (0)),.nil,(.ki .i64 (0)),(.ki .i64 (0)),(.ki .i64 (0)),(.kb false),(.ki .i64 (0)),(.ki .i64 (0)),(.ki .i64 (0)),(.kb false),(.ki .i64 (0)),(.ki .i64 (0)),(.ki .i64 (0)),(.ki .i64 (0)),(.ki .i64 (0)),(.ki .i64 (0)),(.ki .i64 (0)),(.kb false),(.ki .u32 (0)),(.ki .u8 (0)),(.ki .i64 (0)),(.kb false),(.ki .u32 (7)),(.dat (.int .u32)),(.dat (.int .u32)),fB,(.ki .u32 (8))]:List CS)++([(.ki .u16 (0)),(.ki .u32 (0)),(.kb true),(.ki .i64 (0)),(.ki .i64 (0)),(.ki .i64 (0)),(.kb false),(.ki .u8 (0)),(.ki .u8 (0)),(.ki .u32 (0)),(.ki .i64 (0)),(.ki .i64 (0)),dI,dI,dI,dO,dI,dI,dI,dI,dI,dI,(.dat (.list (.pair ak (.pair ak (.pair ak (.pair .bool (.pair aX (.list aX)))))))),dI,dI,dI,dO,dI,dI,dI,dO,dI,dI,dI,dI,dI,dI,dI,(.kb false),(.ki .u32 (0)),(.ki .u8 (0)),(.ki .i64 (0)),(.kb false),(.dat (.int .u32)),(.ki .u32 (0)),(.ki .u32 (0)),(.pt 20000010 0),dI,dI,(.own 10000001 62 (.list (.int .i16)))]:List CS)++([(.dat (.list (.pair ak ak))),(.own 10000002 234 (.pair aX (.pair .bool (.pair (.int .u32) ak)))),(.own 10000003 31 (.int .u32)),dI,dI,dI,dI,dI,dI,dI,dO]:List CS)),.dead 20000051,.dead 20000052,.dead 20000053],aV⟩
theorem aaD:aB Tryz.prog 11 adr :=
 dF (bV (plan:=fA aiD) (eg:=dD) KK dM (bM Xp) Tryz.func11 (by kernel_rfl) (by kernel_rfl) 10000 (fun a r h=>Eq.trans (show _=aV a from by kernel_rfl) h)) (by rfl)
def akk:List (Nat×PL):=[(18049651735529478,(.carry [.tmp 7 false [dI],.mix 20000050 (([fB,(.ki .u32 (7)),(.dat (.int .u16)),(.dat (.int .u32)),dO,dI,dI,dI,(.kb false),(.ki .u8 (0)),(.ki .u8 (0)),(.ki .u32 (0)),(.ki .i64 (0)),(.ki .i64 (0)),(.ki .i64 (1)),(.ki .i64 (1)),(.ki .i64 (0)),(.kb false),(.ki .i64 (0)),(.ki .i64 (0)),(.ki .i64 (-1)),(.ki .i64 (-1)),(.ki .i64 (0)),(.ki .i64 (0)),.nil,(.ki .i64 (0)),(.ki .i64 (0)),(.ki .i64 (0)),(.kb false),(.ki .i64 (0)),(.ki .i64 (0)),(.ki .i64 (0)),(.kb false),(.ki .i64 (0)),(.ki .i64 (0)),(.ki .i64 (0)),(.ki .i64 (0)),(.ki .i64 (0)),(.ki .i64 (0)),(.ki .i64 (0)),(.kb false),(.ki .u32 (0)),(.ki .u8 (0)),(.ki .i64 (0)),(.kb false),(.ki .u32 (7)),(.dat (.int .u32)),(.dat (.int .u32)),fB,(.ki .u32 (8))]:List CS)++([(.ki .u16 (0)),(.ki .u32 (0)),(.kb true),(.ki .i64 (0)),(.ki .i64 (0)),(.ki .i64 (0)),(.kb false),(.ki .u8 (0)),(.ki .u8 (0)),(.ki .u32 (0)),(.ki .i64 (0)),(.ki .i64 (0)),dI,dI,dI,dO,dI,dI,dI,dI,dI,dI,(.dat (.list (.pair ak (.pair ak (.pair ak (.pair .bool (.pair aX (.list aX)))))))),dI,dI,dI,dO,dI,dI,dI,dO,dI,dI,dI,dI,dI,dI,dI,(.kb false),(.ki .u32 (0)),(.ki .u8 (0)),(.ki .i64 (0)),(.kb false),(.dat (.int .u32)),(.ki .u32 (0)),(.ki .u32 (0)),(.pt 20000010 0),dI,dI,(.own 10000004 62 (.list (.int .i16)))]:List CS)++([(.dat (.list (.pair ak ak))),(.own 10000005 234 (.pair aX (.pair .bool (.pair (.int .u32) ak)))),(.own 10000006 31 (.int .u32)),dI,dI,dI,dI,dI,dI,dI,dO]:List CS)),.dead 20000051,.mix 20000010 [(.kb true),(.dat (.list (.pair .bool (.pair ak (.pair .bool ak))))),(.own 10000007 112 (.pair (.pair .bool (.pair ak (.pair .bool ak))) (.pair ak (.pair .str (.pair .str (.pair ak (.pair .bool (.list aX)))))))),dI,dI,dI],.dead 20000011,.dead 20000052,.dead 20000053])),(325153619321191134186030651146753,(.carry [.tmp 9 false [(.dat (.list (.int .i16)))],.drop 13,.drop 14,.drop 12,.drop 10,.drop 11,.mix 20000050 (([fB,(.ki .u32 (7)),(.dat (.int .u16)),(.dat (.int .u32)),dO,dI,dI,dI,(.kb false),(.ki .u8 (0)),(.ki .u8 (0)),(.ki .u32 (0)),(.ki .i64 (0)),(.ki .i64 (0)),(.ki .i64 (1)),(.ki .i64 (1)),(.ki .i64 (0)),(.kb false),(.ki .i64 (0)),(.ki .i64 (0)),(.ki .i64 (-1)),(.ki .i64 (-1)),(.ki .i64 (0)),(.ki .i64 (0)),.nil,(.ki .i64 (0)),(.ki .i64 (0)),(.ki .i64 (0)),(.kb false),(.ki .i64 (0)),(.ki .i64 (0)),(.ki .i64 (0)),(.kb false),(.ki .i64 (0)),(.ki .i64 (0)),(.ki .i64 (0)),(.ki .i64 (0)),(.ki .i64 (0)),(.ki .i64 (0)),(.ki .i64 (0)),(.kb false),(.ki .u32 (0)),(.ki .u8 (0)),(.ki .i64 (0)),(.kb false),(.ki .u32 (7)),(.dat (.int .u32)),(.dat (.int .u32)),fB,(.ki .u32 (8))]:List CS)++([(.ki .u16 (0)),(.ki .u32 (0)),(.kb true),(.ki .i64 (0)),(.ki .i64 (0)),(.ki .i64 (0)),(.kb false),(.ki .u8 (0)),(.ki .u8 (0)),(.ki .u32 (0)),(.ki .i64 (0)),(.ki .i64 (0)),dI,dI,dI,dO,dI,dI,dI,dI,dI,dI,(.dat (.list (.pair ak (.pair ak (.pair ak (.pair .bool (.pair aX (.list aX)))))))),dI,dI,dI,dO,dI,dI,dI,dO,dI,dI,dI,dI,dI,dI,dI,(.kb false),(.ki .u32 (0)),(.ki .u8 (0)),(.ki .i64 (0)),(.kb false),(.dat (.int .u32)),(.ki .u32 (0)),(.ki .u32 (0)),(.pt 20000010 0),dI,dI,(.own 10000011 62 (.list (.int .i16)))]:List CS)++([(.dat (.list (.pair ak ak))),(.own 10000012 234 (.pair aX (.pair .bool (.pair (.int .u32) ak)))),(.own 10000013 31 (.int .u32)),dI,dI,dI,dI,dI,dI,dI,dO]:List CS)),.mix 35 [dO,fB,(.dat (.int .u16)),(.dat (.int .u32)),(.dat (.int .u32)),(.dat (.list (.int .u32))),dO,(.dat (.int .u16)),dY,dY,dI],.dead 10000004,.dead 10000005,.dead 10000006])),(11440325928227222659843270465363023831400448513,(.carry [.mix 20000050 (([fB,(.ki .u32 (7)),(.dat (.int .u16)),(.dat (.int .u32)),dO,dI,dI,dI,(.kb false),(.ki .u8 (0)),(.ki .u8 (0)),(.ki .u32 (0)),(.ki .i64 (0)),(.ki .i64 (0)),(.ki .i64 (1)),(.ki .i64 (1)),(.ki .i64 (0)),(.kb false),(.ki .i64 (0)),(.ki .i64 (0)),(.ki .i64 (-1)),(.ki .i64 (-1)),(.ki .i64 (0)),(.ki .i64 (0)),.nil,(.ki .i64 (0)),(.ki .i64 (0)),(.ki .i64 (0)),(.kb false),(.ki .i64 (0)),(.ki .i64 (0)),(.ki .i64 (0)),(.kb false),(.ki .i64 (0)),(.ki .i64 (0)),(.ki .i64 (0)),(.ki .i64 (0)),(.ki .i64 (0)),(.ki .i64 (0)),(.ki .i64 (0)),(.kb false),(.ki .u32 (0)),(.ki .u8 (0)),(.ki .i64 (0)),(.kb false),(.ki .u32 (7)),(.dat (.int .u32)),(.dat (.int .u32)),fB,(.ki .u32 (8))]:List CS)++([(.ki .u16 (0)),(.ki .u32 (0)),(.kb true),(.ki .i64 (0)),(.ki .i64 (0)),(.ki .i64 (0)),(.kb false),(.ki .u8 (0)),(.ki .u8 (0)),(.ki .u32 (0)),(.ki .i64 (0)),(.ki .i64 (0)),dI,dI,dI,dO,dI,dI,dI,dI,dI,dI,(.dat (.list (.pair ak (.pair ak (.pair ak (.pair .bool (.pair aX (.list aX)))))))),dI,dI,dI,dO,dI,dI,dI,dO,dI,dI,dI,dI,dI,dI,dI,(.kb false),(.ki .u32 (0)),(.ki .u8 (0)),(.ki .i64 (0)),(.kb false),(.dat (.int .u32)),(.ki .u32 (0)),(.ki .u32 (0)),(.pt 20000010 0),dI,dI,(.own 10000008 62 (.list (.int .i16)))]:List CS)++([(.dat (.list (.pair ak ak))),(.own 10000009 234 (.pair aX (.pair .bool (.pair (.int .u32) ak)))),(.own 10000010 31 (.int .u32)),dI,dI,dI,dI,dI,dI,dI,dO]:List CS)),.dead 10000004,.dead 10000005,.dead 10000006]))]
noncomputable def bD:(LN×((Int×(Int×(Int×(Bool×(Int×(Int×(Int×(Int×(Int×(Int×(Int×(Int×(Int×(Bool×(Int×(Int×(Int×(Int×(Int×(Int×((List (Int×(Int×(Int×(Bool×(Int×LN))))))×(Int×(Int×(Int×(Bool×(Int×(Int×(Int×(Bool×(Int×(Int×(Int×(Int×(Int×(Int×(Int×(Int×(Int×(Int×((List LN)×((List (Int×Int))×((List (Int×(Bool×(Int×Int))))×(LN×(Int×(Int×(Int×(Int×(Int×(Int×(Int×Bool))))))))))))))))))))))))))))))))))))))))))))))))))×((List (Bool×(Int×(Bool×Int))))×((List ((Bool×(Int×(Bool×Int)))×(Int×(LU×(LU×(Int×(Bool×LN)))))))×(Int×(Int×Int))))))->Option ((Int×(Int×(Int×(Bool×(Int×(Int×(Int×(Int×(Int×(Int×(Int×(Int×(Int×(Bool×(Int×(Int×(Int×(Int×(Int×(Int×((List (Int×(Int×(Int×(Bool×(Int×LN))))))×(Int×(Int×(Int×(Bool×(Int×(Int×(Int×(Bool×(Int×(Int×(Int×(Int×(Int×(Int×(Int×(Int×(Int×(Int×((List LN)×((List (Int×Int))×((List (Int×(Bool×(Int×Int))))×(LN×(Int×(Int×(Int×(Int×(Int×(Int×(Int×Bool))))))))))))))))))))))))))))))))))))))))))))))))))×((List (Bool×(Int×(Bool×Int))))×((List ((Bool×(Int×(Bool×Int)))×(Int×(LU×(LU×(Int×(Bool×LN)))))))×(Int×(Int×Int))))):=fun (a1,((a2,(a3,(a4,(a5,(a6,(a7,(a8,(a9,(a10,(a11,(a12,(a13,(a14,(a15,(a16,(a17,(a18,(a19,(a20,(a21,(a22,(a23,(a24,(a25,(a26,(a27,(a28,(a29,(a30,(a31,(a32,(a33,(a34,(a35,(a36,(a37,(a38,(a39,(a40,(a41,(a42,(a43,(a44,(a45,(a46,(a47,(a48,(a49,(a50,(a51,a52)))))))))))))))))))))))))))))))))))))))))))))))))),(a53,(a54,(a55,(a56,a57)))))) =>
 ah (pq ((a2,(a3,(a4,(a5,(a6,(a7,(a8,(a9,a10)))))))),a1)) fun ((x59,(x60,(x61,(x62,(x63,(x64,(x65,(x66,x67)))))))),(x68,x69)) =>
 bif (decide (x69≠0)) then
 bif ((decide (a41.length<=a41.length))&&((decide (a43.length<=a43.length))&&((decide (a44.length<=a44.length))&&(decide (a54.length<=a54.length))))) then
 some ((a2,(a3,(a4,(a5,(a6,(a7,(a8,(a9,(a10,(a11,(a12,(a13,(a14,(a15,(a16,(a17,(a18,(a19,(a20,(a21,(a22,(a23,(a24,(a25,(a26,(a27,(a28,(a29,(a30,(a31,(a32,(a33,(a34,(a35,(a36,(a37,(a38,(a39,(a40,((a41.take a41.length),(a42,((a43.take a43.length),((a44.take a44.length),(a45,(a46,(a47,(a48,(a49,(a50,(a51,true)))))))))))))))))))))))))))))))))))))))))))))))))),(a53,((a54.take a54.length),(a55,(a56,a57)))))
 else none
 else
 bif (decide ((x68.length:Int) > 1)) then
 bif ((decide (a41.length<=a41.length))&&((decide (a43.length<=a43.length))&&((decide (a44.length<=a44.length))&&(decide (a54.length<=a54.length))))) then
 some ((a2,(a3,(a4,(a5,(a6,(a7,(a8,(a9,(a10,(a11,(a12,(a13,(a14,(a15,(a16,(a17,(a18,(a19,(a20,(a21,(a22,(a23,(a24,(a25,(a26,(a27,(a28,(a29,(a30,(a31,(a32,(a33,(a34,(a35,(a36,(a37,(a38,(a39,(a40,((a41.take a41.length),(a42,((a43.take a43.length),((a44.take a44.length),(a45,(a46,(a47,(a48,(a49,(a50,(a51,true)))))))))))))))))))))))))))))))))))))))))))))))))),(a53,((a54.take a54.length),(a55,(a56,a57)))))
 else none
 else
 bif ((decide (a41.length<=a41.length))&&((decide (a43.length<=a43.length))&&((decide (a44.length<=a44.length))&&(decide (a54.length<=a54.length))))) then
 bn (fun (v70,((v71,(v72,(v73,(v74,(v75,(v76,(v77,(v78,(v79,(v80,(v81,(v82,(v83,(v84,(v85,(v86,(v87,(v88,(v89,(v90,(v91,(v92,(v93,(v94,(v95,(v96,(v97,(v98,(v99,(v100,(v101,(v102,(v103,(v104,(v105,(v106,(v107,(v108,(v109,(v110,(v111,(v112,(v113,(v114,(v115,(v116,(v117,(v118,(v119,(v120,v121)))))))))))))))))))))))))))))))))))))))))))))))))),(v122,(v123,(v124,(v125,v126)))))) =>
 bif (decide (v70<(x68.length:Int))) then
 bif (decide ((0<=v70)/\(v70<(x68.length:Int)))) then
 ah x68[v70.toNat]? fun x127 =>
 au (bif (decide (x127.2.1=x59)) then
 ah (bT (x59,(v80,(x127.2.2.2.2.2.2.2.2.2.1,(v117,v118))))) fun (x129,((x130,x131),x132)) =>
 ah (bP (x59,x127.2.2.2.2.2.2.2.2.2.1)) fun x133 =>
 ah (dN (v80,(x133,(v119,v120)))) fun (x135,(x136,x137)) =>
 au (bif v121 then
 bif ((decide (v110.length<=v110.length))&&((decide (v112.length<=v112.length))&&(decide (v113.length<=v113.length)))) then
 some (Sum.inl (v71,(v72,(v73,(v74,(v75,(v76,(v77,(v78,(v79,(v80,(v81,(v82,(v83,(v84,(v85,(v86,(v87,(v88,(v89,(v90,(v91,(v92,(v93,(v94,(v95,(v96,(v97,(v98,(v99,(v100,(v101,(v102,(v103,(v104,(v105,(v106,(v107,(v108,(v109,((v110.take v110.length),(v111,((v112.take v112.length),((v113.take v113.length),(v114,(v115,(v116,(v117,(v118,(v119,(v120,true)))))))))))))))))))))))))))))))))))))))))))))))))))
 else none
 else
 bif (decide (x132≠0)) then
 bif ((decide (v110.length<=v110.length))&&((decide (v112.length<=v112.length))&&(decide (v113.length<=v113.length)))) then
 some (Sum.inl (v71,(v72,(v73,(v74,(v75,(v76,(v77,(v78,(v79,(v80,(v81,(v82,(v83,(v84,(v85,(v86,(v87,(v88,(v89,(v90,(v91,(v92,(v93,(v94,(v95,(v96,(v97,(v98,(v99,(v100,(v101,(v102,(v103,(v104,(v105,(v106,(v107,(v108,(v109,((v110.take v110.length),(v111,((v112.take v112.length),((v113.take v113.length),(v114,(v115,(v116,(v117,(v118,(v119,(v120,true)))))))))))))))))))))))))))))))))))))))))))))))))))
 else none
 else
 bif ((decide (v110.length<=v110.length))&&((decide (v112.length<=v112.length))&&(decide (v113.length<=v113.length)))) then
 some (Sum.inl (v71,(v72,(v73,(v74,(v75,(v76,(v77,(v78,(v79,(v80,(v81,(v82,(v83,(v84,(v85,(v86,(v87,(v88,(v89,(v90,(v91,(v92,(v93,(v94,(v95,(v96,(v97,(v98,(v99,(v100,(v101,(v102,(v103,(v104,(v105,(v106,(v107,(v108,(v109,((v110.take v110.length),(v111,((v112.take v112.length),((v113.take v113.length),(v114,(v115,(v116,(v117,(v118,(v119,(v120,(decide ((J6 x129)≠(J6 x135))))))))))))))))))))))))))))))))))))))))))))))))))))))
 else none) fun (v138,(v139,(v140,(v141,(v142,(v143,(v144,(v145,(v146,(v147,(v148,(v149,(v150,(v151,(v152,(v153,(v154,(v155,(v156,(v157,(v158,(v159,(v160,(v161,(v162,(v163,(v164,(v165,(v166,(v167,(v168,(v169,(v170,(v171,(v172,(v173,(v174,(v175,(v176,(v177,(v178,(v179,(v180,(v181,(v182,(v183,(v184,(v185,(v186,(v187,v188)))))))))))))))))))))))))))))))))))))))))))))))))) =>
 ah (bP (v147,x129)) fun x189 =>
 bif v188 then
 bif ((decide (v177.length<=v177.length))&&((decide (v179.length<=v179.length))&&(decide (v180.length<=v180.length)))) then
 some (Sum.inl (x189,((v138,(v139,(v140,(v141,(v142,(v143,(v144,(v145,(v146,(v147,(v148,(v149,(v150,(v151,(v152,(v153,(v154,(v155,(v156,(v157,(v158,(v159,(v160,(v161,(v162,(v163,(v164,(v165,(v166,(v167,(v168,(v169,(v170,(v171,(v172,(v173,(v174,(v175,(v176,((v177.take v177.length),(v178,((v179.take v179.length),((v180.take v180.length),(v181,(v182,(v183,(x130,(x131,(x136,(x137,true)))))))))))))))))))))))))))))))))))))))))))))))))),(x127.1,(v147,(x127.2.2.1,(x127.2.2.2.1,(x127.2.2.2.2.1,(x127.2.2.2.2.2.1,(x127.2.2.2.2.2.2.1,(x127.2.2.2.2.2.2.2.1,(x127.2.2.2.2.2.2.2.2.1,(x129,x127.2.2.2.2.2.2.2.2.2.2)))))))))))))
 else none
 else
 bif ((decide (v177.length<=v177.length))&&((decide (v179.length<=v179.length))&&(decide (v180.length<=v180.length)))) then
 some (Sum.inl (x189,((v138,(v139,(v140,(v141,(v142,(v143,(v144,(v145,(v146,(v147,(v148,(v149,(v150,(v151,(v152,(v153,(v154,(v155,(v156,(v157,(v158,(v159,(v160,(v161,(v162,(v163,(v164,(v165,(v166,(v167,(v168,(v169,(v170,(v171,(v172,(v173,(v174,(v175,(v176,((v177.take v177.length),(v178,((v179.take v179.length),((v180.take v180.length),(v181,(v182,(v183,(x130,(x131,(x136,(x137,(decide ((x189.length:Int)≠160)))))))))))))))))))))))))))))))))))))))))))))))))))),(x127.1,(v147,(x127.2.2.1,(x127.2.2.2.1,(x127.2.2.2.2.1,(x127.2.2.2.2.2.1,(x127.2.2.2.2.2.2.1,(x127.2.2.2.2.2.2.2.1,(x127.2.2.2.2.2.2.2.2.1,(x129,x127.2.2.2.2.2.2.2.2.2.2)))))))))))))
 else none
 else
 bif ((decide (v110.length<=v110.length))&&((decide (v112.length<=v112.length))&&(decide (v113.length<=v113.length)))) then
 some (Sum.inl (([]:List Int),((v71,(v72,(v73,(v74,(v75,(v76,(v77,(v78,(v79,(v80,(v81,(v82,(v83,(v84,(v85,(v86,(v87,(v88,(v89,(v90,(v91,(v92,(v93,(v94,(v95,(v96,(v97,(v98,(v99,(v100,(v101,(v102,(v103,(v104,(v105,(v106,(v107,(v108,(v109,((v110.take v110.length),(v111,((v112.take v112.length),((v113.take v113.length),(v114,(v115,(v116,(v117,(v118,(v119,(v120,v121)))))))))))))))))))))))))))))))))))))))))))))))))),(x127.1,(x127.2.1,(x127.2.2.1,(x127.2.2.2.1,(x127.2.2.2.2.1,(x127.2.2.2.2.2.1,(x127.2.2.2.2.2.2.1,(x127.2.2.2.2.2.2.2.1,(x127.2.2.2.2.2.2.2.2.1,(x127.2.2.2.2.2.2.2.2.2.1,x127.2.2.2.2.2.2.2.2.2.2)))))))))))))
 else none) fun (v190,((v191,(v192,(v193,(v194,(v195,(v196,(v197,(v198,(v199,(v200,(v201,(v202,(v203,(v204,(v205,(v206,(v207,(v208,(v209,(v210,(v211,(v212,(v213,(v214,(v215,(v216,(v217,(v218,(v219,(v220,(v221,(v222,(v223,(v224,(v225,(v226,(v227,(v228,(v229,(v230,(v231,(v232,(v233,(v234,(v235,(v236,(v237,(v238,(v239,(v240,v241)))))))))))))))))))))))))))))))))))))))))))))))))),(v242,(v243,(v244,(v245,(v246,(v247,(v248,(v249,(v250,(v251,v252)))))))))))) =>
 ah (oL (v242,(v243,(v244,(v245,(v246,(v247,(v248,(v249,(v250,(v251,v252))))))))))) fun (x254,x255) =>
 bif (decide (v123.length=v123.length)) then
 ah (gZ (((97:UInt8)::([]:List UInt8)),(((98:UInt8)::([]:List UInt8)),(x254,(v228,(v122,(v123,(v124,(v125,v126))))))))) fun (x257,(x258,(x259,(x260,(x261,(x262,x263)))))) =>
 bif v241 then
 bif (decide (v230.length<=v230.length)) then
 bif (decide (((List.length ((v230.take v230.length)++(v190::([]:List LN))))*24)<=140737488355328)) then
 ah (some ((v230.take v230.length)++(v190::([]:List LN)))) fun x264 =>
 bif ((decide (x264.length<=x264.length))&&((decide (v232.length<=v232.length))&&((decide (v233.length<=v233.length))&&(decide (x260.length<=x260.length))))) then
 some (Sum.inl ((IntKind.wrap .i64 (v70+(1:Int))),((v191,(v192,(v193,(v194,(v195,(v196,(v197,(v198,(v199,(v200,(v201,(v202,(v203,(v204,(v205,(v206,(v207,(v208,(v209,(v210,(v211,(v212,(v213,(v214,(v215,(v216,(v217,(v218,(v219,(v220,(v221,(v222,(v223,(v224,(v225,(v226,(v227,(v228,(v229,((x264.take x264.length),(v231,((v232.take v232.length),((v233.take v233.length),(v234,(v235,(v236,(v237,(v238,(v239,(v240,true)))))))))))))))))))))))))))))))))))))))))))))))))),(x259,((x260.take x260.length),(x261,(x262,x263)))))))
 else none
 else none
 else none
 else
 bif (decide (x255≠0)) then
 bif (decide (v230.length<=v230.length)) then
 bif (decide (((List.length ((v230.take v230.length)++(v190::([]:List LN))))*24)<=140737488355328)) then
 ah (some ((v230.take v230.length)++(v190::([]:List LN)))) fun x266 =>
 bif ((decide (x266.length<=x266.length))&&((decide (v232.length<=v232.length))&&((decide (v233.length<=v233.length))&&(decide (x260.length<=x260.length))))) then
 some (Sum.inl ((IntKind.wrap .i64 (v70+(1:Int))),((v191,(v192,(v193,(v194,(v195,(v196,(v197,(v198,(v199,(v200,(v201,(v202,(v203,(v204,(v205,(v206,(v207,(v208,(v209,(v210,(v211,(v212,(v213,(v214,(v215,(v216,(v217,(v218,(v219,(v220,(v221,(v222,(v223,(v224,(v225,(v226,(v227,(v228,(v229,((x266.take x266.length),(v231,((v232.take v232.length),((v233.take v233.length),(v234,(v235,(v236,(v237,(v238,(v239,(v240,true)))))))))))))))))))))))))))))))))))))))))))))))))),(x259,((x260.take x260.length),(x261,(x262,x263)))))))
 else none
 else none
 else none
 else
 bif (decide (x258≠0)) then
 bif (decide (v230.length<=v230.length)) then
 bif (decide (((List.length ((v230.take v230.length)++(v190::([]:List LN))))*24)<=140737488355328)) then
 ah (some ((v230.take v230.length)++(v190::([]:List LN)))) fun x268 =>
 bif ((decide (x268.length<=x268.length))&&((decide (v232.length<=v232.length))&&((decide (v233.length<=v233.length))&&(decide (x260.length<=x260.length))))) then
 some (Sum.inl ((IntKind.wrap .i64 (v70+(1:Int))),((v191,(v192,(v193,(v194,(v195,(v196,(v197,(v198,(v199,(v200,(v201,(v202,(v203,(v204,(v205,(v206,(v207,(v208,(v209,(v210,(v211,(v212,(v213,(v214,(v215,(v216,(v217,(v218,(v219,(v220,(v221,(v222,(v223,(v224,(v225,(v226,(v227,(v228,(v229,((x268.take x268.length),(v231,((v232.take v232.length),((v233.take v233.length),(v234,(v235,(v236,(v237,(v238,(v239,(v240,true)))))))))))))))))))))))))))))))))))))))))))))))))),(x259,((x260.take x260.length),(x261,(x262,x263)))))))
 else none
 else none
 else none
 else
 bif (decide (v230.length<=v230.length)) then
 bif (decide (((List.length ((v230.take v230.length)++(v190::([]:List LN))))*24)<=140737488355328)) then
 ah (some ((v230.take v230.length)++(v190::([]:List LN)))) fun x271 =>
 bif ((decide (x271.length<=x271.length))&&((decide (v232.length<=v232.length))&&((decide (v233.length<=v233.length))&&(decide (x260.length<=x260.length))))) then
 some (Sum.inl ((IntKind.wrap .i64 (v70+(1:Int))),((v191,(v192,(v193,(v194,(v195,(v196,(v197,(v198,(v199,(v200,(v201,(v202,(v203,(v204,(v205,(v206,(v207,(v208,(v209,(v210,(v211,(v212,(v213,(v214,(v215,(v216,(v217,(v218,(v219,(v220,(v221,(v222,(v223,(v224,(v225,(v226,(v227,(v228,(v229,((x271.take x271.length),(v231,((v232.take v232.length),((v233.take v233.length),(v234,(v235,(v236,(v237,(v238,(v239,(v240,(decide ((IntKind.wrap .i64 v244)≠(v230.length:Int))))))))))))))))))))))))))))))))))))))))))))))))))))),(x259,((x260.take x260.length),(x261,(x262,x263)))))))
 else none
 else none
 else none
 else none
 else none
 else
 aA (bif ((decide (v110.length<=v110.length))&&((decide (v112.length<=v112.length))&&((decide (v113.length<=v113.length))&&(decide (v123.length<=v123.length))))) then
 some ((v71,(v72,(v73,(v74,(v75,(v76,(v77,(v78,(v79,(v80,(v81,(v82,(v83,(v84,(v85,(v86,(v87,(v88,(v89,(v90,(v91,(v92,(v93,(v94,(v95,(v96,(v97,(v98,(v99,(v100,(v101,(v102,(v103,(v104,(v105,(v106,(v107,(v108,(v109,((v110.take v110.length),(v111,((v112.take v112.length),((v113.take v113.length),(v114,(v115,(v116,(v117,(v118,(v119,(v120,v121)))))))))))))))))))))))))))))))))))))))))))))))))),(v122,((v123.take v123.length),(v124,(v125,v126)))))
 else none)) ((0:Int),((x59,(x60,(x61,(x62,(x63,(x64,(x65,(x66,(x67,(a11,(a12,(a13,(a14,(a15,(a16,(a17,(a18,(a19,(a20,(a21,(a22,(a23,(a24,(a25,(a26,(a27,(a28,(a29,(a30,(a31,(a32,(a33,(a34,(a35,(a36,(a37,(a38,(a39,(a40,((a41.take a41.length),(a42,((a43.take a43.length),((a44.take a44.length),(a45,(a46,(a47,(a48,(a49,(a50,(a51,a52)))))))))))))))))))))))))))))))))))))))))))))))))),(a53,((a54.take a54.length),(a55,(a56,a57))))))
 else none
noncomputable def akl:List (Nat×CE):=[(22,ag7),(19,ahT),(18,ahW),(23,agG),(20,ain),(21,akg),(11,adr)]
theorem aaE:cu Tryz.prog akl:=⟨aee,aer,aes,ad9,aeC,akh,aaD,trivial⟩
noncomputable def ce9:CE:=⟨[.tmp 0 false [.pt 20000050 0],.tmp 1 false [.dat (.list (.int .i16))],.mix 20000050 cVl,.mix 20000010 Ie],[.mix 20000050 (([fB,(.ki .u32 (7)),(.dat (.int .u16)),(.dat (.int .u32)),dO,dI,dI,dI,(.kb false),(.ki .u8 (0)),(.ki .u8 (0)),(.ki .u32 (0)),(.ki .i64 (0)),(.ki .i64 (0)),(.ki .i64 (1)),(.ki .i64 (1)),(.ki .i64 (0)),(.kb false),(.ki .i64 (0)),(.ki .i64 (0)),(.ki .i64 (-1)),(.ki .i64 (-1)),(.ki .i64 (0)),(.ki .i64 (0)),.nil,(.ki .i64 (0)),(.ki .i64 (0)),(.ki .i64 (0)),(.kb false),(.ki .i64 (0)),(.ki .i64 (0)),(.ki .i64 (0)),(.kb false),(.ki .i64 (0)),(.ki .i64 (0)),(.ki .i64 (0)),(.ki .i64 (0)),(.ki .i64 (0)),(.ki .i64 (0)),(.ki .i64 (0)),(.kb false),(.ki .u32 (0)),(.ki .u8 (0)),(.ki .i64 (0)),(.kb false),(.ki .u32 (7)),(.dat (.int .u32)),(.dat (.int .u32)),fB,(.ki .u32 (8))]:List CS)++([(.ki .u16 (0)),(.ki .u32 (0)),(.kb true),(.ki .i64 (0)),(.ki .i64 (0)),(.ki .i64 (0)),(.kb false),(.ki .u8 (0)),(.ki .u8 (0)),(.ki .u32 (0)),(.ki .i64 (0)),(.ki .i64 (0)),dI,dI,dI,dO,dI,dI,dI,dI,dI,dI,(.dat (.list (.pair ak (.pair ak (.pair ak (.pair .bool (.pair aX (.list aX)))))))),dI,dI,dI,dO,dI,dI,dI,dO,dI,dI,dI,dI,dI,dI,dI,(.kb false),(.ki .u32 (0)),(.ki .u8 (0)),(.ki .i64 (0)),(.kb false),(.dat (.int .u32)),(.ki .u32 (0)),(.ki .u32 (0)),(.pt 20000010 0),dI,dI,(.own 10000001 62 (.list (.int .i16)))]:List CS)++([(.dat (.list (.pair ak ak))),(.own 10000002 234 (.pair aX (.pair .bool (.pair (.int .u32) ak)))),(.own 10000003 31 (.int .u32)),dI,dI,dI,dI,dI,dI,dI,dO]:List CS)),.dead 20000051,.mix 20000010 [(.kb true),(.dat (.list (.pair .bool (.pair ak (.pair .bool ak))))),(.own 10000014 112 (.pair (.pair .bool (.pair ak (.pair .bool ak))) (.pair ak (.pair .str (.pair .str (.pair ak (.pair .bool (.list aX)))))))),dI,dI,dI],.dead 20000011,.dead 20000052,.dead 20000053],bD⟩
theorem akm:aB Tryz.prog 9 ce9 :=
 dF (bV (plan:=fA akk) (eg:=dD) KK dM (bM aaE) Tryz.func9 (by kernel_rfl) (by kernel_rfl) 10000 (fun a r h=>Eq.trans (show _=bD a from by kernel_rfl) h)) (by rfl)
set_option maxRecDepth 100000
set_option maxHeartbeats 4000000
abbrev KyT:=Int×(Bool×(Int×Int))
structure Vl where
 f:Pf
 p:Pt
 now:Int
 done:Int
 sent:List (List Int)
 due:List (Int×Int)
 keys:List KyT
 starts:List Int
 count:Int
 least:Int
 most:Int
 st:Int×Int
 ow:Int×Int
 fails:Bool
abbrev VT:=Int×(Int×(Int×(Bool×(Int×(Int×(Int×(Int×(Int×(Int×(Int×(Int×(Int×(Bool×(Int×(Int×(Int×(Int×(Int×(Int×(List WT×(Int×(Int×(Int×(Bool×(Int×(Int×(Int×(Bool×(Int×(Int×(Int×(Int×(Int×(Int×(Int×(Int×(Int×(Int×(List (List Int)×(List (Int×Int)×(List KyT×(List Int×(Int×(Int×(Int×(Int×(Int×(Int×(Int×Bool)))))))))))))))))))))))))))))))))))))))))))))))))
def Vl.t (v:Vl):VT:=(v.f.cd,(v.f.sq,(v.f.tm,(v.f.mr,(v.f.qu,(v.f.cs.1,(v.f.cs.2,(v.f.pk,(v.f.oc,(v.p.cd,(v.p.j.le,(v.p.j.mo,(v.p.j.now,(v.p.j.on,(v.p.j.zero,(v.p.j.first,(v.p.j.high,(v.p.j.done,(v.p.j.spread,(v.p.j.transit,(v.p.j.q,(v.p.j.late,(v.p.j.twice,(v.p.j.played,(v.p.o,(v.p.hi,(v.p.ju,(v.p.ht,(v.p.st.1,(v.p.st.2.1,(v.p.st.2.2.1,(v.p.st.2.2.2.1,(v.p.st.2.2.2.2.1,(v.p.st.2.2.2.2.2.1,(v.p.st.2.2.2.2.2.2.1,(v.p.st.2.2.2.2.2.2.2,(v.p.sd,(v.now,(v.done,(v.sent,(v.due,(v.keys,(v.starts,(v.count,(v.least,(v.most,(v.st.1,(v.st.2,(v.ow.1,(v.ow.2,v.fails))))))))))))))))))))))))))))))))))))))))))))))))))
theorem aiF (l:List Int) (h:l.length<=1000):jc (l,l)=some true:=by
 unfold jc;refine So.eq (So.neg (by simp) (So.join (P:=fun _=>True) (So.loop (fun v=>0<=v/\v<=(l.length:Int)) (fun v=>((l.length:Int)-v).toNat) (fun v hv => ?_) ⟨by omega,by omega⟩) fun _ _ => .mk rfl));refine So.dec (fun hi => ?_) fun _ => .out (.inl trivial);have hi2:v.toNat<l.length:=by omega
 refine So.pos ⟨hv.1,hi⟩ (So.is (List.getElem?_eq_getElem hi2) (So.pos ⟨hv.1,hi⟩ (So.is (List.getElem?_eq_getElem hi2) (So.neg (by simp) ?_))));rw [aj (by omega)];exact .inl ⟨by omega,by omega⟩
def Xq (sent:List (List Int)) (w:WT):Prop:=0<=w.2.1/\∃x,sent[w.2.1.toNat]? = some x/\(x≠[]->w.2.2.2.2.1≠13/\x=Le w.2.2.2.2.1 w.2.2.2.2.2)
def jr (w:WT):Int×Int:=(w.1,w.2.1)
theorem zD.get {α β:Type} {R:α->β->Prop}:∀ {l:List α} {m:List β} (h:zD R l m) {i:Nat} (hi:i<l.length) (hj:i<m.length),R l[i] m[i]
 | _::_,_::_,h,0,_,_=>h.1
 | _::_,_::_,h,i+1,hi,hj=>h.2.get (Nat.lt_of_succ_lt_succ hi) (Nat.lt_of_succ_lt_succ hj)
theorem So.le3 {α:Type} {n m k:Nat} {a b:Option α} {P:α->Prop} (h:So a P):So (bif (decide (n<=n)&&(decide (m<=m)&&decide (k<=k))) then a else b) P:=by
 rw [decide_eq_true (Nat.le_refl n),decide_eq_true (Nat.le_refl m),decide_eq_true (Nat.le_refl k)];exact h
theorem Uj {v:Vl} {c:Ca} {pl rest:List WT} {l:List SD} (hl:zD Hf pl l) (hpl:pl.length<=1000) (hd:v.due=(pl++rest).map jr) (hS:∀w∈pl,Xq v.sent w) (hp:∀w∈pl,w.1<=v.now) (hr:∀w∈rest,v.now<w.1) (hf:v.fails=false) :
 bW (l,(v.t,c.t))=some ({v with done:=maxS v.done pl,due:=rest.map jr}:Vl).t:=by
 have hll:=hl.len;unfold bW;refine So.eq ?_;refine So.join (P:=fun s=>s=({v with done:=maxS v.done pl,due:=rest.map jr}:Vl).t) (So.le3 (So.loop (fun s=>∃k:Nat,k<=pl.length/\s=((k:Int),({v with done:=maxS v.done (pl.take k),due:=(pl.drop k++rest).map jr}:Vl).t)) (fun s=>((pl.length:Int)-s.1).toNat) (fun s hs => ?_) ⟨0,by omega,?_⟩)) fun s hs => ?_
 ·obtain ⟨k,hk,rfl⟩:=hs;refine So.dec (p:=(k:Int)<((l.length:Nat):Int)) (fun h1 => ?_) fun h1 => .out (So.le3 (.inl ?_))
  ·have hk1:k<pl.length:=by omega
   have hk2:k<l.length:=by omega
   obtain ⟨r1,r2,r3,r4⟩:=hl.get hk1 hk2;have hS1:=hS _ (List.getElem_mem hk1);have hp1:=hp _ (List.getElem_mem hk1);obtain ⟨s1,x,s2,s3⟩:=hS1;have hin:0<=(k:Int)/\(k:Int)<((l.length:Nat):Int):=by omega
   have hget:l[Int.toNat (k:Int)]? = some l[k]:=iI hk2;have hdrop:(pl.drop k++rest).map jr=jr pl[k]::(pl.drop (k+1)++rest).map jr:=by rw [List.drop_eq_getElem_cons hk1];rfl
   generalize hT:(pl.drop (k+1)++rest).map jr=T at hdrop;rw [hdrop];refine So.pos hin (So.is hget (So.neg (by rw [r3];simp) ?_));refine So.join (P:=fun _=>True) (So.neg (by simp;omega) (So.pos hin (So.is hget (So.pos (by simp) (So.is rfl (So.neg (p:=l[k].1≠(jr pl[k]).1) (by rw [r1];simp [jr]) (So.pos hin (So.is hget (So.neg (p:=l[k].1 > v.now) (by rw [r1];omega) (So.pos hin (So.is hget (So.neg (by rw [r2];simp) (.inl trivial))))))))))))) fun _ _ => ?_;have hsl:pl[k].2.1.toNat<v.sent.length:=by
    rcases Nat.lt_or_ge pl[k].2.1.toNat v.sent.length with h | h
    ·exact h
    ·rw [List.getElem?_eq_none h] at s2;cases s2
   refine So.pos (by simp) (So.is rfl (So.pos (p:=0<=pl[k].2.1/\pl[k].2.1<((v.sent.length:Nat):Int)) (by omega) (So.is s2 ?_)));refine So.join (P:=fun s=>s=({v with done:=maxS v.done (pl.take k),due:=jr pl[k]::T}:Vl).t) (So.if (fun h=>by rw [show v.fails=true from h] at hf;cases hf) fun _=>So.dec (fun hx => ?_) fun hx=>So.le3 (.inl ?_)) fun s hs => ?_
   ·have hxn:x≠[]:=fun e=>by rw [e] at hx;simp at hx
    have hxe:l[k].2.1=x:=(r4 (s3 hxn).1).trans (s3 hxn).2.symm;have hxs:jc (x,l[k].2.1)=some true:=by rw [hxe];exact aiF x (by rw [<-hxe];omega)
    refine So.pos hin (So.is hget (So.is hxs (So.le3 (.inl ?_))));simp only [List.take_length,Vl.t,hf,Bool.not_true]
   ·simp only [List.take_length,Vl.t,hf]
   ·subst hs;refine So.pos (by simp [Vl.t]) (So.is rfl (So.pos (by simp [Vl.t];omega) (So.le3 (.inl ⟨⟨k+1,by omega,?_⟩,?_⟩))))
    ·rw [List.take_add_one,List.getElem?_eq_getElem hk1];simp only [Option.toList_some,Di];rw [hT];show (IntKind.wrap .i64 ((k:Int)+1),_)=_;rw [aj (by omega)];simp only [Vl.t,List.take_length];rfl
    ·show ((pl.length:Int)-IntKind.wrap .i64 ((k:Int)+1)).toNat<((pl.length:Int)-(k:Int)).toNat;rw [aj (by omega)];omega
  ·simp only [Vl.t,List.take_length];rw [List.take_of_length_le (l:=pl) (by omega),List.drop_of_length_le (by omega)];rfl
 ·simp only [Vl.t,List.take_length];rw [hd];rfl
 ·subst hs;refine So.if (fun h=>by rw [show v.fails=true from h] at hf;cases hf) fun _=>So.dec (fun h => ?_) fun h=>So.le3 (.mk ?_)
  ·cases hr':rest with
   | nil=>rw [hr'] at h;simp [Vl.t] at h
   | cons w rs =>
     refine So.pos (by simp [Vl.t]) (So.is rfl (So.le3 (.mk ?_)));have:=hr w (by rw [hr'];exact List.mem_cons_self ..);simp only [Vl.t,List.take_length,hf];rw [decide_eq_false (by show ¬w.1<=v.now;omega)]
  ·simp only [Vl.t,List.take_length,hf]
theorem aiG {q:List WT} {k:Nat} (hk:k<q.length):(q.map jr)[Int.toNat (k:Int)]? = some (jr q[k]):=by
 rw [Int.toNat_natCast,List.getElem?_map,List.getElem?_eq_getElem hk];rfl
theorem aaF {v:Vl} {c:Ca} {q:List WT} (hd:v.due=q.map jr) (hq:q.length<=1000) (hp:q.Pairwise ER) (w:WT) (hno:∀x∈q,x.2.1≠w.2.1) :
 dR (jr w,(v.t,c.t))=some (true,({v with due:=(rC w q).map jr}:Vl).t):=by
 have hcl:(q.takeWhile (aW w)).length<=q.length:=(List.takeWhile_sublist _).length_le;have hdl:v.due.length=q.length:=by rw [hd,List.length_map]
 unfold dR;refine So.eq ?_;refine So.join (P:=fun n=>n=((q.takeWhile (aW w)).length:Int)) (So.loop (fun n=>∃k:Nat,n=(k:Int)/\k<=(q.takeWhile (aW w)).length) (fun n=>((q.length:Int)-n).toNat) (fun n hn => ?_) ⟨0,rfl,by omega⟩) fun n hn => ?_
 ·obtain ⟨k,rfl,hk⟩:=hn;have e1:IntKind.wrap .i64 ((k:Int)+1)=(k:Int)+1:=aj (by omega);refine So.dec (p:=(k:Int)<((v.due.length:Nat):Int)) (fun h1 => ?_) fun h1 => .out (.inl (by omega));have hk1:k<q.length:=by omega
  have hin:0<=(k:Int)/\(k:Int)<((v.due.length:Nat):Int):=by omega
  have hg:v.due[Int.toNat (k:Int)]? = some (jr q[k]):=by rw [hd];exact aiG hk1
  have hc:=Lc (w:=w) hp hk1;rw [vH] at hc;have hnext:ER q[k] w->So (some (Sum.inl (IntKind.wrap .i64 ((k:Int)+1))):Option (Int ⊕ (Int ⊕ (Bool×VT)))) (Sm (fun n=>(∃k:Nat,n=(k:Int)/\k<=(q.takeWhile (aW w)).length)/\((q.length:Int)-n).toNat<((q.length:Int)-(k:Int)).toNat) (Sm (fun n=>n=((q.takeWhile (aW w)).length:Int)) fun r=>r=(true,({v with due:=(rC w q).map jr}:Vl).t))):=fun hw=>by
   have:=hc.1 hw;rw [e1];exact .inl ⟨⟨k+1,by omega,by omega⟩,by omega⟩
  have hstop:¬ER q[k] w->(k:Int)=((q.takeWhile (aW w)).length:Int):=fun hw=>by
   have:=mt hc.2 hw;omega
  refine So.pos hin (So.is hg (So.dec (p:=q[k].1<w.1) (fun h2=>hnext (.inl h2)) fun h2=>So.pos hin (So.is hg (So.dec (p:=q[k].1=w.1) (fun h3=>So.pos hin (So.is hg (So.dec (p:=q[k].2.1<w.2.1) (fun h4=>hnext (.inr ⟨h3,h4⟩)) fun h4 => .out (.inl (hstop fun hx=>by unfold ER at hx;omega))))) fun h3 => .out (.inl (hstop fun hx=>by unfold ER at hx;omega))))))
 ·subst hn;refine So.join (P:=fun _=>True) (So.loop (fun n=>∃k:Nat,n=(k:Int)/\k<=q.length) (fun n=>((q.length:Int)-n).toNat) (fun n hn => ?_) ⟨0,rfl,by omega⟩) fun _ _ => ?_
  ·obtain ⟨k,rfl,hk⟩:=hn;have e1:IntKind.wrap .i64 ((k:Int)+1)=(k:Int)+1:=aj (by omega);refine So.dec (p:=(k:Int)<((v.due.length:Nat):Int)) (fun h1 => ?_) fun h1 => .out (.inl trivial);have hk1:k<q.length:=by omega
   have hin:0<=(k:Int)/\(k:Int)<((v.due.length:Nat):Int):=by omega
   have hg:v.due[Int.toNat (k:Int)]? = some (jr q[k]):=by rw [hd];exact aiG hk1
   refine So.pos hin (So.is hg (So.neg (p:=q[k].2.1=w.2.1) (hno _ (List.getElem_mem hk1)) ?_));rw [e1];exact .inl ⟨⟨k+1,by omega,by omega⟩,by omega⟩
  ·have hin:0<=((q.takeWhile (aW w)).length:Int)/\((q.takeWhile (aW w)).length:Int)<=((v.due.length:Nat):Int):=by omega
   have ht:v.due.take (q.takeWhile (aW w)).length=(q.takeWhile (aW w)).map jr:=by
    rw [hd,<-List.map_take];have e:=List.takeWhile_append_dropWhile (p:=aW w) (l:=q);generalize q.takeWhile (aW w)=a at e ⊢;generalize q.dropWhile (aW w)=b at e;subst e;rw [List.take_left' rfl]
   have hdr:v.due.drop (q.takeWhile (aW w)).length=(q.dropWhile (aW w)).map jr:=by
    rw [hd,<-List.map_drop];have e:=List.takeWhile_append_dropWhile (p:=aW w) (l:=q);generalize q.takeWhile (aW w)=a at e ⊢;generalize q.dropWhile (aW w)=b at e ⊢;subst e;rw [List.drop_left' rfl]
   have hdl2:(q.dropWhile (aW w)).length<=q.length:=(List.dropWhile_sublist _).length_le;refine So.pos hin (So.is (congrArg some ht) (So.pos (by simp only [List.length_map];omega) (So.le ?_)));refine So.pos (by simp only [List.length_append,List.length_map,List.length_cons,List.length_nil,List.length_take];omega) (So.is rfl (So.pos hin (So.is (congrArg some hdr) (So.le ?_))));refine So.pos (by simp only [List.length_append,List.length_map,List.length_cons,List.length_nil,List.length_take];omega) (So.is rfl (So.if (fun _ => .mk ?_) fun h => ?_))
   ·have e:(q.takeWhile (aW w)).map jr++[jr w]++(q.dropWhile (aW w)).map jr=(rC w q).map jr:=by unfold rC;simp
    show (true,_)=_;rw [<-e];simp only [Vl.t,List.take_length];rfl
   ·simp at h
theorem ads {v:Vl} {c:Ca} {q:List WT} (hd:v.due=q.map jr) (hq:q.length<=1000) (n:Int) :
 So (dZ (n,(v.t,c.t))) (fun b=>b=true↔∃w∈q,w.2.1=n):=by
 have hdl:v.due.length=q.length:=by rw [hd,List.length_map]
 unfold dZ;refine So.join (P:=fun _=>¬ ∃w∈q,w.2.1=n) (So.loop (fun m=>∃k:Nat,m=(k:Int)/\k<=q.length/\∀w∈q.take k,w.2.1≠n) (fun m=>((q.length:Int)-m).toNat) (fun m hm => ?_) ⟨0,rfl,by omega,fun w hw=>by simp at hw⟩) fun _ hn => .mk ⟨fun h=>(by cases h),fun h=>(hn h).elim⟩;obtain ⟨k,rfl,hk,hno⟩:=hm;have e1:IntKind.wrap .i64 ((k:Int)+1)=(k:Int)+1:=aj (by omega);refine So.dec (p:=(k:Int)<((v.due.length:Nat):Int)) (fun h1 => ?_) fun h1 => .out (.inl ?_)
 ·have hk1:k<q.length:=by omega
  have hin:0<=(k:Int)/\(k:Int)<((v.due.length:Nat):Int):=by omega
  have hg:v.due[Int.toNat (k:Int)]? = some (jr q[k]):=by rw [hd];exact aiG hk1
  refine So.pos hin (So.is hg (So.dec (p:=q[k].2.1=n) (fun h2 => .out (.out (.mk ⟨fun _=>⟨_,List.getElem_mem hk1,h2⟩,fun _=>rfl⟩))) fun h2 => ?_));rw [e1];refine .inl ⟨⟨k+1,by omega,by omega,fun w hw => ?_⟩,by omega⟩;rw [List.take_add_one,List.getElem?_eq_getElem hk1] at hw;rcases List.mem_append.1 hw with hw | hw
  ·exact hno w hw
  ·rw [show w=q[k] by simpa using hw];exact h2
 ·rw [List.take_of_length_le (by omega)] at hno;exact fun ⟨w,hw,he⟩=>hno w hw he
theorem adt {j:Jt} {n k t:Int} {mk:Bool} {ty:Int} {py:List Int} {w:WT} (hw:w∈(j.put n k t mk ty py).1.q):w∈left n j.q\/w.1<=n+120000:=by
 unfold Jt.put at hw;split at hw
 ·exact .inl hw
 split at hw
 ·exact .inl hw
 split at hw
 ·exact .inl hw
 have hm:=(G8 (r:=j.run n) (k:=k) (t:=t) (mk:=mk)).1;unfold Jt.take at hw;split at hw
 ·exact .inl (by simp only at hw;rw [hm] at hw;exact hw)
 split at hw
 ·exact .inl (by simp only at hw;rw [hm] at hw;exact hw)
 ·rename_i h1 h2;rcases G9.1 hw with rfl | hw
  ·exact .inr (by simp only;omega)
  ·exact .inl (by rw [hm] at hw;exact hw)
structure Ex (j:Jt) (i n:Int):Prop where
 tr:j.transit=0
 sp:j.spread=0
 fi:j.first % 8=0
 ze:j.on=true->j.zero=j.first / 8+j.le
 q:∀w∈j.q,w.1<20*i+j.le
 hi:j.high<n
 dn:j.done<n
theorem Ex.next {j:Jt} {i n:Int} (h:Ex j i n):Ex j (i+1) n:=⟨h.tr,h.sp,h.fi,h.ze,fun w hw=>by have:=h.q w hw;omega,h.hi,h.dn⟩
theorem aaG {w:WT} {q:List WT} (h:∀a∈q,a.1<w.1):rC w q=q++[w]:=by
 have hb:∀a∈q,aW w a=true:=fun a ha=>decide_eq_true (vH.2 (.inl (h a ha)));have e1:q.takeWhile (aW w)=q:=by
  clear h
  induction q with
  | nil=>rfl
  | cons a q ih =>
    rw [List.takeWhile_cons_of_pos (hb a (List.mem_cons_self ..)),ih fun x hx=>hb x (List.mem_cons_of_mem _ hx)]
 have e2:q.dropWhile (aW w)=[]:=by
  have:=congrArg List.length (List.takeWhile_append_dropWhile (p:=aW w) (l:=q));rw [List.length_append,e1] at this;exact List.length_eq_zero_iff.1 (by omega)
 unfold rC;rw [e1,e2]
theorem adu {d b:Int} {p:List WT} (hd:d<b) (hp:∀w∈p,w.2.1<b):maxS d p<b:=by
 induction p generalizing d with
 | nil=>exact hd
 | cons w p ih =>
   have hw:=hp w (List.mem_cons_self ..);have:=zC (a:=d) (b:=w.2.1);exact ih (d:=bf d w.2.1) (by omega) fun x hx=>hp x (List.mem_cons_of_mem _ hx)
theorem aiH {j:Jt} (h:JV j) {i k:Int} (he:Ex j i k) (hi:0<=i/\i<=60) (hk:0<=k/\k<=1000) (mk:Bool) (ty:Int) (py:List Int) :
 (j.put (20*i) k (160*i) mk ty py).1.q=left (20*i) j.q++[(20*i+j.le,(k,(160*i,(mk,(ty,py)))))]/\Ex (j.put (20*i) k (160*i) mk ty py).1 (i+1) (k+1):=by
 obtain ⟨⟨⟨c1,c2,c3⟩,h2,h3,h4,h5,h6,h7,h8,h9,h10,h11,h12⟩,ho,hqv⟩:=h;obtain ⟨e1,e2,e3,e4,e5,e6,e7⟩:=he;have hl:=congrArg List.length (jP (20*i) j.q);rw [List.length_append] at hl;have hsq:∀w∈j.q,w.2.1<k:=fun w hw=>by have:=hqv.2.2 w hw;unfold WOk at this;omega
 have hd1:maxS j.done (due (20*i) j.q)<k:=adu e7 fun w hw=>hsq w (sD hw);have hno:¬ ∃w∈(j.run (20*i)).q,w.2.1=k:=fun ⟨w,hw,hh⟩=>by have:=hsq w (mem_left hw);omega
 have hq1:∀w∈left (20*i) j.q,w.1<20*i+j.le:=fun w hw=>e5 w (mem_left hw);have hsp:(j.run (20*i)).spr (160*i)=0:=by
  unfold Jt.spr;split
  ·show j.spread+(Rn (20*i-160*i / 8-j.transit)-(j.spread+8) / 16)=0;rw [e1,e2];unfold Rn;split<;>omega
  ·exact e2
 have hlz:uq (20*i+eU (j.le+0 / 4) j.mo) (left (20*i) j.q)=20*i+j.le:=by
  have hm:eU (j.le+0 / 4) j.mo=j.le:=by unfold eU;split<;>omega
  rw [hm];unfold uq;cases hg:(left (20*i) j.q).getLast? with
  | none=>rfl
  | some w =>
    have:=hq1 w (List.mem_of_getLast? hg);simp only;unfold bf;split<;>omega
 have hmx:=zC (a:=j.high) (b:=k);have key:∀m:Jt,m=(j.run (20*i)).meas k (160*i) mk->m.at (160*i)=20*i+j.le/\m.q=left (20*i) j.q/\m.transit=0/\m.spread=0/\m.first % 8=0/\m.zero=m.first / 8+j.le/\m.le=j.le/\m.high<k+1/\m.done<k+1:=fun m hm=>by
  subst hm;unfold Jt.meas Jt.at;by_cases hc:(j.run (20*i)).on=false\/(mk=true/\k > (j.run (20*i)).high)
  ·rw [if_pos hc];simp only [hsp];have z:uq ((j.run (20*i)).now+eU ((j.run (20*i)).le+0 / 4) (j.run (20*i)).mo) (j.run (20*i)).q=20*i+j.le:=hlz;rw [z];refine ⟨by omega,rfl,by show 20*i-160*i / 8=0;omega,trivial,by omega,by omega,rfl,by show bf j.high k<k+1;omega,by show maxS j.done (due (20*i) j.q)<k+1;omega⟩
  ·rw [if_neg hc];simp only [hsp];have hon:j.on=true:=by
    cases hb:j.on with
    | true=>rfl
    | false=>exact (hc (.inl hb)).elim
   have hz:=e4 hon;refine ⟨by show j.zero+(160*i-j.first) / 8=_;omega,rfl,by show 20*i-160*i / 8=0;omega,trivial,e3,hz,rfl,by show bf j.high k<k+1;omega,by show maxS j.done (due (20*i) j.q)<k+1;omega⟩
 obtain ⟨m,hm⟩:∃m,m=(j.run (20*i)).meas k (160*i) mk:=⟨_,rfl⟩
 obtain ⟨k1,k2,k3,k4,k5,k6,k7,k8,k9⟩:=key m hm;unfold Jt.put;rw [if_neg hno,if_neg (fun hx=>by have:k<=maxS j.done (due (20*i) j.q):=hx.2;omega),if_neg (by show ¬ 200<=(left (20*i) j.q).length;omega),<-hm];unfold Jt.take;rw [k1,if_neg (by omega),if_neg (by omega),k2,aaG (by intro a ha;exact hq1 a ha)];refine ⟨rfl,⟨k3,k4,k5,fun _=>by show m.zero=m.first / 8+m.le;rw [k7];exact k6,fun w hw => ?_,k8,k9⟩⟩;show w.1<20*(i+1)+m.le;rw [k7];rcases List.mem_append.1 hw with hw | hw
 ·have:=hq1 w hw;omega
 ·rw [List.mem_singleton.1 hw];simp only;omega
structure LV (v:Vl):Prop where
 fv:FV v.f
 sq:v.f.sq=(v.sent.length:Int)
 sl:v.sent.length<=70
 pv:PV (v.sent.length:Int) v.p
 jn:v.p.j.now<=v.now
 nw:0<=v.now/\v.now<=900000
 due:v.due=v.p.j.q.map jr
 dn:v.done=v.p.j.done
 snt:∀w∈v.p.j.q,Xq v.sent w
 dv:vF v.st
 ow:v.ow=v.st
 cn:v.p.j.sum<=v.count/\v.count<=180
 ff:v.fails=false
 fw:∀w∈v.p.j.q,w.1<=v.now+120000
theorem So.eq4 {α:Type} {n m k i:Nat} {a b:Option α} {P:α->Prop} (h:So a P):So (bif (decide (n=n)&&(decide (m=m)&&(decide (k=k)&&decide (i=i)))) then a else b) P:=by
 rw [decide_eq_true (rfl:n=n),decide_eq_true (rfl:m=m),decide_eq_true (rfl:k=k),decide_eq_true (rfl:i=i)];exact h
theorem Xq.lt {sent:List (List Int)} {w:WT} (h:Xq sent w):0<=w.2.1/\w.2.1<(sent.length:Int):=by
 obtain ⟨h1,x,h2,_⟩:=h;refine ⟨h1,?_⟩;rcases Nat.lt_or_ge w.2.1.toNat sent.length with h | h
 ·omega
 ·rw [List.getElem?_eq_none h] at h2;cases h2
theorem aaH {j:Jt} (h:JV j):0<=j.sum/\j.q.length<=j.sum:=by
 obtain ⟨⟨_,_,_,_,_,_,_,_,h1,h2,h3,_⟩,_⟩:=h;unfold Jt.sum;omega
structure aiI (v:Vl) (k tm:Int) (mk:Bool) (ty:Int) (py:List Int) (v':Vl):Prop where
 lv:LV v'
 f:v'.f=v.f
 now:v'.now=v.now
 sent:v'.sent=v.sent
 st:v'.st=v.st
 count:v'.count=v.count+1
 cd:v'.p.cd=v.p.cd
 j:v'.p.j=(v.p.j.put v.now k tm mk ty py).1
theorem aaI {v:Vl} {c:Ca} (h:LV v) {mk:Bool} {ty k tm:Int} {py:List Int} (hp:pO ty py) (ht:0<=tm/\tm<=15000) (hS:Xq v.sent (0,(k,(tm,(mk,(ty,py)))))) (hc:v.count<=170) :
 So (dA (Dh mk ty k tm 7 py,(v.t,c.t))) (fun r=>∃v',r=v'.t/\aiI v k tm mk ty py v'):=by
 have hk:=hS.lt;simp only at hk;have hsl:=h.sl;have hlen:=hp.len;have hjv:=h.pv.2.1;have hnow:v.p.j.now<=v.now/\v.now<=1000000:=⟨h.jn,by have:=h.nw;omega⟩
 have hsum:=h.cn;have hput:=Ro (mk:=mk) (ty:=ty) hjv hnow (k:=k) (t:=tm) (by omega) (by omega) hlen.1 (by omega);have hql:=hjv.len;have hdl:=vI v.now v.p.j.q;have hle:(left v.now v.p.j.q).length<=v.p.j.q.length:=by rw [<-xW,List.length_drop];omega
 unfold dA;refine So.is (WW (mk:=mk) ⟨hk.1,by omega⟩ ⟨ht.1,by omega⟩ ⟨by omega,by omega⟩ hlen.2 hlen.1) ?_;refine So.bind (Rt (n:=(v.sent.length:Int)) (by omega) h.pv hnow hk ⟨ht.1,by omega⟩ hp (by omega)) fun r hr => ?_;obtain ⟨r1,ve,l,r4⟩:=r;obtain ⟨⟨p',e,hpv,hcd,hj,ho⟩,hve,hsd,he0⟩:=hr;simp only at e hve hsd he0;subst e he0;have ek:IntKind.wrap .i64 k=k:=aj (by omega);have et:IntKind.wrap .i64 tm=tm:=aj (by omega);simp only [ek,et];refine So.join (P:=fun _=>True) (So.neg (by omega) (So.neg (by omega) (So.neg (p:=k>=((v.sent.length:Nat):Int)) (by omega) (.inl trivial)))) fun _ _=>So.if (fun _ => ?_) fun h=>(by simp at h)
 have hheed:=Uj (v:={v with p:=p'}) (c:=c) (rest:=left v.now v.p.j.q) hsd (by omega) (by show v.due=_;rw [jP];exact h.due) (fun w hw=>h.snt w (sD hw)) (fun w hw=>Rl hw) (fun w hw=>La hjv.2.2.1 hw) h.ff;refine So.is hheed (So.neg (by have:=hlen.2;unfold Ty4 at this;omega) ?_);have hjv':JV p'.j:=hpv.2.1;have hat:=Q9 (t:=tm) hjv' (by omega);refine So.is hat ?_;refine So.join (P:=fun s=>∃a b,s=({v with p:=p',done:=maxS v.done (due v.now v.p.j.q),due:=(left v.now v.p.j.q).map jr,least:=a,most:=b}:Vl).t) (So.dec (fun _=>So.le3 (.inl ⟨k,k,by simp only [Vl.t,List.take_length]⟩)) fun _=>So.le3 (.inl ⟨v.least,v.most,by simp only [Vl.t,List.take_length]⟩)) fun s hs => ?_;obtain ⟨a,b,rfl⟩:=hs;have hsn:=aaH hjv;have hnw:=h.nw;have ecount:IntKind.wrap .i64 (v.count+1)=v.count+1:=aj (by omega);refine So.is rfl ?_;simp only [Vl.t,ecount,List.take_length];have hnowp:p'.j.now=v.now:=by rw [hj];exact hput.2.1
 have hdonep:p'.j.done=maxS v.done (due v.now v.p.j.q):=by rw [hj,h.dn];exact hput.2.2.1
 have hsump:p'.j.sum<=v.count+1:=by rw [hj];have:=hput.2.2.2.1;omega
 have hsnt:∀w∈p'.j.q,Xq v.sent w:=fun w hw=>by
  rw [hj] at hw;rcases aez hput hw with hw | rfl
  ·exact h.snt w (mem_left hw)
  ·exact hS
 have hfw:∀w∈p'.j.q,w.1<=v.now+120000:=fun w hw=>by
  rw [hj] at hw;rcases adt hw with hw | hw
  ·exact h.fw w (mem_left hw)
  ·exact hw
 have fin:∀V:Vl,V={v with p:=p',done:=maxS v.done (due v.now v.p.j.q),due:=p'.j.q.map jr,count:=v.count+1,least:=eU a k,most:=bf b k}->∃v',V.t=v'.t/\aiI v k tm mk ty py v':=fun V hV=>by
  subst hV;exact ⟨_,rfl,⟨⟨h.fv,h.sq,h.sl,hpv,by show p'.j.now<=v.now;omega,h.nw,rfl,hdonep.symm,hsnt,h.dv,h.ow,⟨hsump,by show v.count+1<=180;omega⟩,h.ff,hfw⟩,rfl,rfl,rfl,rfl,rfl,hcd,hj⟩⟩
 have hcase:=hput.2.2.2.2.2.2;rw [<-hj] at hcase;rw [<-hve] at hcase;rw [<-h.dn] at hcase;rcases hcase with ⟨c1,c2,c3,c4,c5⟩ | ⟨c1,c2,c3⟩
 ·refine So.pos c1 (So.if (fun hf=>by rw [h.ff] at hf;cases hf) fun _=>So.neg (by omega) (So.neg (by omega) (So.if (fun _ => ?_) fun h=>(by simp at h))));have hins:=aaF (v:={v with p:=p',done:=maxS v.done (due v.now v.p.j.q),due:=(left v.now v.p.j.q).map jr,count:=v.count+1,least:=eU a k,most:=bf b k}) (c:=c) (q:=left v.now v.p.j.q) rfl (by omega) (hjv.2.2.1.sublist (List.dropWhile_sublist _)) (p'.j.at tm,(k,(tm,(mk,(ty,py))))) c4;refine So.is hins (So.le3 (.mk ?_));simp only [Vl.t,List.take_length];refine fin ⟨v.f,p',v.now,maxS v.done (due v.now v.p.j.q),v.sent,(rC (p'.j.at tm,(k,(tm,(mk,(ty,py))))) (left v.now v.p.j.q)).map jr,v.keys,v.starts,v.count+1,eU a k,bf b k,v.st,v.ow,!true⟩ ?_;rw [c5,h.ff];rfl
 ·refine So.neg c1 (So.if (fun hf=>by rw [h.ff] at hf;cases hf) fun _=>So.dec (fun d1=>So.if (fun _ => ?_) fun h=>(by simp at h)) fun d1=>So.le3 (.mk ?_))
  ·refine So.bind (ads (v:={v with p:=p',done:=maxS v.done (due v.now v.p.j.q),due:=(left v.now v.p.j.q).map jr,count:=v.count+1,least:=eU a k,most:=bf b k}) (c:=c) (q:=left v.now v.p.j.q) rfl (by omega) k) fun w hw=>So.if (fun hwf=>So.dec (fun d2=>So.dec (fun d3=>So.le3 (.mk ?_)) fun d3=>So.le3 (.mk ?_)) fun d2=>So.le3 (.mk ?_)) fun hwf=>So.le3 (.mk ?_)
   ·rw [aj (n:=v.now+120000) (by omega)] at d3;have hno:∀w∈left v.now v.p.j.q,w.2.1≠k:=fun x hx he=>by
     have:=hw.2 ⟨x,hx,he⟩;rw [this] at hwf;cases hwf
    have hlt:¬((((left v.now v.p.j.q).map jr).length:Nat):Int)<200:=fun hlt=>c3 ⟨by omega,hno,by omega,by omega,by rw [List.length_map] at hlt;omega⟩;refine fin ⟨v.f,p',v.now,maxS v.done (due v.now v.p.j.q),v.sent,(left v.now v.p.j.q).map jr,v.keys,v.starts,v.count+1,eU a k,bf b k,v.st,v.ow,decide (((((left v.now v.p.j.q).map jr).length:Nat):Int)<200)⟩ ?_;rw [c2,h.ff,decide_eq_false hlt]
   ·refine fin ⟨v.f,p',v.now,maxS v.done (due v.now v.p.j.q),v.sent,(left v.now v.p.j.q).map jr,v.keys,v.starts,v.count+1,eU a k,bf b k,v.st,v.ow,false⟩ ?_;rw [c2,h.ff]
   ·refine fin ⟨v.f,p',v.now,maxS v.done (due v.now v.p.j.q),v.sent,(left v.now v.p.j.q).map jr,v.keys,v.starts,v.count+1,eU a k,bf b k,v.st,v.ow,false⟩ ?_;rw [c2,h.ff]
   ·refine fin ⟨v.f,p',v.now,maxS v.done (due v.now v.p.j.q),v.sent,(left v.now v.p.j.q).map jr,v.keys,v.starts,v.count+1,eU a k,bf b k,v.st,v.ow,false⟩ ?_;rw [c2,h.ff]
  ·refine fin ⟨v.f,p',v.now,maxS v.done (due v.now v.p.j.q),v.sent,(left v.now v.p.j.q).map jr,v.keys,v.starts,v.count+1,eU a k,bf b k,v.st,v.ow,false⟩ ?_;rw [c2,h.ff]
end Go.Proofs.YtigfeinnobfflaaGreat
