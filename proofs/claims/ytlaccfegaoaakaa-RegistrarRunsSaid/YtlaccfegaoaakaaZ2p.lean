import Derived.Test.YtlaccfegaoaakaaB4p
import Derived.Test.YtlaccfegaoaakaaXBp
import Derived.Test.YtlaccfegaoaakaaJ4p
set_option linter.unusedSimpArgs false
set_option linter.unusedVariables false
set_option maxRecDepth 1000000
set_option maxHeartbeats 0
namespace Go.Proofs.Ytlaccfegaoaakaa
open Go.RowKit
def plan22:List (Nat×PL):=[(262657,(.carry [])),(9241421688590303250,(.carry [.mix 3 [(.own 10000002 5 uI8)]])),(5857446875251837918749797529164281065012793182214,(.carry [.tmp 5 false [dI],.mix 3 [(.own 10000036 5 uI8)],.dead 10000035])),(43641380036263450374825280377002664395265,(.carry [.mix 3 [(.own 10000050 5 uI8)],.dead 10000037])),(1240362622532514025046280198,(.carry [.tmp 5 false [dI],.mix 3 [(.own 10000018 5 uI8)]])),(1240362622532514091354554387,(.carry [.mix 3 [(.own 10000020 5 uI8)],.dead 10000002])),(166478653092435647469592732275836934,(.carry [.tmp 5 false [dI],.mix 3 [(.own 10000019 5 uI8)],.dead 10000002])),(635065662736647214839706157075,(.carry [.mix 3 [(.own 10000022 5 uI8)],.dead 22])),(85237070383327051513313244590217889798,(.carry [.tmp 5 false [dI],.mix 3 [(.own 10000021 5 uI8)],.dead 22])),(1240362622532514091484053523,(.carry [.mix 3 [(.own 10000024 5 uI8)],.dead 34])),(166478653092435647486973812087719942,(.carry [.tmp 5 false [dI],.mix 3 [(.own 10000023 5 uI8)],.dead 34])),(1240362622532514091484054017,(.carry [.mix 3 [(.own 10000029 5 uI8)],.dead 10000024])),(166478653092435647486973878257058833,(.carry [.mix 3 [(.own 10000027 5 uI8)],.dead 10000024])),(166478653092435647486973878257059345,(.carry [.mix 3 [(.own 10000028 5 uI8)],.dead 10000024])),(22344386578566886591910543535011036527855622,(.carry [.tmp 5 false [dI],.mix 3 [(.own 10000025 5 uI8)],.dead 10000024])),(22344386578566886591910543535011105247332358,(.carry [.tmp 5 false [dI],.mix 3 [(.own 10000026 5 uI8)],.dead 10000024])),(325153619321163373997995856232467,(.carry [.mix 3 [(.own 10000031 5 uI8)],.dead 10000029])),(43641380036263450374825280376936360839174,(.carry [.tmp 5 false [dI],.mix 3 [(.own 10000030 5 uI8)],.dead 10000029])),(43641380036263450374825280377002534895635,(.carry [.mix 3 [(.own 10000033 5 uI8)],.dead 10000031])),(5857446875251837918749797529164263683932847081478,(.carry [.tmp 5 false [dI],.mix 3 [(.own 10000032 5 uI8)],.dead 10000031])),(85237070383327051513330625736333328403,(.carry [.mix 3 [(.own 10000035 5 uI8)],.dead 54])),(11440325928226245935058198299148986388928792582,(.carry [.tmp 5 false [dI],.mix 3 [(.own 10000034 5 uI8)],.dead 54])),(43641380036263450374825280377002664394772,(.carry [.mix 3 [(.own 10000037 5 uI8)],.dead 10000035])),(5857446875251837918749797529164281065078828304390,(.carry [.tmp 67 false [dI],.mix 3 [(.own 10000042 5 uI8)],.dead 10000037])),(14162437529025953452002322041180027868550309617466840484466301573794627603,(.carry [.mix 3 [(.own 10000039 5 uI8)],.dead 10000042])),(1900850188087797525361508715091505779493505210552948445163486289797539255481010182,(.carry [.tmp 5 false [dI],.mix 3 [(.own 10000038 5 uI8)],.dead 10000042])),(27661010798878815335942035236679741930762323471614922821223245261570067,(.carry [.mix 3 [(.own 10000041 5 uI8)],.dead 84])),(3712598023608979541721696709163097225573252364361227431959934159794700105811974,(.carry [.tmp 5 false [dI],.mix 3 [(.own 10000040 5 uI8)],.dead 84])),(27661010798878815335942035236679741930762323471614922821223245261570579,(.carry [.mix 3 [(.own 10000048 5 uI8)],.dead 10000041])),(3712598023608979541721696709163097225573252364361227431959934159794768825288710,(.carry [.tmp 5 false [dI],.mix 3 [(.own 10000046 5 uI8)],.dead 10000041])),(11440325928226245935058198299148986455232348180,(.carry [.mix 3 [(.own 10000052 5 uI8)],.dead 10000050])),(1535494553666017799372746923485241295524059484824799238,(.carry [.tmp 5 false [dI],.mix 3 [(.own 10000051 5 uI8)],.dead 10000050])),(11440325928226245935058198299148986455232348673,(.carry [.mix 3 [(.own 10000059 5 uI8)],.dead 10000052])),(1535494553666017799372746923485241295524059550859921414,(.carry [.tmp 92 false [dI],.mix 3 [(.own 10000053 5 uI8)],.dead 10000052])),(7251168014861288167425188885084174268697924675101011819053893073350177587219,(.carry [.mix 3 [(.own 10000057 5 uI8)],.dead 10000053])),(973235296300952332985092462126850959100696968207195976854560637859998184153056282630,(.carry [.tmp 5 false [dI],.mix 3 [(.own 10000055 5 uI8)],.dead 10000053]))]
noncomputable def registrar_EncodeAct:(Int×(LU×(LU×(Int×(Bool×((List (LU×(Int×Int)))×(Int×(LU×(Int×(List LU))))))))))→Option (LN×Int):=fun (a1,(a2,(a3,(a4,(a5,(a6,(a7,(a8,(a9,a10))))))))) =>
 joinO (bindO (registrar_Formed (a2,(a3,(a4,(a5,(a6,(a7,(a8,(a9,a10))))))))) fun x11 =>
 bif (!x11) then
 outO (some (([]:List Int),(2:Int)))
 else
 bif (decide (a1<z0)) then
 outO (some (([]:List Int),(2:Int)))
 else
 bif (decide (a1 > (1099511627776:Int))) then
 outO (some (([]:List Int),(2:Int)))
 else
 some (Sum.inl ())) fun _ =>
 joinO (loopO (fun (v12,v13) =>
 bif (decide (v12≥z0)) then
 bindO (some (wI ((8:Int)*v12))) fun x15 =>
 bif (decide (z0≤x15)) then
 bindO (some (Int.fdiv (Go.IntKind.wrap .u64 a1) ((2:Int) ^ (Min.min (Int.toNat x15) 64)))) fun x16 =>
 bif (lE v13) then
 bif (rO ((tA v13)++((Go.IntKind.wrap .u8 x16)::([]:List Int))) 1) then
 bindO (some ((tA v13)++((Go.IntKind.wrap .u8 x16)::([]:List Int)))) fun x18 =>
 bif (lE x18) then
 some (Sum.inl ((wI (v12-z1)),(tA x18)))
 else none
 else none
 else none
 else none
 else
 outO (bif (lE v13) then
 some (Sum.inl (tA v13))
 else none)) ((7:Int),([]:List Int))) fun v20 =>
 joinO (bif (lE v20) then
 loopO (fun (v21,v22) =>
 bif (decide (v21≥z0)) then
 bindO (some (wI ((8:Int)*v21))) fun x24 =>
 bif (decide (z0≤x24)) then
 bindO (some (Int.fdiv (Go.IntKind.wrap .u64 (lI a2)) ((2:Int) ^ (Min.min (Int.toNat x24) 64)))) fun x25 =>
 bif (lE v22) then
 bif (rO ((tA v22)++((Go.IntKind.wrap .u8 x25)::([]:List Int))) 1) then
 bindO (some ((tA v22)++((Go.IntKind.wrap .u8 x25)::([]:List Int)))) fun x27 =>
 bif (lE x27) then
 some (Sum.inl ((wI (v21-z1)),(tA x27)))
 else none
 else none
 else none
 else none
 else
 outO (bif (lE v22) then
 some (Sum.inl (tA v22))
 else none)) (z1,(tA v20))
 else none) fun v29 =>
 bif (lE v29) then
 bif (rO ((tA v29)++(List.map (fun (x30:UInt8)=>(((UInt8.toNat x30):Nat):Int)) a2)) 1) then
 bindO (some ((tA v29)++(List.map (fun (x32:UInt8)=>(((UInt8.toNat x32):Nat):Int)) a2))) fun x31 =>
 joinO (bif (lE x31) then
 loopO (fun (v33,v34) =>
 bif (decide (v33≥z0)) then
 bindO (some (wI ((8:Int)*v33))) fun x36 =>
 bif (decide (z0≤x36)) then
 bindO (some (Int.fdiv (Go.IntKind.wrap .u64 (lI a3)) ((2:Int) ^ (Min.min (Int.toNat x36) 64)))) fun x37 =>
 bif (lE v34) then
 bif (rO ((tA v34)++((Go.IntKind.wrap .u8 x37)::([]:List Int))) 1) then
 bindO (some ((tA v34)++((Go.IntKind.wrap .u8 x37)::([]:List Int)))) fun x39 =>
 bif (lE x39) then
 some (Sum.inl ((wI (v33-z1)),(tA x39)))
 else none
 else none
 else none
 else none
 else
 outO (bif (lE v34) then
 some (Sum.inl (tA v34))
 else none)) (z1,(tA x31))
 else none) fun v41 =>
 bif (lE v41) then
 bif (rO ((tA v41)++(List.map (fun (x42:UInt8)=>(((UInt8.toNat x42):Nat):Int)) a3)) 1) then
 bindO (some ((tA v41)++(List.map (fun (x44:UInt8)=>(((UInt8.toNat x44):Nat):Int)) a3))) fun x43 =>
 joinO (bif (lE x43) then
 loopO (fun (v45,v46) =>
 bif (decide (v45≥z0)) then
 bindO (some (wI ((8:Int)*v45))) fun x48 =>
 bif (decide (z0≤x48)) then
 bindO (some (Int.fdiv (Go.IntKind.wrap .u64 a4) ((2:Int) ^ (Min.min (Int.toNat x48) 64)))) fun x49 =>
 bif (lE v46) then
 bif (rO ((tA v46)++((Go.IntKind.wrap .u8 x49)::([]:List Int))) 1) then
 bindO (some ((tA v46)++((Go.IntKind.wrap .u8 x49)::([]:List Int)))) fun x51 =>
 bif (lE x51) then
 some (Sum.inl ((wI (v45-z1)),(tA x51)))
 else none
 else none
 else none
 else none
 else
 outO (bif (lE v46) then
 some (Sum.inl (tA v46))
 else none)) ((3:Int),(tA x43))
 else none) fun v53 =>
 joinO (bif a5 then
 joinO (bif (lE v53) then
 loopO (fun (v54,v55) =>
 bif (decide (v54≥z0)) then
 bindO (some (wI ((8:Int)*v54))) fun x56 =>
 bif (decide (z0≤x56)) then
 bindO (some (Int.fdiv z1 ((2:Int) ^ (Min.min (Int.toNat x56) 64)))) fun x57 =>
 bif (lE v55) then
 bif (rO ((tA v55)++((Go.IntKind.wrap .u8 x57)::([]:List Int))) 1) then
 bindO (some ((tA v55)++((Go.IntKind.wrap .u8 x57)::([]:List Int)))) fun x59 =>
 bif (lE x59) then
 some (Sum.inl ((wI (v54-z1)),(tA x59)))
 else none
 else none
 else none
 else none
 else
 outO (bif (lE v55) then
 some (Sum.inl (tA v55))
 else none)) (z0,(tA v53))
 else none) fun v61 =>
 bif (lE v61) then
 some (Sum.inl (tA v61))
 else none
 else
 joinO (bif (lE v53) then
 loopO (fun (v62,v63) =>
 bif (decide (v62≥z0)) then
 bindO (some (wI ((8:Int)*v62))) fun x64 =>
 bif (decide (z0≤x64)) then
 bindO (some (Int.fdiv z0 ((2:Int) ^ (Min.min (Int.toNat x64) 64)))) fun x65 =>
 bif (lE v63) then
 bif (rO ((tA v63)++((Go.IntKind.wrap .u8 x65)::([]:List Int))) 1) then
 bindO (some ((tA v63)++((Go.IntKind.wrap .u8 x65)::([]:List Int)))) fun x67 =>
 bif (lE x67) then
 some (Sum.inl ((wI (v62-z1)),(tA x67)))
 else none
 else none
 else none
 else none
 else
 outO (bif (lE v63) then
 some (Sum.inl (tA v63))
 else none)) (z0,(tA v53))
 else none) fun v69 =>
 bif (lE v69) then
 some (Sum.inl (tA v69))
 else none) fun v70 =>
 joinO (bif (lE v70) then
 loopO (fun (v71,v72) =>
 bif (decide (v71≥z0)) then
 bindO (some (wI ((8:Int)*v71))) fun x74 =>
 bif (decide (z0≤x74)) then
 bindO (some (Int.fdiv (Go.IntKind.wrap .u64 a7) ((2:Int) ^ (Min.min (Int.toNat x74) 64)))) fun x75 =>
 bif (lE v72) then
 bif (rO ((tA v72)++((Go.IntKind.wrap .u8 x75)::([]:List Int))) 1) then
 bindO (some ((tA v72)++((Go.IntKind.wrap .u8 x75)::([]:List Int)))) fun x77 =>
 bif (lE x77) then
 some (Sum.inl ((wI (v71-z1)),(tA x77)))
 else none
 else none
 else none
 else none
 else
 outO (bif (lE v72) then
 some (Sum.inl (tA v72))
 else none)) ((3:Int),(tA v70))
 else none) fun v79 =>
 joinO (bif (lE v79) then
 loopO (fun (v80,v81) =>
 bif (decide (v80≥z0)) then
 bindO (some (wI ((8:Int)*v80))) fun x83 =>
 bif (decide (z0≤x83)) then
 bindO (some (Int.fdiv (Go.IntKind.wrap .u64 (lI a8)) ((2:Int) ^ (Min.min (Int.toNat x83) 64)))) fun x84 =>
 bif (lE v81) then
 bif (rO ((tA v81)++((Go.IntKind.wrap .u8 x84)::([]:List Int))) 1) then
 bindO (some ((tA v81)++((Go.IntKind.wrap .u8 x84)::([]:List Int)))) fun x86 =>
 bif (lE x86) then
 some (Sum.inl ((wI (v80-z1)),(tA x86)))
 else none
 else none
 else none
 else none
 else
 outO (bif (lE v81) then
 some (Sum.inl (tA v81))
 else none)) (z1,(tA v79))
 else none) fun v88 =>
 bif (lE v88) then
 bif (rO ((tA v88)++(List.map (fun (x89:UInt8)=>(((UInt8.toNat x89):Nat):Int)) a8)) 1) then
 bindO (some ((tA v88)++(List.map (fun (x91:UInt8)=>(((UInt8.toNat x91):Nat):Int)) a8))) fun x90 =>
 joinO (bif (lE x90) then
 loopO (fun (v92,v93) =>
 bif (decide (v92≥z0)) then
 bindO (some (wI ((8:Int)*v92))) fun x95 =>
 bif (decide (z0≤x95)) then
 bindO (some (Int.fdiv (Go.IntKind.wrap .u64 a9) ((2:Int) ^ (Min.min (Int.toNat x95) 64)))) fun x96 =>
 bif (lE v93) then
 bif (rO ((tA v93)++((Go.IntKind.wrap .u8 x96)::([]:List Int))) 1) then
 bindO (some ((tA v93)++((Go.IntKind.wrap .u8 x96)::([]:List Int)))) fun x98 =>
 bif (lE x98) then
 some (Sum.inl ((wI (v92-z1)),(tA x98)))
 else none
 else none
 else none
 else none
 else
 outO (bif (lE v93) then
 some (Sum.inl (tA v93))
 else none)) ((3:Int),(tA x90))
 else none) fun v100 =>
 joinO (bif (lE v100) then
 loopO (fun (v101,v102) =>
 bif (decide (v101≥z0)) then
 bindO (some (wI ((8:Int)*v101))) fun x104 =>
 bif (decide (z0≤x104)) then
 bindO (some (Int.fdiv (Go.IntKind.wrap .u64 (lI a6)) ((2:Int) ^ (Min.min (Int.toNat x104) 64)))) fun x105 =>
 bif (lE v102) then
 bif (rO ((tA v102)++((Go.IntKind.wrap .u8 x105)::([]:List Int))) 1) then
 bindO (some ((tA v102)++((Go.IntKind.wrap .u8 x105)::([]:List Int)))) fun x107 =>
 bif (lE x107) then
 some (Sum.inl ((wI (v101-z1)),(tA x107)))
 else none
 else none
 else none
 else none
 else
 outO (bif (lE v102) then
 some (Sum.inl (tA v102))
 else none)) (z0,(tA v100))
 else none) fun v109 =>
 joinO (bif (lE v109) then
 loopO (fun (v110,v111) =>
 bif (decide (v110<(lI a6))) then
 bif (iR v110 a6) then
 bindO a6[(Int.toNat v110)]? fun x112 =>
 joinO (bif (lE v111) then
 loopO (fun (v113,v114) =>
 bif (decide (v113≥z0)) then
 bindO (some (wI ((8:Int)*v113))) fun x116 =>
 bif (decide (z0≤x116)) then
 bindO (some (Int.fdiv (Go.IntKind.wrap .u64 (lI x112.1)) ((2:Int) ^ (Min.min (Int.toNat x116) 64)))) fun x117 =>
 bif (lE v114) then
 bif (rO ((tA v114)++((Go.IntKind.wrap .u8 x117)::([]:List Int))) 1) then
 bindO (some ((tA v114)++((Go.IntKind.wrap .u8 x117)::([]:List Int)))) fun x119 =>
 bif (lE x119) then
 some (Sum.inl ((wI (v113-z1)),(tA x119)))
 else none
 else none
 else none
 else none
 else
 outO (bif (lE v114) then
 some (Sum.inl (tA v114))
 else none)) (z1,(tA v111))
 else none) fun v121 =>
 bif (lE v121) then
 bif (rO ((tA v121)++(List.map (fun (x122:UInt8)=>(((UInt8.toNat x122):Nat):Int)) x112.1)) 1) then
 bindO (some ((tA v121)++(List.map (fun (x124:UInt8)=>(((UInt8.toNat x124):Nat):Int)) x112.1))) fun x123 =>
 joinO (bif (lE x123) then
 loopO (fun (v125,v126) =>
 bif (decide (v125≥z0)) then
 bindO (some (wI ((8:Int)*v125))) fun x128 =>
 bif (decide (z0≤x128)) then
 bindO (some (Int.fdiv (Go.IntKind.wrap .u64 x112.2.1) ((2:Int) ^ (Min.min (Int.toNat x128) 64)))) fun x129 =>
 bif (lE v126) then
 bif (rO ((tA v126)++((Go.IntKind.wrap .u8 x129)::([]:List Int))) 1) then
 bindO (some ((tA v126)++((Go.IntKind.wrap .u8 x129)::([]:List Int)))) fun x131 =>
 bif (lE x131) then
 some (Sum.inl ((wI (v125-z1)),(tA x131)))
 else none
 else none
 else none
 else none
 else
 outO (bif (lE v126) then
 some (Sum.inl (tA v126))
 else none)) (z1,(tA x123))
 else none) fun v133 =>
 joinO (bif (lE v133) then
 loopO (fun (v134,v135) =>
 bif (decide (v134≥z0)) then
 bindO (some (wI ((8:Int)*v134))) fun x137 =>
 bif (decide (z0≤x137)) then
 bindO (some (Int.fdiv (Go.IntKind.wrap .u64 x112.2.2) ((2:Int) ^ (Min.min (Int.toNat x137) 64)))) fun x138 =>
 bif (lE v135) then
 bif (rO ((tA v135)++((Go.IntKind.wrap .u8 x138)::([]:List Int))) 1) then
 bindO (some ((tA v135)++((Go.IntKind.wrap .u8 x138)::([]:List Int)))) fun x140 =>
 bif (lE x140) then
 some (Sum.inl ((wI (v134-z1)),(tA x140)))
 else none
 else none
 else none
 else none
 else
 outO (bif (lE v135) then
 some (Sum.inl (tA v135))
 else none)) ((3:Int),(tA v133))
 else none) fun v142 =>
 bif (lE v142) then
 some (Sum.inl ((wI (v110+z1)),(tA v142)))
 else none
 else none
 else none
 else none
 else
 outO (bif (lE v111) then
 some (Sum.inl (tA v111))
 else none)) (z0,(tA v109))
 else none) fun v144 =>
 joinO (bif (lE v144) then
 loopO (fun (v145,v146) =>
 bif (decide (v145≥z0)) then
 bindO (some (wI ((8:Int)*v145))) fun x148 =>
 bif (decide (z0≤x148)) then
 bindO (some (Int.fdiv (Go.IntKind.wrap .u64 (lI a10)) ((2:Int) ^ (Min.min (Int.toNat x148) 64)))) fun x149 =>
 bif (lE v146) then
 bif (rO ((tA v146)++((Go.IntKind.wrap .u8 x149)::([]:List Int))) 1) then
 bindO (some ((tA v146)++((Go.IntKind.wrap .u8 x149)::([]:List Int)))) fun x151 =>
 bif (lE x151) then
 some (Sum.inl ((wI (v145-z1)),(tA x151)))
 else none
 else none
 else none
 else none
 else
 outO (bif (lE v146) then
 some (Sum.inl (tA v146))
 else none)) (z0,(tA v144))
 else none) fun v153 =>
 joinO (bif (lE v153) then
 loopO (fun (v154,v155) =>
 bif (decide (v154<(lI a10))) then
 bif (iR v154 a10) then
 bindO a10[(Int.toNat v154)]? fun x156 =>
 joinO (bif (lE v155) then
 loopO (fun (v157,v158) =>
 bif (decide (v157≥z0)) then
 bindO (some (wI ((8:Int)*v157))) fun x160 =>
 bif (decide (z0≤x160)) then
 bindO (some (Int.fdiv (Go.IntKind.wrap .u64 (lI x156)) ((2:Int) ^ (Min.min (Int.toNat x160) 64)))) fun x161 =>
 bif (lE v158) then
 bif (rO ((tA v158)++((Go.IntKind.wrap .u8 x161)::([]:List Int))) 1) then
 bindO (some ((tA v158)++((Go.IntKind.wrap .u8 x161)::([]:List Int)))) fun x163 =>
 bif (lE x163) then
 some (Sum.inl ((wI (v157-z1)),(tA x163)))
 else none
 else none
 else none
 else none
 else
 outO (bif (lE v158) then
 some (Sum.inl (tA v158))
 else none)) (z1,(tA v155))
 else none) fun v165 =>
 bif (lE v165) then
 bif (rO ((tA v165)++(List.map (fun (x166:UInt8)=>(((UInt8.toNat x166):Nat):Int)) x156)) 1) then
 bindO (some ((tA v165)++(List.map (fun (x168:UInt8)=>(((UInt8.toNat x168):Nat):Int)) x156))) fun x167 =>
 bif (lE x167) then
 some (Sum.inl ((wI (v154+z1)),(tA x167)))
 else none
 else none
 else none
 else none
 else
 outO (bif (lE v155) then
 some (Sum.inl (tA v155))
 else none)) (z0,(tA v153))
 else none) fun v170 =>
 bif (decide ((lI v170) > (4096:Int))) then
 some (([]:List Int),(4:Int))
 else
 bif (lE v170) then
 some ((tA v170),z0)
 else none
 else none
 else none
 else none
 else none
 else none
 else none
noncomputable def cons22:List (Nat×CE):=(3,⟨[(.tmp 0 true [dI,dI,dI,dI]),(.tmp 1 true [dS,dS,dI,dO,(.dat (.list (.pair .str (.pair uI6 uI6)))),dI,dS,dI,(.dat (.list .str))])],[(.tmp 0 false [dO])],dialtonelaw22_RegistrarForms⟩)::cons3
theorem cons22_ok:ConL Try.prog cons22:=⟨con3,cons3_ok⟩
theorem con22:ConOk Try.prog 22 ⟨[(.tmp 0 false [dI]),(.tmp 1 true [dS,dS,dI,dO,(.dat (.list (.pair .str (.pair uI6 uI6)))),dI,dS,dI,(.dat (.list .str))])],[(.tmp 0 false [dY]),(.tmp 1 false [dE])],registrar_EncodeAct⟩ :=
 tree_ok (plan:=planOf plan22) (eg:=egNo) KK tabL_ok (conOf_ok cons22_ok) Try.func22 (by kernel_rfl) (by kernel_rfl) 10000 (fun a r h=>Eq.trans (show _=registrar_EncodeAct a from by kernel_rfl) h)
def plan60:List (Nat×PL):=[]
noncomputable def registrar_signed:Int→Option Int:=fun a1 =>
 bif (decide (a1=(4294967295:Int))) then
 some (-1:Int)
 else
 some (wI a1)
noncomputable def cons60:List (Nat×CE):=(22,⟨[(.tmp 0 false [dI]),(.tmp 1 true [dS,dS,dI,dO,(.dat (.list (.pair .str (.pair uI6 uI6)))),dI,dS,dI,(.dat (.list .str))])],[(.tmp 0 false [dY]),(.tmp 1 false [dE])],registrar_EncodeAct⟩)::cons22
theorem cons60_ok:ConL Try.prog cons60:=⟨con22,cons22_ok⟩
theorem con60:ConOk Try.prog 60 ⟨[(.tmp 0 false [(.dat (.int .u64))])],[(.tmp 0 false [dI])],registrar_signed⟩ :=
 tree_ok (plan:=planOf plan60) (eg:=egNo) KK tabL_ok (conOf_ok cons60_ok) Try.func60 (by kernel_rfl) (by kernel_rfl) 10000 (fun a r h=>Eq.trans (show _=registrar_signed a from by kernel_rfl) h)
def plan24:List (Nat×PL):=[(4731607904558235516945,(.carry [.tmp 0 false [(.dat (.int .u64))],.mix 4 [dY],.mix 6 [dE]])),(635065662736647214773263663617,(.carry [.tmp 4 false [(.dat (.int .u64))],.mix 4 [dY],.mix 6 [dE]])),(325153619321163373997929284239378,(.carry [.tmp 0 false [(.dat (.int .u64))],.mix 4 [dY],.mix 6 [dE]])),(166478653092435647469522429834952722,(.carry [.tmp 0 false [dY],.mix 4 [dY],.mix 6 [dE]])),(43641380036263450374816345235275523555841,(.carry [.tmp 4 false [(.dat (.int .u64))],.mix 4 [dY],.mix 6 [dE]])),(11440325928226245935055856005356066847022120978,(.carry [.tmp 0 false [dY],.mix 4 [dY],.mix 6 [dE]])),(85237070383327051504395484075496048646,(.carry [.tmp 11 false [dI],.tmp 4 false [(.dat (.int .u64))]])),(325153619321163373997929284239380,(.carry [.tmp 0 false [dY],.mix 4 [dY],.mix 6 [dE]])),(5857446875251837918748598274742306225675326195718,(.carry [.tmp 11 false [dI],.tmp 4 false [(.dat (.int .u64))]])),(325153619321163373997929552674834,(.carry [.tmp 0 false [(.dat (.int .u64))],.mix 4 [dY],.mix 6 [dE]])),(43641380036263450374816381264072542519809,(.carry [.tmp 4 false [(.dat (.int .u64))],.mix 4 [dY],.mix 6 [dE]])),(11440325928226245935055865450089032586312548370,(.carry [.tmp 0 false [dY],.mix 4 [dY],.mix 6 [dE]])),(325153619321163373997929552674836,(.carry [.tmp 0 false [dY],.mix 4 [dY],.mix 6 [dE]])),(5857446875251837918748603110445584684192025020422,(.carry [.tmp 11 false [dI],.tmp 4 false [(.dat (.int .u64))]])),(1240362622532514091484053521,(.carry [.tmp 0 false [(.dat (.int .u64))],.mix 4 [dY],.mix 6 [dE]])),(166478653092435647486973811819282945,(.carry [.tmp 4 false [(.dat (.int .u64))],.mix 4 [dY],.mix 6 [dE]])),(43641380036263450374825262925554108071954,(.carry [.tmp 0 false [dY],.mix 4 [dY],.mix 6 [dE]])),(635065662736647214839835656209,(.carry [.tmp 0 false [(.dat (.int .u64))],.mix 4 [dY],.mix 6 [dE]])),(22344386578566886591910534617883703333095430,(.carry [.tmp 11 false [dI],.tmp 4 false [(.dat (.int .u64))]])),(85237070383327051513330625669761335809,(.carry [.tmp 4 false [(.dat (.int .u64))],.mix 4 [dY],.mix 6 [dE]])),(22344386578566886591910543535573915614052370,(.carry [.tmp 0 false [dY],.mix 4 [dY],.mix 6 [dE]])),(166478653092435647486973878391275537,(.carry [.tmp 0 false [(.dat (.int .u64))],.mix 4 [dY],.mix 6 [dE]])),(11440325928226245935058198290213844794395068422,(.carry [.tmp 11 false [dI],.tmp 4 false [(.dat (.int .u64))]])),(22344386578566886591910543553025297598382593,(.carry [.tmp 4 false [(.dat (.int .u64))],.mix 4 [dY],.mix 6 [dE]])),(5857446875251837918749797529164263613630406197266,(.carry [.tmp 0 false [dY],.mix 4 [dY],.mix 6 [dE]])),(11440325928226245935058198299148986388660355090,(.carry [.tmp 0 false [(.dat (.int .u64))],.mix 4 [dY],.mix 6 [dE]])),(2999012800128941014399896334932102970178767973255174,(.carry [.tmp 11 false [dI],.tmp 4 false [(.dat (.int .u64))]])),(1535494553666017799372746923485241286588917823853298177,(.carry [.tmp 4 false [(.dat (.int .u64))],.mix 4 [dY],.mix 6 [dE]])),(402520684276224569998769369510115091831565274016198997049362,(.carry [.tmp 0 false [dY],.mix 4 [dY],.mix 6 [dE]])),(11440325928226245935058198299148986388660355092,(.carry [.tmp 0 false [dY],.mix 4 [dY],.mix 6 [dE]])),(206090590349426979839369917189178927017761420296293886489528326,(.carry [.tmp 11 false [dI],.tmp 4 false [(.dat (.int .u64))]])),(43641380036263450374825280377002664394769,(.carry [.tmp 0 false [(.dat (.int .u64))],.mix 4 [dY],.mix 6 [dE]])),(5857446875251837918749797529164281065012390527489,(.carry [.tmp 4 false [(.dat (.int .u64))],.mix 4 [dY],.mix 6 [dE]])),(1535494553666017799372746923485241295506608102437814290,(.carry [.tmp 0 false [dY],.mix 4 [dY],.mix 6 [dE]])),(43641380036263450374825280377002664395265,(.carry [.mix 24 [dS,dS,dI,dO,(.own 10000004 65 (.pair .str (.pair uI6 uI6))),dI,dS,dI,.nil],.mix 4 [dY],.mix 6 [dE]])),(786173211477001113278846424824443543299383348448161171462,(.carry [.tmp 11 false [dI],.tmp 4 false [(.dat (.int .u64))]])),(11440325928226245935058198299148986455232086033,(.carry [.tmp 0 false [(.dat (.int .u64))],.mix 4 [dY],.mix 6 [dE]])),(22344386578566886591910543553025364170375681,(.carry [.mix 24 [dS,dS,dI,dO,(.own 10000006 65 (.pair .str (.pair uI6 uI6))),dI,dS,dI,(.own 10000002 9 .str)],.mix 4 [dY],.mix 6 [dE],.dead 10000004])),(1535494553666017799372746923485241295524024300050055681,(.carry [.tmp 4 false [(.dat (.int .u64))],.mix 4 [dY],.mix 6 [dE]])),(5857446875251837918749797529164281065078828304390,(.carry [.tmp 47 false [(.dat (.int .u64))],.mix 24 [dS,dS,dI,dO,(.own 10000003 65 (.pair .str (.pair uI6 uI6))),dI,dS,dI,.nil],.mix 4 [dY],.mix 6 [dE]])),(5857446875251837918749797529164281065078962257937,(.carry [.tmp 0 false [(.dat (.int .u64))],.mix 4 [dY],.mix 6 [dE]])),(402520684276224569998769369510115094173849826112321796177938,(.carry [.tmp 0 false [dY],.mix 4 [dY],.mix 6 [dE]])),(786173211477001113278846424824443543308318454858054369793,(.carry [.tmp 4 false [(.dat (.int .u64))],.mix 4 [dY],.mix 6 [dE]])),(2999012800128941014399896334932111905320428676319238,(.carry [.tmp 69 false [(.dat (.int .u64))],.mix 24 [dS,dS,dI,dO,(.own 10000005 65 (.pair .str (.pair uI6 uI6))),dI,dS,dI,(.own 10000001 9 .str)],.mix 4 [dY],.mix 6 [dE],.dead 10000004])),(14162437529025953452002322041180027868550309617466840484466301507352133650,(.carry [.tmp 0 false [(.dat (.int .u64))],.mix 4 [dY],.mix 6 [dE]])),(206090590349426979839369917189178928217015833030309804714754066,(.carry [.tmp 0 false [dY],.mix 4 [dY],.mix 6 [dE]])),(206090590349426979839369917189178928217011110969508759643359238,(.carry [.tmp 11 false [dI],.tmp 4 false [(.dat (.int .u64))]])),(1900850188087797525361508715091505779493505210552948445163486280879778674455609857,(.carry [.tmp 4 false [(.dat (.int .u64))],.mix 4 [dY],.mix 6 [dE]])),(14162437529025953452002322041180027868550633498476566587794072858018447378,(.carry [.tmp 0 false [(.dat (.int .u64))],.mix 4 [dY],.mix 6 [dE]])),(498296471706087594488367340608947691059545429915192117208936947614948700836491390091282,(.carry [.tmp 0 false [dY],.mix 4 [dY],.mix 6 [dE]])),(105518382258906613677757397600859611247112106511518620013954336774,(.carry [.tmp 11 false [dI],.tmp 4 false [(.dat (.int .u64))]])),(1900850188087797525361508715091505779493548681126216228654432990869702589162979841,(.carry [.tmp 4 false [(.dat (.int .u64))],.mix 4 [dY],.mix 6 [dE]])),(14162437529025953452002322041180027868550309617466840484466301507352133652,(.carry [.tmp 0 false [dY],.mix 4 [dY],.mix 6 [dE]])),(498296471706087594488367340608947691059556825465150827044387681958547315533540187176978,(.carry [.tmp 0 false [dY],.mix 4 [dY],.mix 6 [dE]])),(255127793513516848378044078391781217822487260116578364010975717178853734828283591726991366,(.carry [.tmp 11 false [dI],.tmp 4 false [(.dat (.int .u64))]])),(14162437529025953452002322041180027868550633498476566587794072858018447380,(.carry [.tmp 0 false [dY],.mix 4 [dY],.mix 6 [dE]])),(54025411716560186203011787571640120958520163030497896135201650901009,(.carry [.tmp 0 false [(.dat (.int .u64))],.mix 4 [dY],.mix 6 [dE]])),(255127793513516848378044078391781217822493094638157223446726493162776225553172575834867718,(.carry [.tmp 11 false [dI],.tmp 4 false [(.dat (.int .u64))]])),(7251168014861288167425188885084174268697758524143022328046746405782581150209,(.carry [.tmp 4 false [(.dat (.int .u64))],.mix 4 [dY],.mix 6 [dE]])),(1900850188087797525361508715091505779493505210552948445163486289797468953040125970,(.carry [.tmp 0 false [dY],.mix 4 [dY],.mix 6 [dE]])),(27661010798878815335942035236679741930762323471614922821223245261570065,(.carry [.tmp 0 false [(.dat (.int .u64))],.mix 4 [dY],.mix 6 [dE]])),(973235296300952332985092462126850959100674667803109603923704980376304103956544751622,(.carry [.tmp 11 false [dI],.tmp 4 false [(.dat (.int .u64))]])),(3712598023608979541721696709163097225573252364361227431959934159794699837374977,(.carry [.tmp 4 false [(.dat (.int .u64))],.mix 4 [dY],.mix 6 [dE]])),(973235296300952332985092462126850959100674667803109603923704980385221794168825708562,(.carry [.tmp 0 false [dY],.mix 4 [dY],.mix 6 [dE]])),(498296471706087594488367340608947691059545429915192117208936949957233558614438763038726,(.carry [.tmp 11 false [dI],.tmp 4 false [(.dat (.int .u64))]]))]
noncomputable def registrar_DecodeAct:LN→Option (Int×((LU×(LU×(Int×(Bool×((List (LU×(Int×Int)))×(Int×(LU×(Int×(List LU)))))))))×Int)):=fun a1 =>
 joinO (joinO (joinO (bif (decide ((lI a1)<(8:Int))) then
 some (Sum.inl (([]:List Int),(a1,(6:Int))))
 else
 bif ((decide ((z0≤(8:Int))∧((8:Int)≤(lI a1))))&&Bool.true) then
 bif (decide ((z0≤(8:Int))∧((8:Int)≤(lI a1)))) then
 some (Sum.inl ((List.take 8 a1),((List.drop 8 a1),z0)))
 else none
 else none) fun (v4,(v5,v6)) =>
 loopO (fun (v7,v8) =>
 bif (decide (v7<(lI v4))) then
 bif (iR v7 v4) then
 bindO v4[(Int.toNat v7)]? fun x9 =>
 some (Sum.inl ((wI (v7+z1)),(Go.IntKind.wrap .u64 (((BitVec.toNat ((BitVec.ofInt 64 (Go.IntKind.wrap .u64 (v8*(256:Int)))) ||| (BitVec.ofInt 64 (Go.IntKind.wrap .u64 x9)))):Nat):Int))))
 else none
 else
 outO (some (Sum.inl (v8,(v5,v6))))) (z0,z0)) fun (v14,(v15,v16)) =>
 some (Sum.inl (v14,(v15,v16)))) fun (v17,(v18,v19)) =>
 joinO (joinO (joinO (bif (decide (v19≠z0)) then
 some (Sum.inl (([]:List Int),(v18,(6:Int))))
 else
 bif (decide ((lI v18)<(2:Int))) then
 some (Sum.inl (([]:List Int),(v18,(6:Int))))
 else
 bif ((decide ((z0≤(2:Int))∧((2:Int)≤(lI v18))))&&Bool.true) then
 bif (decide ((z0≤(2:Int))∧((2:Int)≤(lI v18)))) then
 some (Sum.inl ((List.take 2 v18),((List.drop 2 v18),v19)))
 else none
 else none) fun (v22,(v23,v24)) =>
 loopO (fun (v25,v26) =>
 bif (decide (v25<(lI v22))) then
 bif (iR v25 v22) then
 bindO v22[(Int.toNat v25)]? fun x27 =>
 some (Sum.inl ((wI (v25+z1)),(Go.IntKind.wrap .u64 (((BitVec.toNat ((BitVec.ofInt 64 (Go.IntKind.wrap .u64 (v26*(256:Int)))) ||| (BitVec.ofInt 64 (Go.IntKind.wrap .u64 x27)))):Nat):Int))))
 else none
 else
 outO (some (Sum.inl (v26,(v23,v24))))) (z0,z0)) fun (v32,(v33,v34)) =>
 some (Sum.inl (v32,(v33,v34)))) fun (v35,(v36,v37)) =>
 joinO (bif (decide (v37≠z0)) then
 some (Sum.inl (([]:List Int),(v36,(6:Int))))
 else
 bif (decide ((lI v36)<(wI v35))) then
 some (Sum.inl (([]:List Int),(v36,(6:Int))))
 else
 bif ((decide ((z0≤(wI v35))∧((wI v35)≤(lI v36))))&&(decide ((z0≤(wI v35))∧((wI v35)≤(((Int.toNat (wI v35)):Nat):Int))))) then
 bif (decide ((z0≤(wI v35))∧((wI v35)≤(lI v36)))) then
 some (Sum.inl ((List.take (Int.toNat (wI v35)) v36),((List.drop (Int.toNat (wI v35)) v36),v37)))
 else none
 else none) fun (v41,(v42,v43)) =>
 joinO (joinO (joinO (bif (decide (v43≠z0)) then
 some (Sum.inl (([]:List Int),(v42,(6:Int))))
 else
 bif (decide ((lI v42)<(2:Int))) then
 some (Sum.inl (([]:List Int),(v42,(6:Int))))
 else
 bif ((decide ((z0≤(2:Int))∧((2:Int)≤(lI v42))))&&Bool.true) then
 bif (decide ((z0≤(2:Int))∧((2:Int)≤(lI v42)))) then
 some (Sum.inl ((List.take 2 v42),((List.drop 2 v42),v43)))
 else none
 else none) fun (v46,(v47,v48)) =>
 loopO (fun (v49,v50) =>
 bif (decide (v49<(lI v46))) then
 bif (iR v49 v46) then
 bindO v46[(Int.toNat v49)]? fun x51 =>
 some (Sum.inl ((wI (v49+z1)),(Go.IntKind.wrap .u64 (((BitVec.toNat ((BitVec.ofInt 64 (Go.IntKind.wrap .u64 (v50*(256:Int)))) ||| (BitVec.ofInt 64 (Go.IntKind.wrap .u64 x51)))):Nat):Int))))
 else none
 else
 outO (some (Sum.inl (v50,(v47,v48))))) (z0,z0)) fun (v56,(v57,v58)) =>
 some (Sum.inl (v56,(v57,v58)))) fun (v59,(v60,v61)) =>
 joinO (bif (decide (v61≠z0)) then
 some (Sum.inl (([]:List Int),(v60,(6:Int))))
 else
 bif (decide ((lI v60)<(wI v59))) then
 some (Sum.inl (([]:List Int),(v60,(6:Int))))
 else
 bif ((decide ((z0≤(wI v59))∧((wI v59)≤(lI v60))))&&(decide ((z0≤(wI v59))∧((wI v59)≤(((Int.toNat (wI v59)):Nat):Int))))) then
 bif (decide ((z0≤(wI v59))∧((wI v59)≤(lI v60)))) then
 some (Sum.inl ((List.take (Int.toNat (wI v59)) v60),((List.drop (Int.toNat (wI v59)) v60),v61)))
 else none
 else none) fun (v65,(v66,v67)) =>
 joinO (joinO (joinO (bif (decide (v67≠z0)) then
 some (Sum.inl (([]:List Int),(v66,(6:Int))))
 else
 bif (decide ((lI v66)<(4:Int))) then
 some (Sum.inl (([]:List Int),(v66,(6:Int))))
 else
 bif ((decide ((z0≤(4:Int))∧((4:Int)≤(lI v66))))&&Bool.true) then
 bif (decide ((z0≤(4:Int))∧((4:Int)≤(lI v66)))) then
 some (Sum.inl ((List.take 4 v66),((List.drop 4 v66),v67)))
 else none
 else none) fun (v70,(v71,v72)) =>
 loopO (fun (v73,v74) =>
 bif (decide (v73<(lI v70))) then
 bif (iR v73 v70) then
 bindO v70[(Int.toNat v73)]? fun x75 =>
 some (Sum.inl ((wI (v73+z1)),(Go.IntKind.wrap .u64 (((BitVec.toNat ((BitVec.ofInt 64 (Go.IntKind.wrap .u64 (v74*(256:Int)))) ||| (BitVec.ofInt 64 (Go.IntKind.wrap .u64 x75)))):Nat):Int))))
 else none
 else
 outO (some (Sum.inl (v74,(v71,v72))))) (z0,z0)) fun (v80,(v81,v82)) =>
 some (Sum.inl (v80,(v81,v82)))) fun (v83,(v84,v85)) =>
 bindO (registrar_signed v83) fun x86 =>
 joinO (joinO (joinO (bif (decide (v85≠z0)) then
 some (Sum.inl (([]:List Int),(v84,(6:Int))))
 else
 bif (decide ((lI v84)<z1)) then
 some (Sum.inl (([]:List Int),(v84,(6:Int))))
 else
 bif ((decide ((z0≤z1)∧(z1≤(lI v84))))&&Bool.true) then
 bif (decide ((z0≤z1)∧(z1≤(lI v84)))) then
 some (Sum.inl ((List.take 1 v84),((List.drop 1 v84),v85)))
 else none
 else none) fun (v89,(v90,v91)) =>
 loopO (fun (v92,v93) =>
 bif (decide (v92<(lI v89))) then
 bif (iR v92 v89) then
 bindO v89[(Int.toNat v92)]? fun x94 =>
 some (Sum.inl ((wI (v92+z1)),(Go.IntKind.wrap .u64 (((BitVec.toNat ((BitVec.ofInt 64 (Go.IntKind.wrap .u64 (v93*(256:Int)))) ||| (BitVec.ofInt 64 (Go.IntKind.wrap .u64 x94)))):Nat):Int))))
 else none
 else
 outO (some (Sum.inl (v93,(v90,v91))))) (z0,z0)) fun (v99,(v100,v101)) =>
 some (Sum.inl (v99,(v100,v101)))) fun (v102,(v103,v104)) =>
 joinO (joinO (joinO (bif (decide (v104≠z0)) then
 some (Sum.inl (([]:List Int),(v103,(6:Int))))
 else
 bif (decide ((lI v103)<(4:Int))) then
 some (Sum.inl (([]:List Int),(v103,(6:Int))))
 else
 bif ((decide ((z0≤(4:Int))∧((4:Int)≤(lI v103))))&&Bool.true) then
 bif (decide ((z0≤(4:Int))∧((4:Int)≤(lI v103)))) then
 some (Sum.inl ((List.take 4 v103),((List.drop 4 v103),v104)))
 else none
 else none) fun (v107,(v108,v109)) =>
 loopO (fun (v110,v111) =>
 bif (decide (v110<(lI v107))) then
 bif (iR v110 v107) then
 bindO v107[(Int.toNat v110)]? fun x112 =>
 some (Sum.inl ((wI (v110+z1)),(Go.IntKind.wrap .u64 (((BitVec.toNat ((BitVec.ofInt 64 (Go.IntKind.wrap .u64 (v111*(256:Int)))) ||| (BitVec.ofInt 64 (Go.IntKind.wrap .u64 x112)))):Nat):Int))))
 else none
 else
 outO (some (Sum.inl (v111,(v108,v109))))) (z0,z0)) fun (v117,(v118,v119)) =>
 some (Sum.inl (v117,(v118,v119)))) fun (v120,(v121,v122)) =>
 bindO (registrar_signed v120) fun x123 =>
 joinO (joinO (joinO (bif (decide (v122≠z0)) then
 some (Sum.inl (([]:List Int),(v121,(6:Int))))
 else
 bif (decide ((lI v121)<(2:Int))) then
 some (Sum.inl (([]:List Int),(v121,(6:Int))))
 else
 bif ((decide ((z0≤(2:Int))∧((2:Int)≤(lI v121))))&&Bool.true) then
 bif (decide ((z0≤(2:Int))∧((2:Int)≤(lI v121)))) then
 some (Sum.inl ((List.take 2 v121),((List.drop 2 v121),v122)))
 else none
 else none) fun (v126,(v127,v128)) =>
 loopO (fun (v129,v130) =>
 bif (decide (v129<(lI v126))) then
 bif (iR v129 v126) then
 bindO v126[(Int.toNat v129)]? fun x131 =>
 some (Sum.inl ((wI (v129+z1)),(Go.IntKind.wrap .u64 (((BitVec.toNat ((BitVec.ofInt 64 (Go.IntKind.wrap .u64 (v130*(256:Int)))) ||| (BitVec.ofInt 64 (Go.IntKind.wrap .u64 x131)))):Nat):Int))))
 else none
 else
 outO (some (Sum.inl (v130,(v127,v128))))) (z0,z0)) fun (v136,(v137,v138)) =>
 some (Sum.inl (v136,(v137,v138)))) fun (v139,(v140,v141)) =>
 joinO (bif (decide (v141≠z0)) then
 some (Sum.inl (([]:List Int),(v140,(6:Int))))
 else
 bif (decide ((lI v140)<(wI v139))) then
 some (Sum.inl (([]:List Int),(v140,(6:Int))))
 else
 bif ((decide ((z0≤(wI v139))∧((wI v139)≤(lI v140))))&&(decide ((z0≤(wI v139))∧((wI v139)≤(((Int.toNat (wI v139)):Nat):Int))))) then
 bif (decide ((z0≤(wI v139))∧((wI v139)≤(lI v140)))) then
 some (Sum.inl ((List.take (Int.toNat (wI v139)) v140),((List.drop (Int.toNat (wI v139)) v140),v141)))
 else none
 else none) fun (v145,(v146,v147)) =>
 joinO (joinO (joinO (bif (decide (v147≠z0)) then
 some (Sum.inl (([]:List Int),(v146,(6:Int))))
 else
 bif (decide ((lI v146)<(4:Int))) then
 some (Sum.inl (([]:List Int),(v146,(6:Int))))
 else
 bif ((decide ((z0≤(4:Int))∧((4:Int)≤(lI v146))))&&Bool.true) then
 bif (decide ((z0≤(4:Int))∧((4:Int)≤(lI v146)))) then
 some (Sum.inl ((List.take 4 v146),((List.drop 4 v146),v147)))
 else none
 else none) fun (v150,(v151,v152)) =>
 loopO (fun (v153,v154) =>
 bif (decide (v153<(lI v150))) then
 bif (iR v153 v150) then
 bindO v150[(Int.toNat v153)]? fun x155 =>
 some (Sum.inl ((wI (v153+z1)),(Go.IntKind.wrap .u64 (((BitVec.toNat ((BitVec.ofInt 64 (Go.IntKind.wrap .u64 (v154*(256:Int)))) ||| (BitVec.ofInt 64 (Go.IntKind.wrap .u64 x155)))):Nat):Int))))
 else none
 else
 outO (some (Sum.inl (v154,(v151,v152))))) (z0,z0)) fun (v160,(v161,v162)) =>
 some (Sum.inl (v160,(v161,v162)))) fun (v163,(v164,v165)) =>
 bindO (registrar_signed v163) fun x166 =>
 joinO (joinO (joinO (joinO (bif (decide (v165≠z0)) then
 some (Sum.inl (([]:List Int),(v164,(6:Int))))
 else
 bif (decide ((lI v164)<z1)) then
 some (Sum.inl (([]:List Int),(v164,(6:Int))))
 else
 bif ((decide ((z0≤z1)∧(z1≤(lI v164))))&&Bool.true) then
 bif (decide ((z0≤z1)∧(z1≤(lI v164)))) then
 some (Sum.inl ((List.take 1 v164),((List.drop 1 v164),v165)))
 else none
 else none) fun (v169,(v170,v171)) =>
 loopO (fun (v172,v173) =>
 bif (decide (v172<(lI v169))) then
 bif (iR v172 v169) then
 bindO v169[(Int.toNat v172)]? fun x174 =>
 some (Sum.inl ((wI (v172+z1)),(Go.IntKind.wrap .u64 (((BitVec.toNat ((BitVec.ofInt 64 (Go.IntKind.wrap .u64 (v173*(256:Int)))) ||| (BitVec.ofInt 64 (Go.IntKind.wrap .u64 x174)))):Nat):Int))))
 else none
 else
 outO (some (Sum.inl (v173,(v170,v171))))) (z0,z0)) fun (v179,(v180,v181)) =>
 some (Sum.inl (v179,(v180,v181)))) fun (v182,(v183,v184)) =>
 loopO (fun (v185,((v186,(v187,(v188,(v189,(v190,(v191,(v192,v193))))))),(v194,v195))) =>
 bif (decide (v185<v182)) then
 joinO (joinO (joinO (bif (decide (v195≠z0)) then
 some (Sum.inl (([]:List Int),(v194,(6:Int))))
 else
 bif (decide ((lI v194)<(2:Int))) then
 some (Sum.inl (([]:List Int),(v194,(6:Int))))
 else
 bif ((decide ((z0≤(2:Int))∧((2:Int)≤(lI v194))))&&Bool.true) then
 bif (decide ((z0≤(2:Int))∧((2:Int)≤(lI v194)))) then
 some (Sum.inl ((List.take 2 v194),((List.drop 2 v194),v195)))
 else none
 else none) fun (v198,(v199,v200)) =>
 loopO (fun (v201,v202) =>
 bif (decide (v201<(lI v198))) then
 bif (iR v201 v198) then
 bindO v198[(Int.toNat v201)]? fun x203 =>
 some (Sum.inl ((wI (v201+z1)),(Go.IntKind.wrap .u64 (((BitVec.toNat ((BitVec.ofInt 64 (Go.IntKind.wrap .u64 (v202*(256:Int)))) ||| (BitVec.ofInt 64 (Go.IntKind.wrap .u64 x203)))):Nat):Int))))
 else none
 else
 outO (some (Sum.inl (v202,(v199,v200))))) (z0,z0)) fun (v208,(v209,v210)) =>
 some (Sum.inl (v208,(v209,v210)))) fun (v211,(v212,v213)) =>
 joinO (bif (decide (v213≠z0)) then
 some (Sum.inl (([]:List Int),(v212,(6:Int))))
 else
 bif (decide ((lI v212)<(wI v211))) then
 some (Sum.inl (([]:List Int),(v212,(6:Int))))
 else
 bif ((decide ((z0≤(wI v211))∧((wI v211)≤(lI v212))))&&(decide ((z0≤(wI v211))∧((wI v211)≤(((Int.toNat (wI v211)):Nat):Int))))) then
 bif (decide ((z0≤(wI v211))∧((wI v211)≤(lI v212)))) then
 some (Sum.inl ((List.take (Int.toNat (wI v211)) v212),((List.drop (Int.toNat (wI v211)) v212),v213)))
 else none
 else none) fun (v217,(v218,v219)) =>
 joinO (joinO (joinO (bif (decide (v219≠z0)) then
 some (Sum.inl (([]:List Int),(v218,(6:Int))))
 else
 bif (decide ((lI v218)<(2:Int))) then
 some (Sum.inl (([]:List Int),(v218,(6:Int))))
 else
 bif ((decide ((z0≤(2:Int))∧((2:Int)≤(lI v218))))&&Bool.true) then
 bif (decide ((z0≤(2:Int))∧((2:Int)≤(lI v218)))) then
 some (Sum.inl ((List.take 2 v218),((List.drop 2 v218),v219)))
 else none
 else none) fun (v222,(v223,v224)) =>
 loopO (fun (v225,v226) =>
 bif (decide (v225<(lI v222))) then
 bif (iR v225 v222) then
 bindO v222[(Int.toNat v225)]? fun x227 =>
 some (Sum.inl ((wI (v225+z1)),(Go.IntKind.wrap .u64 (((BitVec.toNat ((BitVec.ofInt 64 (Go.IntKind.wrap .u64 (v226*(256:Int)))) ||| (BitVec.ofInt 64 (Go.IntKind.wrap .u64 x227)))):Nat):Int))))
 else none
 else
 outO (some (Sum.inl (v226,(v223,v224))))) (z0,z0)) fun (v232,(v233,v234)) =>
 some (Sum.inl (v232,(v233,v234)))) fun (v235,(v236,v237)) =>
 joinO (joinO (joinO (bif (decide (v237≠z0)) then
 some (Sum.inl (([]:List Int),(v236,(6:Int))))
 else
 bif (decide ((lI v236)<(4:Int))) then
 some (Sum.inl (([]:List Int),(v236,(6:Int))))
 else
 bif ((decide ((z0≤(4:Int))∧((4:Int)≤(lI v236))))&&Bool.true) then
 bif (decide ((z0≤(4:Int))∧((4:Int)≤(lI v236)))) then
 some (Sum.inl ((List.take 4 v236),((List.drop 4 v236),v237)))
 else none
 else none) fun (v241,(v242,v243)) =>
 loopO (fun (v244,v245) =>
 bif (decide (v244<(lI v241))) then
 bif (iR v244 v241) then
 bindO v241[(Int.toNat v244)]? fun x246 =>
 some (Sum.inl ((wI (v244+z1)),(Go.IntKind.wrap .u64 (((BitVec.toNat ((BitVec.ofInt 64 (Go.IntKind.wrap .u64 (v245*(256:Int)))) ||| (BitVec.ofInt 64 (Go.IntKind.wrap .u64 x246)))):Nat):Int))))
 else none
 else
 outO (some (Sum.inl (v245,(v242,v243))))) (z0,z0)) fun (v251,(v252,v253)) =>
 some (Sum.inl (v251,(v252,v253)))) fun (v254,(v255,v256)) =>
 bindO (registrar_signed v254) fun x257 =>
 bif (lE v190) then
 bif (rO ((tA v190)++(((bytesU v217),((wI v235),x257))::([]:List (LU×(Int×Int))))) 32) then
 bindO (some ((tA v190)++(((bytesU v217),((wI v235),x257))::([]:List (LU×(Int×Int)))))) fun x258 =>
 bif (lE x258) then
 some (Sum.inl ((Go.IntKind.wrap .u64 (v185+z1)),((v186,(v187,(v188,(v189,((tA x258),(v191,(v192,v193))))))),(v255,v256))))
 else none
 else none
 else none
 else
 outO (bif (lE v190) then
 some (Sum.inl ((v186,(v187,(v188,(v189,((tA v190),(v191,(v192,v193))))))),(v194,v195)))
 else none)) (z0,(((bytesU v41),((bytesU v65),(x86,((decide (v102=z1)),(([]:List (LU×(Int×Int))),(x123,((bytesU v145),x166))))))),(v183,v184)))) fun ((v260,(v261,(v262,(v263,(v264,(v265,(v266,v267))))))),(v268,v269)) =>
 joinO (joinO (joinO (joinO (bif (decide (v269≠z0)) then
 some (Sum.inl (([]:List Int),(v268,(6:Int))))
 else
 bif (decide ((lI v268)<z1)) then
 some (Sum.inl (([]:List Int),(v268,(6:Int))))
 else
 bif ((decide ((z0≤z1)∧(z1≤(lI v268))))&&Bool.true) then
 bif (decide ((z0≤z1)∧(z1≤(lI v268)))) then
 some (Sum.inl ((List.take 1 v268),((List.drop 1 v268),v269)))
 else none
 else none) fun (v272,(v273,v274)) =>
 loopO (fun (v275,v276) =>
 bif (decide (v275<(lI v272))) then
 bif (iR v275 v272) then
 bindO v272[(Int.toNat v275)]? fun x277 =>
 some (Sum.inl ((wI (v275+z1)),(Go.IntKind.wrap .u64 (((BitVec.toNat ((BitVec.ofInt 64 (Go.IntKind.wrap .u64 (v276*(256:Int)))) ||| (BitVec.ofInt 64 (Go.IntKind.wrap .u64 x277)))):Nat):Int))))
 else none
 else
 outO (some (Sum.inl (v276,(v273,v274))))) (z0,z0)) fun (v282,(v283,v284)) =>
 some (Sum.inl (v282,(v283,v284)))) fun (v285,(v286,v287)) =>
 bif (lE v264) then
 loopO (fun (v288,((v289,(v290,(v291,(v292,(v293,(v294,(v295,(v296,v297)))))))),(v298,v299))) =>
 bif (decide (v288<v285)) then
 joinO (joinO (joinO (bif (decide (v299≠z0)) then
 some (Sum.inl (([]:List Int),(v298,(6:Int))))
 else
 bif (decide ((lI v298)<(2:Int))) then
 some (Sum.inl (([]:List Int),(v298,(6:Int))))
 else
 bif ((decide ((z0≤(2:Int))∧((2:Int)≤(lI v298))))&&Bool.true) then
 bif (decide ((z0≤(2:Int))∧((2:Int)≤(lI v298)))) then
 some (Sum.inl ((List.take 2 v298),((List.drop 2 v298),v299)))
 else none
 else none) fun (v302,(v303,v304)) =>
 loopO (fun (v305,v306) =>
 bif (decide (v305<(lI v302))) then
 bif (iR v305 v302) then
 bindO v302[(Int.toNat v305)]? fun x307 =>
 some (Sum.inl ((wI (v305+z1)),(Go.IntKind.wrap .u64 (((BitVec.toNat ((BitVec.ofInt 64 (Go.IntKind.wrap .u64 (v306*(256:Int)))) ||| (BitVec.ofInt 64 (Go.IntKind.wrap .u64 x307)))):Nat):Int))))
 else none
 else
 outO (some (Sum.inl (v306,(v303,v304))))) (z0,z0)) fun (v312,(v313,v314)) =>
 some (Sum.inl (v312,(v313,v314)))) fun (v315,(v316,v317)) =>
 joinO (bif (decide (v317≠z0)) then
 some (Sum.inl (([]:List Int),(v316,(6:Int))))
 else
 bif (decide ((lI v316)<(wI v315))) then
 some (Sum.inl (([]:List Int),(v316,(6:Int))))
 else
 bif ((decide ((z0≤(wI v315))∧((wI v315)≤(lI v316))))&&(decide ((z0≤(wI v315))∧((wI v315)≤(((Int.toNat (wI v315)):Nat):Int))))) then
 bif (decide ((z0≤(wI v315))∧((wI v315)≤(lI v316)))) then
 some (Sum.inl ((List.take (Int.toNat (wI v315)) v316),((List.drop (Int.toNat (wI v315)) v316),v317)))
 else none
 else none) fun (v321,(v322,v323)) =>
 bif (lE v297) then
 bif (rO ((tA v297)++((bytesU v321)::([]:List LU))) 16) then
 bindO (some ((tA v297)++((bytesU v321)::([]:List LU)))) fun x324 =>
 bif ((lE v293)&&(lE x324)) then
 some (Sum.inl ((Go.IntKind.wrap .u64 (v288+z1)),((v289,(v290,(v291,(v292,((tA v293),(v294,(v295,(v296,(tA x324))))))))),(v322,v323))))
 else none
 else none
 else none
 else
 outO (bif ((lE v293)&&(lE v297)) then
 some (Sum.inl ((v289,(v290,(v291,(v292,((tA v293),(v294,(v295,(v296,(tA v297))))))))),(v298,v299)))
 else none)) (z0,((v260,(v261,(v262,(v263,((tA v264),(v265,(v266,(v267,([]:List LU))))))))),(v286,v287)))
 else none) fun ((v326,(v327,(v328,(v329,(v330,(v331,(v332,(v333,v334)))))))),(v335,v336)) =>
 bif (decide (v336≠z0)) then
 some (z0,((([]:List UInt8),(([]:List UInt8),(z0,(Bool.false,(([]:List (LU×(Int×Int))),(z0,(([]:List UInt8),(z0,([]:List LU))))))))),v336))
 else
 bif (decide ((lI v335) > z0)) then
 some (z0,((([]:List UInt8),(([]:List UInt8),(z0,(Bool.false,(([]:List (LU×(Int×Int))),(z0,(([]:List UInt8),(z0,([]:List LU))))))))),(5:Int)))
 else
 bif (decide (v102 > z1)) then
 some (z0,((([]:List UInt8),(([]:List UInt8),(z0,(Bool.false,(([]:List (LU×(Int×Int))),(z0,(([]:List UInt8),(z0,([]:List LU))))))))),(5:Int)))
 else
 bif (decide (v17 > (1099511627776:Int))) then
 some (z0,((([]:List UInt8),(([]:List UInt8),(z0,(Bool.false,(([]:List (LU×(Int×Int))),(z0,(([]:List UInt8),(z0,([]:List LU))))))))),(5:Int)))
 else
 bif ((lE v330)&&(lE v334)) then
 bindO (registrar_Formed (v326,(v327,(v328,(v329,((tA v330),(v331,(v332,(v333,(tA v334)))))))))) fun x337 =>
 bif (!x337) then
 some (z0,((([]:List UInt8),(([]:List UInt8),(z0,(Bool.false,(([]:List (LU×(Int×Int))),(z0,(([]:List UInt8),(z0,([]:List LU))))))))),(5:Int)))
 else
 bif ((lE v330)&&(lE v334)) then
 some ((wI v17),((v326,(v327,(v328,(v329,((tA v330),(v331,(v332,(v333,(tA v334))))))))),z0))
 else none
 else none
noncomputable def cons24:List (Nat×CE):=(60,⟨[(.tmp 0 false [(.dat (.int .u64))])],[(.tmp 0 false [dI])],registrar_signed⟩)::cons60
theorem cons24_ok:ConL Try.prog cons24:=⟨con60,cons60_ok⟩
theorem con24:ConOk Try.prog 24 ⟨[(.tmp 0 false [dY])],[(.tmp 0 false [dI]),(.tmp 1 true [dS,dS,dI,dO,(.dat (.list (.pair .str (.pair uI6 uI6)))),dI,dS,dI,(.dat (.list .str))]),(.tmp 2 false [dE])],registrar_DecodeAct⟩ :=
 tree_ok (plan:=planOf plan24) (eg:=egNo) KK tabL_ok (conOf_ok cons24_ok) Try.func24 (by kernel_rfl) (by kernel_rfl) 10000 (fun a r h=>Eq.trans (show _=registrar_DecodeAct a from by kernel_rfl) h)
def plan23:List (Nat×PL):=[(68853956625,(.carry [.tmp 0 false [(.own 10000004 5 uI8)]])),(18049651605504513,(.carry [.tmp 0 false [dI]])),(4731607904491931959314,(.carry [.tmp 0 false [(.own 10000006 5 uI8)]])),(4731607870473375056385,(.carry [.tmp 0 false [dI],.tmp 5 false [(.own 10000002 5 uI8)]])),(1240362622515133011542409729,(.carry [.tmp 0 false [dI]])),(635065658161854684559732639750,(.carry [.tmp 6 false [dI],.tmp 0 false [dI],.tmp 5 false [(.own 10000001 5 uI8)]])),(325153619316607028177773455999489,(.carry [.tmp 0 false [dI],.tmp 5 false [(.own 10000005 5 uI8)]])),(43641380035651907990852733362959248787462,(.carry [.tmp 6 false [dI],.tmp 0 false [dI],.tmp 5 false [(.own 10000003 5 uI8)]])),(2422583247133750281371666,(.carry [.tmp 0 false [(.own 10000009 5 uI8)]])),(635065662736629833759894012417,(.carry [.tmp 0 false [dI]])),(166478653092431091141153655991042561,(.carry [.tmp 0 false [dI],.tmp 5 false [(.own 10000008 5 uI8)]])),(22344386578566275049526571006011320754767878,(.carry [.tmp 6 false [dI],.tmp 0 false [dI],.tmp 5 false [(.own 10000007 5 uI8)]])),(9241421688590303251,(.carry [.tmp 0 false [(.own 10000013 5 uI8)]])),(2422583247133816455430657,(.carry [.tmp 0 false [dI]])),(635065662736647180892414149121,(.carry [.tmp 0 false [dI],.tmp 5 false [(.own 10000011 5 uI8)]])),(85237070383327046956984839529939863558,(.carry [.tmp 6 false [dI],.tmp 0 false [dI],.tmp 5 false [(.own 10000010 5 uI8)]])),(9241421688590303745,(.carry [.tmp 6 false [(.own 10000012 5 uI8)],.dead 44])),(2422583247133816584929299,(.carry [.tmp 0 false [(.own 10000016 5 uI8)]])),(635065662736647214839706157569,(.carry [.tmp 0 false [dI]])),(166478653092435647486939930969768449,(.carry [.tmp 0 false [dI],.tmp 5 false [(.own 10000015 5 uI8)]])),(22344386578566886591905987207239157776910342,(.carry [.tmp 6 false [dI],.tmp 0 false [dI],.tmp 5 false [(.own 10000014 5 uI8)]])),(166478653092435647486973812087717906,(.carry [.tmp 0 false [(.own 10000019 5 uI8)]])),(43641380036263450374825262995922722750977,(.carry [.tmp 0 false [dI]])),(11440325928226245935058193742803166232832115201,(.carry [.tmp 0 false [dI],.tmp 5 false [(.own 10000018 5 uI8)]])),(1535494553666017799372746311942857322977045507578529798,(.carry [.tmp 6 false [dI],.tmp 0 false [dI],.tmp 5 false [(.own 10000017 5 uI8)]])),(635065662736647214839835656211,(.carry [.tmp 0 false [(.own 10000022 5 uI8)]])),(166478653092435647486973878261776897,(.carry [.tmp 0 false [dI]])),(43641380036263450374825280343055242887681,(.carry [.tmp 0 false [dI],.tmp 5 false [(.own 10000021 5 uI8)]])),(5857446875251837918749797524607935278872569055238,(.carry [.tmp 6 false [dI],.tmp 0 false [dI],.tmp 5 false [(.own 10000020 5 uI8)]])),(325153619321163373997995856232961,(.carry [.tmp 6 false [(.own 10000037 5 uI8)],.dead 77])),(43641380036263450374825280377002530179078,(.carry [.tmp 7 false [dI],.tmp 6 false [(.own 10000035 5 uI8)],.dead 77])),(85237070383327051513330625736333328897,(.carry [.tmp 6 false [(.own 10000029 5 uI8)],.dead 85])),(206090590349426979839369917189178294398992894888625753888653330,(.carry [.tmp 0 false [(.own 10000027 5 uI8)]])),(11440325928226245935058198299148986455098132486,(.carry [.tmp 8 false [dI],.tmp 6 false [(.own 10000026 5 uI8)],.dead 85])),(54025411716560186203011787571639954806929593437683909627387138540033,(.carry [.tmp 0 false [dI]])),(105518382258906613677757397600859611245874185416751138087352139794,(.carry [.tmp 0 false [(.own 10000030 5 uI8)]])),(14162437529025953452002322041179984312907751342128210805361774045438411265,(.carry [.tmp 0 false [dI],.tmp 5 false [(.own 10000024 5 uI8)]])),(27661010798878815335942035236679741930438442461888810342770839334158849,(.carry [.tmp 0 false [dI]])),(1900850188087797525361508715091499933554119458729399139000707530428112323783952390,(.carry [.tmp 6 false [dI],.tmp 0 false [dI],.tmp 5 false [(.own 10000023 5 uI8)]])),(7251168014861288167425188885084174268612855060729380298495318906413737312769,(.carry [.tmp 0 false [dI],.tmp 5 false [(.own 10000028 5 uI8)]])),(786173211477001113278846424824441125484439448885443952663,(.carry [.tmp 0 false [(.own 10000033 5 uI8)]])),(973235296300952332985092462126850959089279117844399446512003522254296450108546615302,(.carry [.tmp 6 false [dI],.tmp 0 false [dI],.tmp 5 false [(.own 10000025 5 uI8)]])),(206090590349426979839369917189178294398992894888625819526889985,(.carry [.tmp 0 false [dI]])),(54025411716560186203011787571639954806929593437683926834057048228353,(.carry [.tmp 0 false [dI],.tmp 5 false [(.own 10000032 5 uI8)]])),(7251168014861288167425188885084151968208768687169646241785370035595830888454,(.carry [.tmp 6 false [dI],.tmp 0 false [dI],.tmp 5 false [(.own 10000031 5 uI8)]])),(786173211477001113278846424824441125484439448885443953175,(.carry [.tmp 0 false [(.own 10000038 5 uI8)]])),(206090590349426979839369917189178294398992894888625819661107713,(.carry [.tmp 0 false [dI]])),(54025411716560186203011787571639954806929593437683926869241420317185,(.carry [.tmp 0 false [dI],.tmp 5 false [(.own 10000036 5 uI8)]])),(7251168014861288167425188885084151968208768687169646246507736518465476102150,(.carry [.tmp 6 false [dI],.tmp 0 false [dI],.tmp 5 false [(.own 10000034 5 uI8)]]))]
noncomputable def dialtoneref22_EncodeAct:(Int×(LU×(LU×(Int×(Bool×((List (LU×(Int×Int)))×(Int×(LU×(Int×(List LU))))))))))→Option (LN×Int):=fun (a1,(a2,(a3,(a4,(a5,(a6,(a7,(a8,(a9,a10))))))))) =>
 bindO (dialtoneref22_Formed (a2,(a3,(a4,(a5,(a6,(a7,(a8,(a9,a10))))))))) fun x11 =>
 bif (!x11) then
 some (([]:List Int),(2:Int))
 else
 bindO (dialtoneref22_within (a1,(z0,(1099511627776:Int)))) fun x12 =>
 bif (!x12) then
 some (([]:List Int),(2:Int))
 else
 joinO (joinO (bif (decide (a1<z0)) then
 some (Sum.inl (wI (a1+(4294967296:Int))))
 else
 some (Sum.inl a1)) fun v14 =>
 joinO (loopO (fun (v15,(v16,v17)) =>
 bif (decide (v15<(8:Int))) then
 bindO (some (Int.tmod v16 (256:Int))) fun x18 =>
 bif ((lE v17)&&(decide ((1=0)∨((List.length (tA v17))≠0)))) then
 bif (rO (((Go.IntKind.wrap .u8 x18)::([]:List Int))++(tA v17)) 1) then
 bindO (some (((Go.IntKind.wrap .u8 x18)::([]:List Int))++(tA v17))) fun x20 =>
 bif (lE x20) then
 some (Sum.inl ((wI (v15+z1)),((wI (Int.tdiv v16 (256:Int))),(tA x20))))
 else none
 else none
 else none
 else
 outO (bif (lE v17) then
 some (Sum.inl (v16,(tA v17)))
 else none)) (z0,(v14,([]:List Int)))) fun (v23,v24) =>
 bif (lE v24) then
 some (Sum.inl (tA v24))
 else none) fun v25 =>
 joinO (joinO (bif (decide ((lI a2)<z0)) then
 some (Sum.inl (wI ((lI a2)+(4294967296:Int))))
 else
 some (Sum.inl (lI a2))) fun v27 =>
 joinO (loopO (fun (v28,(v29,v30)) =>
 bif (decide (v28<(2:Int))) then
 bindO (some (Int.tmod v29 (256:Int))) fun x31 =>
 bif ((lE v30)&&(decide ((1=0)∨((List.length (tA v30))≠0)))) then
 bif (rO (((Go.IntKind.wrap .u8 x31)::([]:List Int))++(tA v30)) 1) then
 bindO (some (((Go.IntKind.wrap .u8 x31)::([]:List Int))++(tA v30))) fun x33 =>
 bif (lE x33) then
 some (Sum.inl ((wI (v28+z1)),((wI (Int.tdiv v29 (256:Int))),(tA x33))))
 else none
 else none
 else none
 else
 outO (bif (lE v30) then
 some (Sum.inl (v29,(tA v30)))
 else none)) (z0,(v27,([]:List Int)))) fun (v36,v37) =>
 bif (lE v37) then
 some (Sum.inl (tA v37))
 else none) fun v38 =>
 bif (lE v38) then
 bif (rO ((tA v38)++(List.map (fun (x39:UInt8)=>(((UInt8.toNat x39):Nat):Int)) a2)) 1) then
 bindO (some ((tA v38)++(List.map (fun (x41:UInt8)=>(((UInt8.toNat x41):Nat):Int)) a2))) fun x40 =>
 bif ((lE x40)&&(lE v25)) then
 bif (rO ((tA v25)++(tA x40)) 1) then
 bindO (some ((tA v25)++(tA x40))) fun x42 =>
 joinO (joinO (bif (decide ((lI a3)<z0)) then
 some (Sum.inl (wI ((lI a3)+(4294967296:Int))))
 else
 some (Sum.inl (lI a3))) fun v44 =>
 joinO (loopO (fun (v45,(v46,v47)) =>
 bif (decide (v45<(2:Int))) then
 bindO (some (Int.tmod v46 (256:Int))) fun x48 =>
 bif ((lE v47)&&(decide ((1=0)∨((List.length (tA v47))≠0)))) then
 bif (rO (((Go.IntKind.wrap .u8 x48)::([]:List Int))++(tA v47)) 1) then
 bindO (some (((Go.IntKind.wrap .u8 x48)::([]:List Int))++(tA v47))) fun x50 =>
 bif (lE x50) then
 some (Sum.inl ((wI (v45+z1)),((wI (Int.tdiv v46 (256:Int))),(tA x50))))
 else none
 else none
 else none
 else
 outO (bif (lE v47) then
 some (Sum.inl (v46,(tA v47)))
 else none)) (z0,(v44,([]:List Int)))) fun (v53,v54) =>
 bif (lE v54) then
 some (Sum.inl (tA v54))
 else none) fun v55 =>
 bif (lE v55) then
 bif (rO ((tA v55)++(List.map (fun (x56:UInt8)=>(((UInt8.toNat x56):Nat):Int)) a3)) 1) then
 bindO (some ((tA v55)++(List.map (fun (x58:UInt8)=>(((UInt8.toNat x58):Nat):Int)) a3))) fun x57 =>
 bif ((lE x57)&&(lE x42)) then
 bif (rO ((tA x42)++(tA x57)) 1) then
 bindO (some ((tA x42)++(tA x57))) fun x59 =>
 joinO (joinO (bif (decide (a4<z0)) then
 some (Sum.inl (wI (a4+(4294967296:Int))))
 else
 some (Sum.inl a4)) fun v61 =>
 joinO (loopO (fun (v62,(v63,v64)) =>
 bif (decide (v62<(4:Int))) then
 bindO (some (Int.tmod v63 (256:Int))) fun x65 =>
 bif ((lE v64)&&(decide ((1=0)∨((List.length (tA v64))≠0)))) then
 bif (rO (((Go.IntKind.wrap .u8 x65)::([]:List Int))++(tA v64)) 1) then
 bindO (some (((Go.IntKind.wrap .u8 x65)::([]:List Int))++(tA v64))) fun x67 =>
 bif (lE x67) then
 some (Sum.inl ((wI (v62+z1)),((wI (Int.tdiv v63 (256:Int))),(tA x67))))
 else none
 else none
 else none
 else
 outO (bif (lE v64) then
 some (Sum.inl (v63,(tA v64)))
 else none)) (z0,(v61,([]:List Int)))) fun (v70,v71) =>
 bif (lE v71) then
 some (Sum.inl (tA v71))
 else none) fun v72 =>
 bif ((lE v72)&&(lE x59)) then
 bif (rO ((tA x59)++(tA v72)) 1) then
 bindO (some ((tA x59)++(tA v72))) fun x73 =>
 joinO (bif a5 then
 bif (lE x73) then
 bif (rO ((tA x73)++(z1::([]:List Int))) 1) then
 bindO (some ((tA x73)++(z1::([]:List Int)))) fun x74 =>
 bif (lE x74) then
 some (Sum.inl (tA x74))
 else none
 else none
 else none
 else
 bif (lE x73) then
 bif (rO ((tA x73)++(z0::([]:List Int))) 1) then
 bindO (some ((tA x73)++(z0::([]:List Int)))) fun x75 =>
 bif (lE x75) then
 some (Sum.inl (tA x75))
 else none
 else none
 else none) fun v76 =>
 joinO (joinO (bif (decide (a7<z0)) then
 some (Sum.inl (wI (a7+(4294967296:Int))))
 else
 some (Sum.inl a7)) fun v78 =>
 joinO (loopO (fun (v79,(v80,v81)) =>
 bif (decide (v79<(4:Int))) then
 bindO (some (Int.tmod v80 (256:Int))) fun x82 =>
 bif ((lE v81)&&(decide ((1=0)∨((List.length (tA v81))≠0)))) then
 bif (rO (((Go.IntKind.wrap .u8 x82)::([]:List Int))++(tA v81)) 1) then
 bindO (some (((Go.IntKind.wrap .u8 x82)::([]:List Int))++(tA v81))) fun x84 =>
 bif (lE x84) then
 some (Sum.inl ((wI (v79+z1)),((wI (Int.tdiv v80 (256:Int))),(tA x84))))
 else none
 else none
 else none
 else
 outO (bif (lE v81) then
 some (Sum.inl (v80,(tA v81)))
 else none)) (z0,(v78,([]:List Int)))) fun (v87,v88) =>
 bif (lE v88) then
 some (Sum.inl (tA v88))
 else none) fun v89 =>
 bif ((lE v89)&&(lE v76)) then
 bif (rO ((tA v76)++(tA v89)) 1) then
 bindO (some ((tA v76)++(tA v89))) fun x90 =>
 joinO (joinO (bif (decide ((lI a8)<z0)) then
 some (Sum.inl (wI ((lI a8)+(4294967296:Int))))
 else
 some (Sum.inl (lI a8))) fun v92 =>
 joinO (loopO (fun (v93,(v94,v95)) =>
 bif (decide (v93<(2:Int))) then
 bindO (some (Int.tmod v94 (256:Int))) fun x96 =>
 bif ((lE v95)&&(decide ((1=0)∨((List.length (tA v95))≠0)))) then
 bif (rO (((Go.IntKind.wrap .u8 x96)::([]:List Int))++(tA v95)) 1) then
 bindO (some (((Go.IntKind.wrap .u8 x96)::([]:List Int))++(tA v95))) fun x98 =>
 bif (lE x98) then
 some (Sum.inl ((wI (v93+z1)),((wI (Int.tdiv v94 (256:Int))),(tA x98))))
 else none
 else none
 else none
 else
 outO (bif (lE v95) then
 some (Sum.inl (v94,(tA v95)))
 else none)) (z0,(v92,([]:List Int)))) fun (v101,v102) =>
 bif (lE v102) then
 some (Sum.inl (tA v102))
 else none) fun v103 =>
 bif (lE v103) then
 bif (rO ((tA v103)++(List.map (fun (x104:UInt8)=>(((UInt8.toNat x104):Nat):Int)) a8)) 1) then
 bindO (some ((tA v103)++(List.map (fun (x106:UInt8)=>(((UInt8.toNat x106):Nat):Int)) a8))) fun x105 =>
 bif ((lE x105)&&(lE x90)) then
 bif (rO ((tA x90)++(tA x105)) 1) then
 bindO (some ((tA x90)++(tA x105))) fun x107 =>
 joinO (joinO (bif (decide (a9<z0)) then
 some (Sum.inl (wI (a9+(4294967296:Int))))
 else
 some (Sum.inl a9)) fun v109 =>
 joinO (loopO (fun (v110,(v111,v112)) =>
 bif (decide (v110<(4:Int))) then
 bindO (some (Int.tmod v111 (256:Int))) fun x113 =>
 bif ((lE v112)&&(decide ((1=0)∨((List.length (tA v112))≠0)))) then
 bif (rO (((Go.IntKind.wrap .u8 x113)::([]:List Int))++(tA v112)) 1) then
 bindO (some (((Go.IntKind.wrap .u8 x113)::([]:List Int))++(tA v112))) fun x115 =>
 bif (lE x115) then
 some (Sum.inl ((wI (v110+z1)),((wI (Int.tdiv v111 (256:Int))),(tA x115))))
 else none
 else none
 else none
 else
 outO (bif (lE v112) then
 some (Sum.inl (v111,(tA v112)))
 else none)) (z0,(v109,([]:List Int)))) fun (v118,v119) =>
 bif (lE v119) then
 some (Sum.inl (tA v119))
 else none) fun v120 =>
 bif ((lE v120)&&(lE x107)) then
 bif (rO ((tA x107)++(tA v120)) 1) then
 bindO (some ((tA x107)++(tA v120))) fun x121 =>
 bindO (some (Go.IntKind.wrap .u8 (lI a6))) fun x122 =>
 bif (lE x121) then
 bif (rO ((tA x121)++(x122::([]:List Int))) 1) then
 bindO (some ((tA x121)++(x122::([]:List Int)))) fun x123 =>
 joinO (bif (lE x123) then
 loopO (fun (v124,v125) =>
 bif (decide (v124<(lI a6))) then
 bif (iR v124 a6) then
 bindO a6[(Int.toNat v124)]? fun x126 =>
 joinO (joinO (bif (decide ((lI x126.1)<z0)) then
 some (Sum.inl (wI ((lI x126.1)+(4294967296:Int))))
 else
 some (Sum.inl (lI x126.1))) fun v128 =>
 joinO (loopO (fun (v129,(v130,v131)) =>
 bif (decide (v129<(2:Int))) then
 bindO (some (Int.tmod v130 (256:Int))) fun x132 =>
 bif ((lE v131)&&(decide ((1=0)∨((List.length (tA v131))≠0)))) then
 bif (rO (((Go.IntKind.wrap .u8 x132)::([]:List Int))++(tA v131)) 1) then
 bindO (some (((Go.IntKind.wrap .u8 x132)::([]:List Int))++(tA v131))) fun x134 =>
 bif (lE x134) then
 some (Sum.inl ((wI (v129+z1)),((wI (Int.tdiv v130 (256:Int))),(tA x134))))
 else none
 else none
 else none
 else
 outO (bif (lE v131) then
 some (Sum.inl (v130,(tA v131)))
 else none)) (z0,(v128,([]:List Int)))) fun (v137,v138) =>
 bif (lE v138) then
 some (Sum.inl (tA v138))
 else none) fun v139 =>
 bif (lE v139) then
 bif (rO ((tA v139)++(List.map (fun (x140:UInt8)=>(((UInt8.toNat x140):Nat):Int)) x126.1)) 1) then
 bindO (some ((tA v139)++(List.map (fun (x142:UInt8)=>(((UInt8.toNat x142):Nat):Int)) x126.1))) fun x141 =>
 bif ((lE x141)&&(lE v125)) then
 bif (rO ((tA v125)++(tA x141)) 1) then
 bindO (some ((tA v125)++(tA x141))) fun x143 =>
 bif (iR v124 a6) then
 bindO a6[(Int.toNat v124)]? fun x144 =>
 joinO (joinO (bif (decide (x144.2.1<z0)) then
 some (Sum.inl (wI (x144.2.1+(4294967296:Int))))
 else
 some (Sum.inl x144.2.1)) fun v146 =>
 joinO (loopO (fun (v147,(v148,v149)) =>
 bif (decide (v147<(2:Int))) then
 bindO (some (Int.tmod v148 (256:Int))) fun x150 =>
 bif ((lE v149)&&(decide ((1=0)∨((List.length (tA v149))≠0)))) then
 bif (rO (((Go.IntKind.wrap .u8 x150)::([]:List Int))++(tA v149)) 1) then
 bindO (some (((Go.IntKind.wrap .u8 x150)::([]:List Int))++(tA v149))) fun x152 =>
 bif (lE x152) then
 some (Sum.inl ((wI (v147+z1)),((wI (Int.tdiv v148 (256:Int))),(tA x152))))
 else none
 else none
 else none
 else
 outO (bif (lE v149) then
 some (Sum.inl (v148,(tA v149)))
 else none)) (z0,(v146,([]:List Int)))) fun (v155,v156) =>
 bif (lE v156) then
 some (Sum.inl (tA v156))
 else none) fun v157 =>
 bif ((lE v157)&&(lE x143)) then
 bif (rO ((tA x143)++(tA v157)) 1) then
 bindO (some ((tA x143)++(tA v157))) fun x158 =>
 bif (iR v124 a6) then
 bindO a6[(Int.toNat v124)]? fun x159 =>
 joinO (joinO (bif (decide (x159.2.2<z0)) then
 some (Sum.inl (wI (x159.2.2+(4294967296:Int))))
 else
 some (Sum.inl x159.2.2)) fun v161 =>
 joinO (loopO (fun (v162,(v163,v164)) =>
 bif (decide (v162<(4:Int))) then
 bindO (some (Int.tmod v163 (256:Int))) fun x165 =>
 bif ((lE v164)&&(decide ((1=0)∨((List.length (tA v164))≠0)))) then
 bif (rO (((Go.IntKind.wrap .u8 x165)::([]:List Int))++(tA v164)) 1) then
 bindO (some (((Go.IntKind.wrap .u8 x165)::([]:List Int))++(tA v164))) fun x167 =>
 bif (lE x167) then
 some (Sum.inl ((wI (v162+z1)),((wI (Int.tdiv v163 (256:Int))),(tA x167))))
 else none
 else none
 else none
 else
 outO (bif (lE v164) then
 some (Sum.inl (v163,(tA v164)))
 else none)) (z0,(v161,([]:List Int)))) fun (v170,v171) =>
 bif (lE v171) then
 some (Sum.inl (tA v171))
 else none) fun v172 =>
 bif ((lE v172)&&(lE x158)) then
 bif (rO ((tA x158)++(tA v172)) 1) then
 bindO (some ((tA x158)++(tA v172))) fun x173 =>
 bif (lE x173) then
 some (Sum.inl ((wI (v124+z1)),(tA x173)))
 else none
 else none
 else none
 else none
 else none
 else none
 else none
 else none
 else none
 else none
 else none
 else none
 else
 outO (bif (lE v125) then
 some (Sum.inl (tA v125))
 else none)) (z0,(tA x123))
 else none) fun v175 =>
 bindO (some (Go.IntKind.wrap .u8 (lI a10))) fun x176 =>
 bif (lE v175) then
 bif (rO ((tA v175)++(x176::([]:List Int))) 1) then
 bindO (some ((tA v175)++(x176::([]:List Int)))) fun x177 =>
 joinO (bif (lE x177) then
 loopO (fun (v178,v179) =>
 bif (decide (v178<(lI a10))) then
 bif (iR v178 a10) then
 bindO a10[(Int.toNat v178)]? fun x180 =>
 joinO (joinO (bif (decide ((lI x180)<z0)) then
 some (Sum.inl (wI ((lI x180)+(4294967296:Int))))
 else
 some (Sum.inl (lI x180))) fun v182 =>
 joinO (loopO (fun (v183,(v184,v185)) =>
 bif (decide (v183<(2:Int))) then
 bindO (some (Int.tmod v184 (256:Int))) fun x186 =>
 bif ((lE v185)&&(decide ((1=0)∨((List.length (tA v185))≠0)))) then
 bif (rO (((Go.IntKind.wrap .u8 x186)::([]:List Int))++(tA v185)) 1) then
 bindO (some (((Go.IntKind.wrap .u8 x186)::([]:List Int))++(tA v185))) fun x188 =>
 bif (lE x188) then
 some (Sum.inl ((wI (v183+z1)),((wI (Int.tdiv v184 (256:Int))),(tA x188))))
 else none
 else none
 else none
 else
 outO (bif (lE v185) then
 some (Sum.inl (v184,(tA v185)))
 else none)) (z0,(v182,([]:List Int)))) fun (v191,v192) =>
 bif (lE v192) then
 some (Sum.inl (tA v192))
 else none) fun v193 =>
 bif (lE v193) then
 bif (rO ((tA v193)++(List.map (fun (x194:UInt8)=>(((UInt8.toNat x194):Nat):Int)) x180)) 1) then
 bindO (some ((tA v193)++(List.map (fun (x196:UInt8)=>(((UInt8.toNat x196):Nat):Int)) x180))) fun x195 =>
 bif ((lE x195)&&(lE v179)) then
 bif (rO ((tA v179)++(tA x195)) 1) then
 bindO (some ((tA v179)++(tA x195))) fun x197 =>
 bif (lE x197) then
 some (Sum.inl ((wI (v178+z1)),(tA x197)))
 else none
 else none
 else none
 else none
 else none
 else none
 else
 outO (bif (lE v179) then
 some (Sum.inl (tA v179))
 else none)) (z0,(tA x177))
 else none) fun v199 =>
 bif (decide ((lI v199) > (4096:Int))) then
 some (([]:List Int),(4:Int))
 else
 bif (lE v199) then
 some ((tA v199),z0)
 else none
 else none
 else none
 else none
 else none
 else none
 else none
 else none
 else none
 else none
 else none
 else none
 else none
 else none
 else none
 else none
 else none
 else none
 else none
 else none
 else none
 else none
 else none
noncomputable def cons23:List (Nat×CE):=(24,⟨[(.tmp 0 false [dY])],[(.tmp 0 false [dI]),(.tmp 1 true [dS,dS,dI,dO,(.dat (.list (.pair .str (.pair uI6 uI6)))),dI,dS,dI,(.dat (.list .str))]),(.tmp 2 false [dE])],registrar_DecodeAct⟩)::cons24
theorem cons23_ok:ConL Try.prog cons23:=⟨con24,cons24_ok⟩
theorem con23:ConOk Try.prog 23 ⟨[(.tmp 0 false [dI]),(.tmp 1 true [dS,dS,dI,dO,(.dat (.list (.pair .str (.pair uI6 uI6)))),dI,dS,dI,(.dat (.list .str))])],[(.tmp 0 false [dY]),(.tmp 1 false [dE])],dialtoneref22_EncodeAct⟩ :=
 tree_ok (plan:=planOf plan23) (eg:=egNo) KK tabL_ok (conOf_ok cons23_ok) Try.func23 (by kernel_rfl) (by kernel_rfl) 10000 (fun a r h=>Eq.trans (show _=dialtoneref22_EncodeAct a from by kernel_rfl) h)
def plan25:List (Nat×PL):=[(18049651735527937,(.carry [.tmp 8 false [dI],.mix 5 [dY,dO]])),(2422583247133816450712593,(.carry [.tmp 0 false [dY],.mix 5 [dY,dO]])),(2422583247133816450713105,(.carry [.tmp 0 false [dI],.mix 5 [dY,dO]])),(635065662736647214773263663122,(.carry [.tmp 0 false [dI],.mix 5 [dY,dO]])),(325153619321163355983736933187602,(.carry [.tmp 0 false [dY],.mix 5 [dY,dO]])),(85237070383327051504395484009192488978,(.carry [.tmp 0 false [dY],.mix 5 [dY,dO]])),(635065662736647214773263663123,(.carry [.tmp 0 false [dY],.mix 5 [dY,dO]])),(166478653092435638263673309792305665,(.carry [.tmp 6 false [dI]])),(43641380036263450370250487812706554610177,(.carry [.tmp 6 false [dI]])),(22344386578566885353980096574563418103875590,(.carry [.tmp 7 false [dI],.tmp 6 false [dI]])),(5857446875251837918135779265113163290485748664326,(.carry [.tmp 7 false [dI],.tmp 6 false [dI]])),(325153619321163373997929284239378,(.carry [.tmp 0 false [dI],.mix 5 [dY,dO]])),(43641380036263450374816345235275523555346,(.carry [.tmp 0 false [dY],.mix 5 [dY,dO]])),(325153619321163373997929284239379,(.carry [.tmp 0 false [dY],.mix 5 [dY,dO]])),(22344386578566886591905968760461068060590593,(.carry [.tmp 6 false [dI]])),(2999012800128941014399282316668060787545835596679174,(.carry [.tmp 7 false [dI],.tmp 6 false [dI]])),(1240362622532514091484053521,(.carry [.tmp 0 false [dI],.mix 5 [dY,dO]])),(166478653092435647486973811819282450,(.carry [.tmp 0 false [dY],.mix 5 [dY,dO]])),(85237070383327051513330591651472867841,(.carry [.tmp 6 false [dI]])),(11440325928226245935058193724356456175129331718,(.carry [.tmp 7 false [dI],.tmp 6 false [dI]])),(635065662736647214839835656209,(.carry [.tmp 0 false [dI],.mix 5 [dY,dO]])),(85237070383327051513330625669761335314,(.carry [.tmp 0 false [dY],.mix 5 [dY,dO]])),(43641380036263450374825280342917803934209,(.carry [.tmp 6 false [dI]])),(5857446875251837918749797524589488534798859503622,(.carry [.tmp 7 false [dI],.tmp 6 false [dI]])),(166478653092435647486973878391275537,(.carry [.tmp 0 false [dI],.mix 5 [dY,dO]])),(22344386578566886591910543553025297598382098,(.carry [.tmp 0 false [dY],.mix 5 [dY,dO]])),(11440325928226245935058198299148952370371887617,(.carry [.tmp 6 false [dI]])),(1535494553666017799372746923485236720731529270891120646,(.carry [.tmp 7 false [dI],.tmp 6 false [dI]])),(11440325928226245935058198299148986388660355090,(.carry [.tmp 0 false [dI],.mix 5 [dY,dO]])),(1535494553666017799372746923485241286588917823853297682,(.carry [.tmp 0 false [dY],.mix 5 [dY,dO]])),(11440325928226245935058198299148986388660355091,(.carry [.tmp 0 false [dY],.mix 5 [dY,dO]])),(786173211477001113278846424824443538733525925812888666625,(.carry [.tmp 6 false [dI]])),(105518382258906613677757397600859610633093847191702469951222974470,(.carry [.tmp 7 false [dI],.tmp 6 false [dI]])),(43641380036263450374825280377002664394769,(.carry [.tmp 0 false [dI],.mix 5 [dY,dO]])),(5857446875251837918749797529164281065012390526994,(.carry [.tmp 0 false [dY],.mix 5 [dY,dO]])),(2999012800128941014399896334932111905286343950074369,(.carry [.tmp 6 false [dI]])),(402520684276224569998769369510115094169284274405527104260102,(.carry [.tmp 7 false [dI],.tmp 6 false [dI]])),(22344386578566886591910543553025364170375185,(.carry [.tmp 0 false [dI],.mix 5 [dY,dO]])),(2999012800128941014399896334932111905320362238541842,(.carry [.tmp 0 false [dY],.mix 5 [dY,dO]])),(22344386578566886591910543553025364170375681,(.carry [.mix 7 [dS,dS,dI,dO,(.own 10000004 65 (.pair .str (.pair uI6 uI6))),dI,dS,dI,.nil],.mix 5 [dY,dO]])),(1535494553666017799372746923485241295524025466133676545,(.carry [.tmp 6 false [dI]])),(2999012800128941014399896334932111905320428676319238,(.carry [.tmp 11 false [dI],.mix 7 [dS,dS,dI,dO,(.own 10000003 65 (.pair .str (.pair uI6 uI6))),dI,dS,dI,.nil],.mix 5 [dY,dO]])),(5857446875251837918749797529164281065078962520081,(.carry [.tmp 0 false [dI],.mix 5 [dY,dO]])),(206090590349426979839369917189178928217011267478603010022836230,(.carry [.tmp 7 false [dI],.tmp 6 false [dI]])),(786173211477001113278846424824443543308318490042426458130,(.carry [.tmp 0 false [dY],.mix 5 [dY,dO]])),(5857446875251837918749797529164281065078962520577,(.carry [.mix 7 [dS,dS,dI,dO,(.own 10000006 65 (.pair .str (.pair uI6 uI6))),dI,dS,dI,(.own 10000002 9 .str)],.mix 5 [dY,dO],.dead 10000004])),(14162437529025953452002322041180027868550633498476566587776198921850978322,(.carry [.tmp 0 false [dI],.mix 5 [dY,dO]])),(402520684276224569998769369510115094173859066901722346816001,(.carry [.tmp 6 false [dI]])),(786173211477001113278846424824443543308318490108864235526,(.carry [.tmp 15 false [dI],.mix 7 [dS,dS,dI,dO,(.own 10000005 65 (.pair .str (.pair uI6 uI6))),dI,dS,dI,(.own 10000001 9 .str)],.mix 5 [dY,dO],.dead 10000004])),(1900850188087797525361508715091505779493548681126216228652033991766887864956354578,(.carry [.tmp 0 false [dY],.mix 5 [dY,dO]])),(14162437529025953452002322041180027868550633498476566587776198921850978323,(.carry [.tmp 0 false [dY],.mix 5 [dY,dO]])),(54025411716560186203011787571640120958521400951749172676471554312198,(.carry [.tmp 7 false [dI],.tmp 6 false [dI]])),(973235296300952332985092462126850959100696924736622709069841403784646586857653797377,(.carry [.tmp 6 false [dI]])),(3712598023608979541721696709163097225573337433975599061081696563452636570058770,(.carry [.tmp 0 false [dI],.mix 5 [dY,dO]])),(130625430278920626369558568136591983525116464454736498404559106536305866170988952094379345926,(.carry [.tmp 7 false [dI],.tmp 6 false [dI]])),(54025411716560186203011787571640120958521398538500086165528102830097,(.carry [.tmp 0 false [dI],.mix 5 [dY,dO]])),(498296471706087594488367340608947691059556847765554913417318535132020716043000936136722,(.carry [.tmp 0 false [dY],.mix 5 [dY,dO]])),(3712598023608979541721696709163097225573337433975599061081696563452636570058771,(.carry [.tmp 0 false [dY],.mix 5 [dY,dO]])),(7251168014861288167425188885084174268697924351220002092941413882005989621778,(.carry [.tmp 0 false [dY],.mix 5 [dY,dO]])),(27661010798878815335942035236679741930762956051712044116750388649263121,(.carry [.tmp 0 false [dI],.mix 5 [dY,dO]])),(255127793513516848378044078391781217822493106055964115669667089987594606614016479302255105,(.carry [.tmp 6 false [dI]])),(3712598023608979541721696709163097225573337267824641071586003907587066686603777,(.carry [.tmp 6 false [dI]])),(3712598023608979541721696709163097225573337267824641071586003907621084975071250,(.carry [.tmp 0 false [dY],.mix 5 [dY,dO]])),(34242672795037368679021561285598768929208131990494544454711915334506496284787064806507705335547910,(.carry [.tmp 7 false [dI],.tmp 6 false [dI]])),(498296471706087594488367340608947691059556825465150827043758801075458052860446851205126,(.carry [.tmp 7 false [dI],.tmp 6 false [dI]])),(1900850188087797525361508715091505779493548681126216228652034000701995507236733441,(.carry [.tmp 6 false [dI]])),(255127793513516848378044078391781217822493094638157223446404506152972242047521920458688518,(.carry [.tmp 7 false [dI],.tmp 6 false [dI]]))]
noncomputable def dialtoneref22_DecodeAct:LN→Option (Int×((LU×(LU×(Int×(Bool×((List (LU×(Int×Int)))×(Int×(LU×(Int×(List LU)))))))))×Int)):=fun a1 =>
 bif (decide ((lI a1)≥(8:Int))) then
 bif (decide ((z0≤z0)∧(z0<(lI a1)))) then
 bindO a1[0]? fun x2 =>
 joinO (bif (decide (x2≥(128:Int))) then
 joinO (bif (decide ((8:Int) > (lI a1))) then
 some (Sum.inl (([]:List Int),(a1,Bool.true)))
 else
 bif (decide ((z0≤(8:Int))∧((8:Int)≤(lI a1)))) then
 bif (decide ((z0≤(8:Int))∧((8:Int)≤(lI a1)))) then
 some (Sum.inl ((List.take 8 a1),((List.drop 8 a1),Bool.false)))
 else none
 else none) fun (v5,(v6,v7)) =>
 some (Sum.inl (z0,(v6,v7)))
 else
 joinO (joinO (bif (decide ((8:Int) > (lI a1))) then
 some (Sum.inl (([]:List Int),(a1,Bool.true)))
 else
 bif (decide ((z0≤(8:Int))∧((8:Int)≤(lI a1)))) then
 bif (decide ((z0≤(8:Int))∧((8:Int)≤(lI a1)))) then
 some (Sum.inl ((List.take 8 a1),((List.drop 8 a1),Bool.false)))
 else none
 else none) fun (v10,(v11,v12)) =>
 joinO (loopO (fun (v13,v14) =>
 bif (decide (v13<(lI v10))) then
 bif (iR v13 v10) then
 bindO v10[(Int.toNat v13)]? fun x16 =>
 some (Sum.inl ((wI (v13+z1)),(wI ((wI ((256:Int)*v14))+(wI x16)))))
 else none
 else
 outO (some (Sum.inl v14))) (z0,z0)) fun v20 =>
 some (Sum.inl (v20,(v11,v12)))) fun (v21,(v22,v23)) =>
 some (Sum.inl (v21,(v22,v23)))) fun (v24,(v25,v26)) =>
 joinO (joinO (bif v26 then
 some (Sum.inl (([]:List Int),(v25,Bool.true)))
 else
 bif (decide ((2:Int) > (lI v25))) then
 some (Sum.inl (([]:List Int),(v25,Bool.true)))
 else
 bif (decide ((z0≤(2:Int))∧((2:Int)≤(lI v25)))) then
 bif (decide ((z0≤(2:Int))∧((2:Int)≤(lI v25)))) then
 some (Sum.inl ((List.take 2 v25),((List.drop 2 v25),v26)))
 else none
 else none) fun (v29,(v30,v31)) =>
 joinO (loopO (fun (v32,v33) =>
 bif (decide (v32<(lI v29))) then
 bif (iR v32 v29) then
 bindO v29[(Int.toNat v32)]? fun x35 =>
 some (Sum.inl ((wI (v32+z1)),(wI ((wI ((256:Int)*v33))+(wI x35)))))
 else none
 else
 outO (some (Sum.inl v33))) (z0,z0)) fun v39 =>
 some (Sum.inl (v39,(v30,v31)))) fun (v40,(v41,v42)) =>
 joinO (bif v42 then
 some (Sum.inl (([]:List Int),(v41,Bool.true)))
 else
 bif (decide (v40 > (lI v41))) then
 some (Sum.inl (([]:List Int),(v41,Bool.true)))
 else
 bif (decide ((z0≤v40)∧(v40≤(lI v41)))) then
 bif (decide ((z0≤v40)∧(v40≤(lI v41)))) then
 some (Sum.inl ((List.take (Int.toNat v40) v41),((List.drop (Int.toNat v40) v41),v42)))
 else none
 else none) fun (v45,(v46,v47)) =>
 joinO (joinO (bif v47 then
 some (Sum.inl (([]:List Int),(v46,Bool.true)))
 else
 bif (decide ((2:Int) > (lI v46))) then
 some (Sum.inl (([]:List Int),(v46,Bool.true)))
 else
 bif (decide ((z0≤(2:Int))∧((2:Int)≤(lI v46)))) then
 bif (decide ((z0≤(2:Int))∧((2:Int)≤(lI v46)))) then
 some (Sum.inl ((List.take 2 v46),((List.drop 2 v46),v47)))
 else none
 else none) fun (v50,(v51,v52)) =>
 joinO (loopO (fun (v53,v54) =>
 bif (decide (v53<(lI v50))) then
 bif (iR v53 v50) then
 bindO v50[(Int.toNat v53)]? fun x56 =>
 some (Sum.inl ((wI (v53+z1)),(wI ((wI ((256:Int)*v54))+(wI x56)))))
 else none
 else
 outO (some (Sum.inl v54))) (z0,z0)) fun v60 =>
 some (Sum.inl (v60,(v51,v52)))) fun (v61,(v62,v63)) =>
 joinO (bif v63 then
 some (Sum.inl (([]:List Int),(v62,Bool.true)))
 else
 bif (decide (v61 > (lI v62))) then
 some (Sum.inl (([]:List Int),(v62,Bool.true)))
 else
 bif (decide ((z0≤v61)∧(v61≤(lI v62)))) then
 bif (decide ((z0≤v61)∧(v61≤(lI v62)))) then
 some (Sum.inl ((List.take (Int.toNat v61) v62),((List.drop (Int.toNat v61) v62),v63)))
 else none
 else none) fun (v66,(v67,v68)) =>
 joinO (joinO (bif v68 then
 some (Sum.inl (([]:List Int),(v67,Bool.true)))
 else
 bif (decide ((4:Int) > (lI v67))) then
 some (Sum.inl (([]:List Int),(v67,Bool.true)))
 else
 bif (decide ((z0≤(4:Int))∧((4:Int)≤(lI v67)))) then
 bif (decide ((z0≤(4:Int))∧((4:Int)≤(lI v67)))) then
 some (Sum.inl ((List.take 4 v67),((List.drop 4 v67),v68)))
 else none
 else none) fun (v71,(v72,v73)) =>
 joinO (loopO (fun (v74,v75) =>
 bif (decide (v74<(lI v71))) then
 bif (iR v74 v71) then
 bindO v71[(Int.toNat v74)]? fun x77 =>
 some (Sum.inl ((wI (v74+z1)),(wI ((wI ((256:Int)*v75))+(wI x77)))))
 else none
 else
 outO (some (Sum.inl v75))) (z0,z0)) fun v81 =>
 bif (decide (v81 > (2147483647:Int))) then
 some (Sum.inl ((wI (v81-(4294967296:Int))),(v72,v73)))
 else
 some (Sum.inl (v81,(v72,v73)))) fun (v83,(v84,v85)) =>
 joinO (joinO (bif v85 then
 some (Sum.inl (([]:List Int),(v84,Bool.true)))
 else
 bif (decide (z1 > (lI v84))) then
 some (Sum.inl (([]:List Int),(v84,Bool.true)))
 else
 bif (decide ((z0≤z1)∧(z1≤(lI v84)))) then
 bif (decide ((z0≤z1)∧(z1≤(lI v84)))) then
 some (Sum.inl ((List.take 1 v84),((List.drop 1 v84),v85)))
 else none
 else none) fun (v88,(v89,v90)) =>
 joinO (loopO (fun (v91,v92) =>
 bif (decide (v91<(lI v88))) then
 bif (iR v91 v88) then
 bindO v88[(Int.toNat v91)]? fun x94 =>
 some (Sum.inl ((wI (v91+z1)),(wI ((wI ((256:Int)*v92))+(wI x94)))))
 else none
 else
 outO (some (Sum.inl v92))) (z0,z0)) fun v98 =>
 some (Sum.inl (v98,(v89,v90)))) fun (v99,(v100,v101)) =>
 joinO (joinO (bif v101 then
 some (Sum.inl (([]:List Int),(v100,Bool.true)))
 else
 bif (decide ((4:Int) > (lI v100))) then
 some (Sum.inl (([]:List Int),(v100,Bool.true)))
 else
 bif (decide ((z0≤(4:Int))∧((4:Int)≤(lI v100)))) then
 bif (decide ((z0≤(4:Int))∧((4:Int)≤(lI v100)))) then
 some (Sum.inl ((List.take 4 v100),((List.drop 4 v100),v101)))
 else none
 else none) fun (v104,(v105,v106)) =>
 joinO (loopO (fun (v107,v108) =>
 bif (decide (v107<(lI v104))) then
 bif (iR v107 v104) then
 bindO v104[(Int.toNat v107)]? fun x110 =>
 some (Sum.inl ((wI (v107+z1)),(wI ((wI ((256:Int)*v108))+(wI x110)))))
 else none
 else
 outO (some (Sum.inl v108))) (z0,z0)) fun v114 =>
 bif (decide (v114 > (2147483647:Int))) then
 some (Sum.inl ((wI (v114-(4294967296:Int))),(v105,v106)))
 else
 some (Sum.inl (v114,(v105,v106)))) fun (v116,(v117,v118)) =>
 joinO (joinO (bif v118 then
 some (Sum.inl (([]:List Int),(v117,Bool.true)))
 else
 bif (decide ((2:Int) > (lI v117))) then
 some (Sum.inl (([]:List Int),(v117,Bool.true)))
 else
 bif (decide ((z0≤(2:Int))∧((2:Int)≤(lI v117)))) then
 bif (decide ((z0≤(2:Int))∧((2:Int)≤(lI v117)))) then
 some (Sum.inl ((List.take 2 v117),((List.drop 2 v117),v118)))
 else none
 else none) fun (v121,(v122,v123)) =>
 joinO (loopO (fun (v124,v125) =>
 bif (decide (v124<(lI v121))) then
 bif (iR v124 v121) then
 bindO v121[(Int.toNat v124)]? fun x127 =>
 some (Sum.inl ((wI (v124+z1)),(wI ((wI ((256:Int)*v125))+(wI x127)))))
 else none
 else
 outO (some (Sum.inl v125))) (z0,z0)) fun v131 =>
 some (Sum.inl (v131,(v122,v123)))) fun (v132,(v133,v134)) =>
 joinO (bif v134 then
 some (Sum.inl (([]:List Int),(v133,Bool.true)))
 else
 bif (decide (v132 > (lI v133))) then
 some (Sum.inl (([]:List Int),(v133,Bool.true)))
 else
 bif (decide ((z0≤v132)∧(v132≤(lI v133)))) then
 bif (decide ((z0≤v132)∧(v132≤(lI v133)))) then
 some (Sum.inl ((List.take (Int.toNat v132) v133),((List.drop (Int.toNat v132) v133),v134)))
 else none
 else none) fun (v137,(v138,v139)) =>
 joinO (joinO (bif v139 then
 some (Sum.inl (([]:List Int),(v138,Bool.true)))
 else
 bif (decide ((4:Int) > (lI v138))) then
 some (Sum.inl (([]:List Int),(v138,Bool.true)))
 else
 bif (decide ((z0≤(4:Int))∧((4:Int)≤(lI v138)))) then
 bif (decide ((z0≤(4:Int))∧((4:Int)≤(lI v138)))) then
 some (Sum.inl ((List.take 4 v138),((List.drop 4 v138),v139)))
 else none
 else none) fun (v142,(v143,v144)) =>
 joinO (loopO (fun (v145,v146) =>
 bif (decide (v145<(lI v142))) then
 bif (iR v145 v142) then
 bindO v142[(Int.toNat v145)]? fun x148 =>
 some (Sum.inl ((wI (v145+z1)),(wI ((wI ((256:Int)*v146))+(wI x148)))))
 else none
 else
 outO (some (Sum.inl v146))) (z0,z0)) fun v152 =>
 bif (decide (v152 > (2147483647:Int))) then
 some (Sum.inl ((wI (v152-(4294967296:Int))),(v143,v144)))
 else
 some (Sum.inl (v152,(v143,v144)))) fun (v154,(v155,v156)) =>
 joinO (joinO (bif v156 then
 some (Sum.inl (([]:List Int),(v155,Bool.true)))
 else
 bif (decide (z1 > (lI v155))) then
 some (Sum.inl (([]:List Int),(v155,Bool.true)))
 else
 bif (decide ((z0≤z1)∧(z1≤(lI v155)))) then
 bif (decide ((z0≤z1)∧(z1≤(lI v155)))) then
 some (Sum.inl ((List.take 1 v155),((List.drop 1 v155),v156)))
 else none
 else none) fun (v159,(v160,v161)) =>
 joinO (loopO (fun (v162,v163) =>
 bif (decide (v162<(lI v159))) then
 bif (iR v162 v159) then
 bindO v159[(Int.toNat v162)]? fun x165 =>
 some (Sum.inl ((wI (v162+z1)),(wI ((wI ((256:Int)*v163))+(wI x165)))))
 else none
 else
 outO (some (Sum.inl v163))) (z0,z0)) fun v169 =>
 some (Sum.inl (v169,(v160,v161)))) fun (v170,(v171,v172)) =>
 joinO (loopO (fun (v173,((v174,(v175,(v176,(v177,(v178,(v179,(v180,v181))))))),(v182,v183))) =>
 bif (decide (v173<v170)) then
 bif (!v183) then
 joinO (joinO (bif v183 then
 some (Sum.inl (([]:List Int),(v182,Bool.true)))
 else
 bif (decide ((2:Int) > (lI v182))) then
 some (Sum.inl (([]:List Int),(v182,Bool.true)))
 else
 bif (decide ((z0≤(2:Int))∧((2:Int)≤(lI v182)))) then
 bif (decide ((z0≤(2:Int))∧((2:Int)≤(lI v182)))) then
 some (Sum.inl ((List.take 2 v182),((List.drop 2 v182),v183)))
 else none
 else none) fun (v186,(v187,v188)) =>
 joinO (loopO (fun (v189,v190) =>
 bif (decide (v189<(lI v186))) then
 bif (iR v189 v186) then
 bindO v186[(Int.toNat v189)]? fun x192 =>
 some (Sum.inl ((wI (v189+z1)),(wI ((wI ((256:Int)*v190))+(wI x192)))))
 else none
 else
 outO (some (Sum.inl v190))) (z0,z0)) fun v196 =>
 some (Sum.inl (v196,(v187,v188)))) fun (v197,(v198,v199)) =>
 joinO (bif v199 then
 some (Sum.inl (([]:List Int),(v198,Bool.true)))
 else
 bif (decide (v197 > (lI v198))) then
 some (Sum.inl (([]:List Int),(v198,Bool.true)))
 else
 bif (decide ((z0≤v197)∧(v197≤(lI v198)))) then
 bif (decide ((z0≤v197)∧(v197≤(lI v198)))) then
 some (Sum.inl ((List.take (Int.toNat v197) v198),((List.drop (Int.toNat v197) v198),v199)))
 else none
 else none) fun (v202,(v203,v204)) =>
 joinO (joinO (bif v204 then
 some (Sum.inl (([]:List Int),(v203,Bool.true)))
 else
 bif (decide ((2:Int) > (lI v203))) then
 some (Sum.inl (([]:List Int),(v203,Bool.true)))
 else
 bif (decide ((z0≤(2:Int))∧((2:Int)≤(lI v203)))) then
 bif (decide ((z0≤(2:Int))∧((2:Int)≤(lI v203)))) then
 some (Sum.inl ((List.take 2 v203),((List.drop 2 v203),v204)))
 else none
 else none) fun (v207,(v208,v209)) =>
 joinO (loopO (fun (v210,v211) =>
 bif (decide (v210<(lI v207))) then
 bif (iR v210 v207) then
 bindO v207[(Int.toNat v210)]? fun x213 =>
 some (Sum.inl ((wI (v210+z1)),(wI ((wI ((256:Int)*v211))+(wI x213)))))
 else none
 else
 outO (some (Sum.inl v211))) (z0,z0)) fun v217 =>
 some (Sum.inl (v217,(v208,v209)))) fun (v218,(v219,v220)) =>
 joinO (joinO (bif v220 then
 some (Sum.inl (([]:List Int),(v219,Bool.true)))
 else
 bif (decide ((4:Int) > (lI v219))) then
 some (Sum.inl (([]:List Int),(v219,Bool.true)))
 else
 bif (decide ((z0≤(4:Int))∧((4:Int)≤(lI v219)))) then
 bif (decide ((z0≤(4:Int))∧((4:Int)≤(lI v219)))) then
 some (Sum.inl ((List.take 4 v219),((List.drop 4 v219),v220)))
 else none
 else none) fun (v223,(v224,v225)) =>
 joinO (loopO (fun (v226,v227) =>
 bif (decide (v226<(lI v223))) then
 bif (iR v226 v223) then
 bindO v223[(Int.toNat v226)]? fun x229 =>
 some (Sum.inl ((wI (v226+z1)),(wI ((wI ((256:Int)*v227))+(wI x229)))))
 else none
 else
 outO (some (Sum.inl v227))) (z0,z0)) fun v233 =>
 bif (decide (v233 > (2147483647:Int))) then
 some (Sum.inl ((wI (v233-(4294967296:Int))),(v224,v225)))
 else
 some (Sum.inl (v233,(v224,v225)))) fun (v235,(v236,v237)) =>
 bif (lE v178) then
 bif (rO ((tA v178)++(((bytesU v202),(v218,v235))::([]:List (LU×(Int×Int))))) 32) then
 bindO (some ((tA v178)++(((bytesU v202),(v218,v235))::([]:List (LU×(Int×Int)))))) fun x238 =>
 bif (lE x238) then
 some (Sum.inl ((wI (v173+z1)),((v174,(v175,(v176,(v177,((tA x238),(v179,(v180,v181))))))),(v236,v237))))
 else none
 else none
 else none
 else
 outO (bif (lE v178) then
 some (Sum.inl ((v174,(v175,(v176,(v177,((tA v178),(v179,(v180,v181))))))),(v182,v183)))
 else none)
 else
 outO (bif (lE v178) then
 some (Sum.inl ((v174,(v175,(v176,(v177,((tA v178),(v179,(v180,v181))))))),(v182,v183)))
 else none)) (z0,(((bytesU v45),((bytesU v66),(v83,((decide (v99=z1)),(([]:List (LU×(Int×Int))),(v116,((bytesU v137),v154))))))),(v171,v172)))) fun ((v240,(v241,(v242,(v243,(v244,(v245,(v246,v247))))))),(v248,v249)) =>
 joinO (joinO (bif v249 then
 some (Sum.inl (([]:List Int),(v248,Bool.true)))
 else
 bif (decide (z1 > (lI v248))) then
 some (Sum.inl (([]:List Int),(v248,Bool.true)))
 else
 bif (decide ((z0≤z1)∧(z1≤(lI v248)))) then
 bif (decide ((z0≤z1)∧(z1≤(lI v248)))) then
 some (Sum.inl ((List.take 1 v248),((List.drop 1 v248),v249)))
 else none
 else none) fun (v252,(v253,v254)) =>
 joinO (loopO (fun (v255,v256) =>
 bif (decide (v255<(lI v252))) then
 bif (iR v255 v252) then
 bindO v252[(Int.toNat v255)]? fun x258 =>
 some (Sum.inl ((wI (v255+z1)),(wI ((wI ((256:Int)*v256))+(wI x258)))))
 else none
 else
 outO (some (Sum.inl v256))) (z0,z0)) fun v262 =>
 some (Sum.inl (v262,(v253,v254)))) fun (v263,(v264,v265)) =>
 joinO (bif (lE v244) then
 loopO (fun (v266,((v267,(v268,(v269,(v270,(v271,(v272,(v273,(v274,v275)))))))),(v276,v277))) =>
 bif (decide (v266<v263)) then
 bif (!v277) then
 joinO (joinO (bif v277 then
 some (Sum.inl (([]:List Int),(v276,Bool.true)))
 else
 bif (decide ((2:Int) > (lI v276))) then
 some (Sum.inl (([]:List Int),(v276,Bool.true)))
 else
 bif (decide ((z0≤(2:Int))∧((2:Int)≤(lI v276)))) then
 bif (decide ((z0≤(2:Int))∧((2:Int)≤(lI v276)))) then
 some (Sum.inl ((List.take 2 v276),((List.drop 2 v276),v277)))
 else none
 else none) fun (v280,(v281,v282)) =>
 joinO (loopO (fun (v283,v284) =>
 bif (decide (v283<(lI v280))) then
 bif (iR v283 v280) then
 bindO v280[(Int.toNat v283)]? fun x286 =>
 some (Sum.inl ((wI (v283+z1)),(wI ((wI ((256:Int)*v284))+(wI x286)))))
 else none
 else
 outO (some (Sum.inl v284))) (z0,z0)) fun v290 =>
 some (Sum.inl (v290,(v281,v282)))) fun (v291,(v292,v293)) =>
 joinO (bif v293 then
 some (Sum.inl (([]:List Int),(v292,Bool.true)))
 else
 bif (decide (v291 > (lI v292))) then
 some (Sum.inl (([]:List Int),(v292,Bool.true)))
 else
 bif (decide ((z0≤v291)∧(v291≤(lI v292)))) then
 bif (decide ((z0≤v291)∧(v291≤(lI v292)))) then
 some (Sum.inl ((List.take (Int.toNat v291) v292),((List.drop (Int.toNat v291) v292),v293)))
 else none
 else none) fun (v296,(v297,v298)) =>
 bif (lE v275) then
 bif (rO ((tA v275)++((bytesU v296)::([]:List LU))) 16) then
 bindO (some ((tA v275)++((bytesU v296)::([]:List LU)))) fun x299 =>
 bif ((lE v271)&&(lE x299)) then
 some (Sum.inl ((wI (v266+z1)),((v267,(v268,(v269,(v270,((tA v271),(v272,(v273,(v274,(tA x299))))))))),(v297,v298))))
 else none
 else none
 else none
 else
 outO (bif ((lE v271)&&(lE v275)) then
 some (Sum.inl ((v267,(v268,(v269,(v270,((tA v271),(v272,(v273,(v274,(tA v275))))))))),(v276,v277)))
 else none)
 else
 outO (bif ((lE v271)&&(lE v275)) then
 some (Sum.inl ((v267,(v268,(v269,(v270,((tA v271),(v272,(v273,(v274,(tA v275))))))))),(v276,v277)))
 else none)) (z0,((v240,(v241,(v242,(v243,((tA v244),(v245,(v246,(v247,([]:List LU))))))))),(v264,v265)))
 else none) fun ((v301,(v302,(v303,(v304,(v305,(v306,(v307,(v308,v309)))))))),(v310,v311)) =>
 bif v311 then
 some (z0,((([]:List UInt8),(([]:List UInt8),(z0,(Bool.false,(([]:List (LU×(Int×Int))),(z0,(([]:List UInt8),(z0,([]:List LU))))))))),(6:Int)))
 else
 bif (decide ((lI v310) > z0)) then
 some (z0,((([]:List UInt8),(([]:List UInt8),(z0,(Bool.false,(([]:List (LU×(Int×Int))),(z0,(([]:List UInt8),(z0,([]:List LU))))))))),(5:Int)))
 else
 bif (decide (v99 > z1)) then
 some (z0,((([]:List UInt8),(([]:List UInt8),(z0,(Bool.false,(([]:List (LU×(Int×Int))),(z0,(([]:List UInt8),(z0,([]:List LU))))))))),(5:Int)))
 else
 bif (decide (x2≥(128:Int))) then
 some (z0,((([]:List UInt8),(([]:List UInt8),(z0,(Bool.false,(([]:List (LU×(Int×Int))),(z0,(([]:List UInt8),(z0,([]:List LU))))))))),(5:Int)))
 else
 bif ((lE v305)&&(lE v309)) then
 bindO (dialtoneref22_Formed (v301,(v302,(v303,(v304,((tA v305),(v306,(v307,(v308,(tA v309)))))))))) fun x312 =>
 bif (!x312) then
 some (z0,((([]:List UInt8),(([]:List UInt8),(z0,(Bool.false,(([]:List (LU×(Int×Int))),(z0,(([]:List UInt8),(z0,([]:List LU))))))))),(5:Int)))
 else
 bif (decide (v24 > (1099511627776:Int))) then
 some (z0,((([]:List UInt8),(([]:List UInt8),(z0,(Bool.false,(([]:List (LU×(Int×Int))),(z0,(([]:List UInt8),(z0,([]:List LU))))))))),(5:Int)))
 else
 bif ((lE v305)&&(lE v309)) then
 some (v24,((v301,(v302,(v303,(v304,((tA v305),(v306,(v307,(v308,(tA v309))))))))),z0))
 else none
 else none
 else none
 else
 joinO (joinO (joinO (bif (decide ((8:Int) > (lI a1))) then
 some (Sum.inl (([]:List Int),(a1,Bool.true)))
 else
 bif (decide ((z0≤(8:Int))∧((8:Int)≤(lI a1)))) then
 bif (decide ((z0≤(8:Int))∧((8:Int)≤(lI a1)))) then
 some (Sum.inl ((List.take 8 a1),((List.drop 8 a1),Bool.false)))
 else none
 else none) fun (v315,(v316,v317)) =>
 joinO (loopO (fun (v318,v319) =>
 bif (decide (v318<(lI v315))) then
 bif (iR v318 v315) then
 bindO v315[(Int.toNat v318)]? fun x321 =>
 some (Sum.inl ((wI (v318+z1)),(wI ((wI ((256:Int)*v319))+(wI x321)))))
 else none
 else
 outO (some (Sum.inl v319))) (z0,z0)) fun v325 =>
 some (Sum.inl (v325,(v316,v317)))) fun (v326,(v327,v328)) =>
 some (Sum.inl (v326,(v327,v328)))) fun (v329,(v330,v331)) =>
 joinO (joinO (bif v331 then
 some (Sum.inl (([]:List Int),(v330,Bool.true)))
 else
 bif (decide ((2:Int) > (lI v330))) then
 some (Sum.inl (([]:List Int),(v330,Bool.true)))
 else
 bif (decide ((z0≤(2:Int))∧((2:Int)≤(lI v330)))) then
 bif (decide ((z0≤(2:Int))∧((2:Int)≤(lI v330)))) then
 some (Sum.inl ((List.take 2 v330),((List.drop 2 v330),v331)))
 else none
 else none) fun (v334,(v335,v336)) =>
 joinO (loopO (fun (v337,v338) =>
 bif (decide (v337<(lI v334))) then
 bif (iR v337 v334) then
 bindO v334[(Int.toNat v337)]? fun x340 =>
 some (Sum.inl ((wI (v337+z1)),(wI ((wI ((256:Int)*v338))+(wI x340)))))
 else none
 else
 outO (some (Sum.inl v338))) (z0,z0)) fun v344 =>
 some (Sum.inl (v344,(v335,v336)))) fun (v345,(v346,v347)) =>
 joinO (bif v347 then
 some (Sum.inl (([]:List Int),(v346,Bool.true)))
 else
 bif (decide (v345 > (lI v346))) then
 some (Sum.inl (([]:List Int),(v346,Bool.true)))
 else
 bif (decide ((z0≤v345)∧(v345≤(lI v346)))) then
 bif (decide ((z0≤v345)∧(v345≤(lI v346)))) then
 some (Sum.inl ((List.take (Int.toNat v345) v346),((List.drop (Int.toNat v345) v346),v347)))
 else none
 else none) fun (v350,(v351,v352)) =>
 joinO (joinO (bif v352 then
 some (Sum.inl (([]:List Int),(v351,Bool.true)))
 else
 bif (decide ((2:Int) > (lI v351))) then
 some (Sum.inl (([]:List Int),(v351,Bool.true)))
 else
 bif (decide ((z0≤(2:Int))∧((2:Int)≤(lI v351)))) then
 bif (decide ((z0≤(2:Int))∧((2:Int)≤(lI v351)))) then
 some (Sum.inl ((List.take 2 v351),((List.drop 2 v351),v352)))
 else none
 else none) fun (v355,(v356,v357)) =>
 joinO (loopO (fun (v358,v359) =>
 bif (decide (v358<(lI v355))) then
 bif (iR v358 v355) then
 bindO v355[(Int.toNat v358)]? fun x361 =>
 some (Sum.inl ((wI (v358+z1)),(wI ((wI ((256:Int)*v359))+(wI x361)))))
 else none
 else
 outO (some (Sum.inl v359))) (z0,z0)) fun v365 =>
 some (Sum.inl (v365,(v356,v357)))) fun (v366,(v367,v368)) =>
 joinO (bif v368 then
 some (Sum.inl (([]:List Int),(v367,Bool.true)))
 else
 bif (decide (v366 > (lI v367))) then
 some (Sum.inl (([]:List Int),(v367,Bool.true)))
 else
 bif (decide ((z0≤v366)∧(v366≤(lI v367)))) then
 bif (decide ((z0≤v366)∧(v366≤(lI v367)))) then
 some (Sum.inl ((List.take (Int.toNat v366) v367),((List.drop (Int.toNat v366) v367),v368)))
 else none
 else none) fun (v371,(v372,v373)) =>
 joinO (joinO (bif v373 then
 some (Sum.inl (([]:List Int),(v372,Bool.true)))
 else
 bif (decide ((4:Int) > (lI v372))) then
 some (Sum.inl (([]:List Int),(v372,Bool.true)))
 else
 bif (decide ((z0≤(4:Int))∧((4:Int)≤(lI v372)))) then
 bif (decide ((z0≤(4:Int))∧((4:Int)≤(lI v372)))) then
 some (Sum.inl ((List.take 4 v372),((List.drop 4 v372),v373)))
 else none
 else none) fun (v376,(v377,v378)) =>
 joinO (loopO (fun (v379,v380) =>
 bif (decide (v379<(lI v376))) then
 bif (iR v379 v376) then
 bindO v376[(Int.toNat v379)]? fun x382 =>
 some (Sum.inl ((wI (v379+z1)),(wI ((wI ((256:Int)*v380))+(wI x382)))))
 else none
 else
 outO (some (Sum.inl v380))) (z0,z0)) fun v386 =>
 bif (decide (v386 > (2147483647:Int))) then
 some (Sum.inl ((wI (v386-(4294967296:Int))),(v377,v378)))
 else
 some (Sum.inl (v386,(v377,v378)))) fun (v388,(v389,v390)) =>
 joinO (joinO (bif v390 then
 some (Sum.inl (([]:List Int),(v389,Bool.true)))
 else
 bif (decide (z1 > (lI v389))) then
 some (Sum.inl (([]:List Int),(v389,Bool.true)))
 else
 bif (decide ((z0≤z1)∧(z1≤(lI v389)))) then
 bif (decide ((z0≤z1)∧(z1≤(lI v389)))) then
 some (Sum.inl ((List.take 1 v389),((List.drop 1 v389),v390)))
 else none
 else none) fun (v393,(v394,v395)) =>
 joinO (loopO (fun (v396,v397) =>
 bif (decide (v396<(lI v393))) then
 bif (iR v396 v393) then
 bindO v393[(Int.toNat v396)]? fun x399 =>
 some (Sum.inl ((wI (v396+z1)),(wI ((wI ((256:Int)*v397))+(wI x399)))))
 else none
 else
 outO (some (Sum.inl v397))) (z0,z0)) fun v403 =>
 some (Sum.inl (v403,(v394,v395)))) fun (v404,(v405,v406)) =>
 joinO (joinO (bif v406 then
 some (Sum.inl (([]:List Int),(v405,Bool.true)))
 else
 bif (decide ((4:Int) > (lI v405))) then
 some (Sum.inl (([]:List Int),(v405,Bool.true)))
 else
 bif (decide ((z0≤(4:Int))∧((4:Int)≤(lI v405)))) then
 bif (decide ((z0≤(4:Int))∧((4:Int)≤(lI v405)))) then
 some (Sum.inl ((List.take 4 v405),((List.drop 4 v405),v406)))
 else none
 else none) fun (v409,(v410,v411)) =>
 joinO (loopO (fun (v412,v413) =>
 bif (decide (v412<(lI v409))) then
 bif (iR v412 v409) then
 bindO v409[(Int.toNat v412)]? fun x415 =>
 some (Sum.inl ((wI (v412+z1)),(wI ((wI ((256:Int)*v413))+(wI x415)))))
 else none
 else
 outO (some (Sum.inl v413))) (z0,z0)) fun v419 =>
 bif (decide (v419 > (2147483647:Int))) then
 some (Sum.inl ((wI (v419-(4294967296:Int))),(v410,v411)))
 else
 some (Sum.inl (v419,(v410,v411)))) fun (v421,(v422,v423)) =>
 joinO (joinO (bif v423 then
 some (Sum.inl (([]:List Int),(v422,Bool.true)))
 else
 bif (decide ((2:Int) > (lI v422))) then
 some (Sum.inl (([]:List Int),(v422,Bool.true)))
 else
 bif (decide ((z0≤(2:Int))∧((2:Int)≤(lI v422)))) then
 bif (decide ((z0≤(2:Int))∧((2:Int)≤(lI v422)))) then
 some (Sum.inl ((List.take 2 v422),((List.drop 2 v422),v423)))
 else none
 else none) fun (v426,(v427,v428)) =>
 joinO (loopO (fun (v429,v430) =>
 bif (decide (v429<(lI v426))) then
 bif (iR v429 v426) then
 bindO v426[(Int.toNat v429)]? fun x432 =>
 some (Sum.inl ((wI (v429+z1)),(wI ((wI ((256:Int)*v430))+(wI x432)))))
 else none
 else
 outO (some (Sum.inl v430))) (z0,z0)) fun v436 =>
 some (Sum.inl (v436,(v427,v428)))) fun (v437,(v438,v439)) =>
 joinO (bif v439 then
 some (Sum.inl (([]:List Int),(v438,Bool.true)))
 else
 bif (decide (v437 > (lI v438))) then
 some (Sum.inl (([]:List Int),(v438,Bool.true)))
 else
 bif (decide ((z0≤v437)∧(v437≤(lI v438)))) then
 bif (decide ((z0≤v437)∧(v437≤(lI v438)))) then
 some (Sum.inl ((List.take (Int.toNat v437) v438),((List.drop (Int.toNat v437) v438),v439)))
 else none
 else none) fun (v442,(v443,v444)) =>
 joinO (joinO (bif v444 then
 some (Sum.inl (([]:List Int),(v443,Bool.true)))
 else
 bif (decide ((4:Int) > (lI v443))) then
 some (Sum.inl (([]:List Int),(v443,Bool.true)))
 else
 bif (decide ((z0≤(4:Int))∧((4:Int)≤(lI v443)))) then
 bif (decide ((z0≤(4:Int))∧((4:Int)≤(lI v443)))) then
 some (Sum.inl ((List.take 4 v443),((List.drop 4 v443),v444)))
 else none
 else none) fun (v447,(v448,v449)) =>
 joinO (loopO (fun (v450,v451) =>
 bif (decide (v450<(lI v447))) then
 bif (iR v450 v447) then
 bindO v447[(Int.toNat v450)]? fun x453 =>
 some (Sum.inl ((wI (v450+z1)),(wI ((wI ((256:Int)*v451))+(wI x453)))))
 else none
 else
 outO (some (Sum.inl v451))) (z0,z0)) fun v457 =>
 bif (decide (v457 > (2147483647:Int))) then
 some (Sum.inl ((wI (v457-(4294967296:Int))),(v448,v449)))
 else
 some (Sum.inl (v457,(v448,v449)))) fun (v459,(v460,v461)) =>
 joinO (joinO (bif v461 then
 some (Sum.inl (([]:List Int),(v460,Bool.true)))
 else
 bif (decide (z1 > (lI v460))) then
 some (Sum.inl (([]:List Int),(v460,Bool.true)))
 else
 bif (decide ((z0≤z1)∧(z1≤(lI v460)))) then
 bif (decide ((z0≤z1)∧(z1≤(lI v460)))) then
 some (Sum.inl ((List.take 1 v460),((List.drop 1 v460),v461)))
 else none
 else none) fun (v464,(v465,v466)) =>
 joinO (loopO (fun (v467,v468) =>
 bif (decide (v467<(lI v464))) then
 bif (iR v467 v464) then
 bindO v464[(Int.toNat v467)]? fun x470 =>
 some (Sum.inl ((wI (v467+z1)),(wI ((wI ((256:Int)*v468))+(wI x470)))))
 else none
 else
 outO (some (Sum.inl v468))) (z0,z0)) fun v474 =>
 some (Sum.inl (v474,(v465,v466)))) fun (v475,(v476,v477)) =>
 joinO (loopO (fun (v478,((v479,(v480,(v481,(v482,(v483,(v484,(v485,v486))))))),(v487,v488))) =>
 bif (decide (v478<v475)) then
 bif (!v488) then
 joinO (joinO (bif v488 then
 some (Sum.inl (([]:List Int),(v487,Bool.true)))
 else
 bif (decide ((2:Int) > (lI v487))) then
 some (Sum.inl (([]:List Int),(v487,Bool.true)))
 else
 bif (decide ((z0≤(2:Int))∧((2:Int)≤(lI v487)))) then
 bif (decide ((z0≤(2:Int))∧((2:Int)≤(lI v487)))) then
 some (Sum.inl ((List.take 2 v487),((List.drop 2 v487),v488)))
 else none
 else none) fun (v491,(v492,v493)) =>
 joinO (loopO (fun (v494,v495) =>
 bif (decide (v494<(lI v491))) then
 bif (iR v494 v491) then
 bindO v491[(Int.toNat v494)]? fun x497 =>
 some (Sum.inl ((wI (v494+z1)),(wI ((wI ((256:Int)*v495))+(wI x497)))))
 else none
 else
 outO (some (Sum.inl v495))) (z0,z0)) fun v501 =>
 some (Sum.inl (v501,(v492,v493)))) fun (v502,(v503,v504)) =>
 joinO (bif v504 then
 some (Sum.inl (([]:List Int),(v503,Bool.true)))
 else
 bif (decide (v502 > (lI v503))) then
 some (Sum.inl (([]:List Int),(v503,Bool.true)))
 else
 bif (decide ((z0≤v502)∧(v502≤(lI v503)))) then
 bif (decide ((z0≤v502)∧(v502≤(lI v503)))) then
 some (Sum.inl ((List.take (Int.toNat v502) v503),((List.drop (Int.toNat v502) v503),v504)))
 else none
 else none) fun (v507,(v508,v509)) =>
 joinO (joinO (bif v509 then
 some (Sum.inl (([]:List Int),(v508,Bool.true)))
 else
 bif (decide ((2:Int) > (lI v508))) then
 some (Sum.inl (([]:List Int),(v508,Bool.true)))
 else
 bif (decide ((z0≤(2:Int))∧((2:Int)≤(lI v508)))) then
 bif (decide ((z0≤(2:Int))∧((2:Int)≤(lI v508)))) then
 some (Sum.inl ((List.take 2 v508),((List.drop 2 v508),v509)))
 else none
 else none) fun (v512,(v513,v514)) =>
 joinO (loopO (fun (v515,v516) =>
 bif (decide (v515<(lI v512))) then
 bif (iR v515 v512) then
 bindO v512[(Int.toNat v515)]? fun x518 =>
 some (Sum.inl ((wI (v515+z1)),(wI ((wI ((256:Int)*v516))+(wI x518)))))
 else none
 else
 outO (some (Sum.inl v516))) (z0,z0)) fun v522 =>
 some (Sum.inl (v522,(v513,v514)))) fun (v523,(v524,v525)) =>
 joinO (joinO (bif v525 then
 some (Sum.inl (([]:List Int),(v524,Bool.true)))
 else
 bif (decide ((4:Int) > (lI v524))) then
 some (Sum.inl (([]:List Int),(v524,Bool.true)))
 else
 bif (decide ((z0≤(4:Int))∧((4:Int)≤(lI v524)))) then
 bif (decide ((z0≤(4:Int))∧((4:Int)≤(lI v524)))) then
 some (Sum.inl ((List.take 4 v524),((List.drop 4 v524),v525)))
 else none
 else none) fun (v528,(v529,v530)) =>
 joinO (loopO (fun (v531,v532) =>
 bif (decide (v531<(lI v528))) then
 bif (iR v531 v528) then
 bindO v528[(Int.toNat v531)]? fun x534 =>
 some (Sum.inl ((wI (v531+z1)),(wI ((wI ((256:Int)*v532))+(wI x534)))))
 else none
 else
 outO (some (Sum.inl v532))) (z0,z0)) fun v538 =>
 bif (decide (v538 > (2147483647:Int))) then
 some (Sum.inl ((wI (v538-(4294967296:Int))),(v529,v530)))
 else
 some (Sum.inl (v538,(v529,v530)))) fun (v540,(v541,v542)) =>
 bif (lE v483) then
 bif (rO ((tA v483)++(((bytesU v507),(v523,v540))::([]:List (LU×(Int×Int))))) 32) then
 bindO (some ((tA v483)++(((bytesU v507),(v523,v540))::([]:List (LU×(Int×Int)))))) fun x543 =>
 bif (lE x543) then
 some (Sum.inl ((wI (v478+z1)),((v479,(v480,(v481,(v482,((tA x543),(v484,(v485,v486))))))),(v541,v542))))
 else none
 else none
 else none
 else
 outO (bif (lE v483) then
 some (Sum.inl ((v479,(v480,(v481,(v482,((tA v483),(v484,(v485,v486))))))),(v487,v488)))
 else none)
 else
 outO (bif (lE v483) then
 some (Sum.inl ((v479,(v480,(v481,(v482,((tA v483),(v484,(v485,v486))))))),(v487,v488)))
 else none)) (z0,(((bytesU v350),((bytesU v371),(v388,((decide (v404=z1)),(([]:List (LU×(Int×Int))),(v421,((bytesU v442),v459))))))),(v476,v477)))) fun ((v545,(v546,(v547,(v548,(v549,(v550,(v551,v552))))))),(v553,v554)) =>
 joinO (joinO (bif v554 then
 some (Sum.inl (([]:List Int),(v553,Bool.true)))
 else
 bif (decide (z1 > (lI v553))) then
 some (Sum.inl (([]:List Int),(v553,Bool.true)))
 else
 bif (decide ((z0≤z1)∧(z1≤(lI v553)))) then
 bif (decide ((z0≤z1)∧(z1≤(lI v553)))) then
 some (Sum.inl ((List.take 1 v553),((List.drop 1 v553),v554)))
 else none
 else none) fun (v557,(v558,v559)) =>
 joinO (loopO (fun (v560,v561) =>
 bif (decide (v560<(lI v557))) then
 bif (iR v560 v557) then
 bindO v557[(Int.toNat v560)]? fun x563 =>
 some (Sum.inl ((wI (v560+z1)),(wI ((wI ((256:Int)*v561))+(wI x563)))))
 else none
 else
 outO (some (Sum.inl v561))) (z0,z0)) fun v567 =>
 some (Sum.inl (v567,(v558,v559)))) fun (v568,(v569,v570)) =>
 joinO (bif (lE v549) then
 loopO (fun (v571,((v572,(v573,(v574,(v575,(v576,(v577,(v578,(v579,v580)))))))),(v581,v582))) =>
 bif (decide (v571<v568)) then
 bif (!v582) then
 joinO (joinO (bif v582 then
 some (Sum.inl (([]:List Int),(v581,Bool.true)))
 else
 bif (decide ((2:Int) > (lI v581))) then
 some (Sum.inl (([]:List Int),(v581,Bool.true)))
 else
 bif (decide ((z0≤(2:Int))∧((2:Int)≤(lI v581)))) then
 bif (decide ((z0≤(2:Int))∧((2:Int)≤(lI v581)))) then
 some (Sum.inl ((List.take 2 v581),((List.drop 2 v581),v582)))
 else none
 else none) fun (v585,(v586,v587)) =>
 joinO (loopO (fun (v588,v589) =>
 bif (decide (v588<(lI v585))) then
 bif (iR v588 v585) then
 bindO v585[(Int.toNat v588)]? fun x591 =>
 some (Sum.inl ((wI (v588+z1)),(wI ((wI ((256:Int)*v589))+(wI x591)))))
 else none
 else
 outO (some (Sum.inl v589))) (z0,z0)) fun v595 =>
 some (Sum.inl (v595,(v586,v587)))) fun (v596,(v597,v598)) =>
 joinO (bif v598 then
 some (Sum.inl (([]:List Int),(v597,Bool.true)))
 else
 bif (decide (v596 > (lI v597))) then
 some (Sum.inl (([]:List Int),(v597,Bool.true)))
 else
 bif (decide ((z0≤v596)∧(v596≤(lI v597)))) then
 bif (decide ((z0≤v596)∧(v596≤(lI v597)))) then
 some (Sum.inl ((List.take (Int.toNat v596) v597),((List.drop (Int.toNat v596) v597),v598)))
 else none
 else none) fun (v601,(v602,v603)) =>
 bif (lE v580) then
 bif (rO ((tA v580)++((bytesU v601)::([]:List LU))) 16) then
 bindO (some ((tA v580)++((bytesU v601)::([]:List LU)))) fun x604 =>
 bif ((lE v576)&&(lE x604)) then
 some (Sum.inl ((wI (v571+z1)),((v572,(v573,(v574,(v575,((tA v576),(v577,(v578,(v579,(tA x604))))))))),(v602,v603))))
 else none
 else none
 else none
 else
 outO (bif ((lE v576)&&(lE v580)) then
 some (Sum.inl ((v572,(v573,(v574,(v575,((tA v576),(v577,(v578,(v579,(tA v580))))))))),(v581,v582)))
 else none)
 else
 outO (bif ((lE v576)&&(lE v580)) then
 some (Sum.inl ((v572,(v573,(v574,(v575,((tA v576),(v577,(v578,(v579,(tA v580))))))))),(v581,v582)))
 else none)) (z0,((v545,(v546,(v547,(v548,((tA v549),(v550,(v551,(v552,([]:List LU))))))))),(v569,v570)))
 else none) fun ((v606,(v607,(v608,(v609,(v610,(v611,(v612,(v613,v614)))))))),(v615,v616)) =>
 bif v616 then
 some (z0,((([]:List UInt8),(([]:List UInt8),(z0,(Bool.false,(([]:List (LU×(Int×Int))),(z0,(([]:List UInt8),(z0,([]:List LU))))))))),(6:Int)))
 else
 bif (decide ((lI v615) > z0)) then
 some (z0,((([]:List UInt8),(([]:List UInt8),(z0,(Bool.false,(([]:List (LU×(Int×Int))),(z0,(([]:List UInt8),(z0,([]:List LU))))))))),(5:Int)))
 else
 bif (decide (v404 > z1)) then
 some (z0,((([]:List UInt8),(([]:List UInt8),(z0,(Bool.false,(([]:List (LU×(Int×Int))),(z0,(([]:List UInt8),(z0,([]:List LU))))))))),(5:Int)))
 else
 bif ((lE v610)&&(lE v614)) then
 bindO (dialtoneref22_Formed (v606,(v607,(v608,(v609,((tA v610),(v611,(v612,(v613,(tA v614)))))))))) fun x617 =>
 bif (!x617) then
 some (z0,((([]:List UInt8),(([]:List UInt8),(z0,(Bool.false,(([]:List (LU×(Int×Int))),(z0,(([]:List UInt8),(z0,([]:List LU))))))))),(5:Int)))
 else
 bif (decide (v329 > (1099511627776:Int))) then
 some (z0,((([]:List UInt8),(([]:List UInt8),(z0,(Bool.false,(([]:List (LU×(Int×Int))),(z0,(([]:List UInt8),(z0,([]:List LU))))))))),(5:Int)))
 else
 bif ((lE v610)&&(lE v614)) then
 some (v329,((v606,(v607,(v608,(v609,((tA v610),(v611,(v612,(v613,(tA v614))))))))),z0))
 else none
 else none
noncomputable def cons25:List (Nat×CE):=(23,⟨[(.tmp 0 false [dI]),(.tmp 1 true [dS,dS,dI,dO,(.dat (.list (.pair .str (.pair uI6 uI6)))),dI,dS,dI,(.dat (.list .str))])],[(.tmp 0 false [dY]),(.tmp 1 false [dE])],dialtoneref22_EncodeAct⟩)::cons23
theorem cons25_ok:ConL Try.prog cons25:=⟨con23,cons23_ok⟩
theorem con25:ConOk Try.prog 25 ⟨[(.tmp 0 false [dY])],[(.tmp 0 false [dI]),(.tmp 1 true [dS,dS,dI,dO,(.dat (.list (.pair .str (.pair uI6 uI6)))),dI,dS,dI,(.dat (.list .str))]),(.tmp 2 false [dE])],dialtoneref22_DecodeAct⟩ :=
 tree_ok (plan:=planOf plan25) (eg:=egNo) KK tabL_ok (conOf_ok cons25_ok) Try.func25 (by kernel_rfl) (by kernel_rfl) 10000 (fun a r h=>Eq.trans (show _=dialtoneref22_DecodeAct a from by kernel_rfl) h)
def plan50:List (Nat×PL):=[(134480385,(.carry [])),(18049651601311750,(.carry [.tmp 5 false [dI]]))]
noncomputable def dialtoneref22_strings:((List LU)×(List LU))→Option Bool:=fun (a1,a2) =>
 bif (decide ((lI a1)≠(lI a2))) then
 some Bool.false
 else
 joinO (loopO (fun v3 =>
 bif (decide (v3<(lI a1))) then
 bif (iR v3 a1) then
 bindO a1[(Int.toNat v3)]? fun x4 =>
 bif (iR v3 a2) then
 bindO a2[(Int.toNat v3)]? fun x5 =>
 bif (decide (x4≠x5)) then
 outO (outO (some Bool.false))
 else
 some (Sum.inl (wI (v3+z1)))
 else none
 else none
 else
 outO (some (Sum.inl ()))) z0) fun _ =>
 some Bool.true
noncomputable def cons50:List (Nat×CE):=(25,⟨[(.tmp 0 false [dY])],[(.tmp 0 false [dI]),(.tmp 1 true [dS,dS,dI,dO,(.dat (.list (.pair .str (.pair uI6 uI6)))),dI,dS,dI,(.dat (.list .str))]),(.tmp 2 false [dE])],dialtoneref22_DecodeAct⟩)::cons25
theorem cons50_ok:ConL Try.prog cons50:=⟨con25,cons25_ok⟩
theorem con50:ConOk Try.prog 50 ⟨[(.tmp 0 false [(.dat (.list .str))]),(.tmp 1 false [(.dat (.list .str))])],[(.tmp 0 false [dO])],dialtoneref22_strings⟩ :=
 tree_ok (plan:=planOf plan50) (eg:=egNo) KK tabL_ok (conOf_ok cons50_ok) Try.func50 (by kernel_rfl) (by kernel_rfl) 10000 (fun a r h=>Eq.trans (show _=dialtoneref22_strings a from by kernel_rfl) h)
end Go.Proofs.Ytlaccfegaoaakaa
