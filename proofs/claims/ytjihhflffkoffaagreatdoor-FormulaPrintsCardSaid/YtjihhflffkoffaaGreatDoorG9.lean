/- Contracts of functions of the program; no condition. -/
import Derived.Test.YtjihhflffkoffaaGreatDoorG8
import Derived.Test.YtjihhflffkoffaaGreatDoorG2
import Derived.Test.YtjihhflffkoffaaGreatDoorG0
import Derived.Test.YtjihhflffkoffaaGreatDoorLe
import Derived.Test.YtjihhflffkoffaaGreatDoorG4
import Derived.Test.YtjihhflffkoffaaGreatDoorG6
import Derived.Test.YtjihhflffkoffaaGreatDoorG7
set_option linter.unusedSimpArgs false
set_option linter.unusedVariables false
set_option linter.unusedSectionVars false
set_option linter.unnecessarySimpa false
namespace Go.Proofs.YtjihhflffkoffaaGreatDoor.Z
open Go Go.Lm
set_option maxRecDepth 1000000
set_option maxHeartbeats 0
theorem s288k1(H:LHeap):CallL cfg 288 [.int .u64 1] H (GoodS (fun s=>s.length<=3) H):=
 e288k1 _ () H fun i0 H1 _ _ H2 _ hI=>⟨[49],H2,conv_from (slot_loadN (hI.slot 0 _ rfl).2.1 rfl (by decide) rfl),fun hI=>.mk hI.pres (by decide)⟩
theorem s288k2(H:LHeap):CallL cfg 288 [.int .u64 2] H (GoodS (fun s=>s.length<=3) H):=
 e288k2 _ () H fun i0 H1 _ _ H2 _ hI=>⟨[50],H2,conv_from (slot_loadN (hI.slot 0 _ rfl).2.1 rfl (by decide) rfl),fun hI=>.mk hI.pres (by decide)⟩
theorem s288k3(H:LHeap):CallL cfg 288 [.int .u64 3] H (GoodS (fun s=>s.length<=3) H):=
 e288k3 _ () H fun i0 H1 _ _ H2 _ hI=>⟨[51],H2,conv_from (slot_loadN (hI.slot 0 _ rfl).2.1 rfl (by decide) rfl),fun hI=>.mk hI.pres (by decide)⟩
theorem s288k4(H:LHeap):CallL cfg 288 [.int .u64 4] H (GoodS (fun s=>s.length<=3) H):=
 e288k4 _ () H fun i0 H1 _ _ H2 _ hI=>⟨[52],H2,conv_from (slot_loadN (hI.slot 0 _ rfl).2.1 rfl (by decide) rfl),fun hI=>.mk hI.pres (by decide)⟩
theorem s288k5(H:LHeap):CallL cfg 288 [.int .u64 5] H (GoodS (fun s=>s.length<=3) H):=
 e288k5 _ () H fun i0 H1 _ _ H2 _ hI=>⟨[53],H2,conv_from (slot_loadN (hI.slot 0 _ rfl).2.1 rfl (by decide) rfl),fun hI=>.mk hI.pres (by decide)⟩
theorem s288k6(H:LHeap):CallL cfg 288 [.int .u64 6] H (GoodS (fun s=>s.length<=3) H):=
 e288k6 _ () H fun i0 H1 _ _ H2 _ hI=>⟨[54],H2,conv_from (slot_loadN (hI.slot 0 _ rfl).2.1 rfl (by decide) rfl),fun hI=>.mk hI.pres (by decide)⟩
theorem s288k7(H:LHeap):CallL cfg 288 [.int .u64 7] H (GoodS (fun s=>s.length<=3) H):=
 e288k7 _ () H fun i0 H1 _ _ H2 _ hI=>⟨[55],H2,conv_from (slot_loadN (hI.slot 0 _ rfl).2.1 rfl (by decide) rfl),fun hI=>.mk hI.pres (by decide)⟩
theorem s288k8(H:LHeap):CallL cfg 288 [.int .u64 8] H (GoodS (fun s=>s.length<=3) H):=
 e288k8 _ () H fun i0 H1 _ _ H2 _ hI=>⟨[56],H2,conv_from (slot_loadN (hI.slot 0 _ rfl).2.1 rfl (by decide) rfl),fun hI=>.mk hI.pres (by decide)⟩
theorem s288k9(H:LHeap):CallL cfg 288 [.int .u64 9] H (GoodS (fun s=>s.length<=3) H):=
 e288k9 _ () H fun i0 H1 _ _ H2 _ hI=>⟨[57],H2,conv_from (slot_loadN (hI.slot 0 _ rfl).2.1 rfl (by decide) rfl),fun hI=>.mk hI.pres (by decide)⟩
theorem s288k10(H:LHeap):CallL cfg 288 [.int .u64 10] H (GoodS (fun s=>s.length<=3) H):=
 e288k10 _ () H fun i0 H1 _ _ H2 _ H3 _ hI=>⟨[49,48],H3,conv_from (slot_loadN (hI.slot 0 _ rfl).2.1 rfl (by decide) rfl),fun hI=>.mk hI.pres (by decide)⟩
theorem s288k11(H:LHeap):CallL cfg 288 [.int .u64 11] H (GoodS (fun s=>s.length<=3) H):=
 e288k11 _ () H fun i0 H1 _ _ H2 _ H3 _ hI=>⟨[49,49],H3,conv_from (slot_loadN (hI.slot 0 _ rfl).2.1 rfl (by decide) rfl),fun hI=>.mk hI.pres (by decide)⟩
theorem s288k12(H:LHeap):CallL cfg 288 [.int .u64 12] H (GoodS (fun s=>s.length<=3) H):=
 e288k12 _ () H fun i0 H1 _ _ H2 _ H3 _ hI=>⟨[49,50],H3,conv_from (slot_loadN (hI.slot 0 _ rfl).2.1 rfl (by decide) rfl),fun hI=>.mk hI.pres (by decide)⟩
theorem s288k13(H:LHeap):CallL cfg 288 [.int .u64 13] H (GoodS (fun s=>s.length<=3) H):=
 e288k13 _ () H fun i0 H1 _ _ H2 _ H3 _ hI=>⟨[49,51],H3,conv_from (slot_loadN (hI.slot 0 _ rfl).2.1 rfl (by decide) rfl),fun hI=>.mk hI.pres (by decide)⟩
theorem s288k14(H:LHeap):CallL cfg 288 [.int .u64 14] H (GoodS (fun s=>s.length<=3) H):=
 e288k14 _ () H fun i0 H1 _ _ H2 _ H3 _ hI=>⟨[49,52],H3,conv_from (slot_loadN (hI.slot 0 _ rfl).2.1 rfl (by decide) rfl),fun hI=>.mk hI.pres (by decide)⟩
theorem s288k15(H:LHeap):CallL cfg 288 [.int .u64 15] H (GoodS (fun s=>s.length<=3) H):=
 e288k15 _ () H fun i0 H1 _ _ H2 _ H3 _ hI=>⟨[49,53],H3,conv_from (slot_loadN (hI.slot 0 _ rfl).2.1 rfl (by decide) rfl),fun hI=>.mk hI.pres (by decide)⟩
theorem s288k16(H:LHeap):CallL cfg 288 [.int .u64 16] H (GoodS (fun s=>s.length<=3) H):=
 e288k16 _ () H fun i0 H1 _ _ H2 _ H3 _ hI=>⟨[49,54],H3,conv_from (slot_loadN (hI.slot 0 _ rfl).2.1 rfl (by decide) rfl),fun hI=>.mk hI.pres (by decide)⟩
theorem s288k17(H:LHeap):CallL cfg 288 [.int .u64 17] H (GoodS (fun s=>s.length<=3) H):=
 e288k17 _ () H fun i0 H1 _ _ H2 _ H3 _ hI=>⟨[49,55],H3,conv_from (slot_loadN (hI.slot 0 _ rfl).2.1 rfl (by decide) rfl),fun hI=>.mk hI.pres (by decide)⟩
theorem s288k18(H:LHeap):CallL cfg 288 [.int .u64 18] H (GoodS (fun s=>s.length<=3) H):=
 e288k18 _ () H fun i0 H1 _ _ H2 _ H3 _ hI=>⟨[49,56],H3,conv_from (slot_loadN (hI.slot 0 _ rfl).2.1 rfl (by decide) rfl),fun hI=>.mk hI.pres (by decide)⟩
theorem s288k19(H:LHeap):CallL cfg 288 [.int .u64 19] H (GoodS (fun s=>s.length<=3) H):=
 e288k19 _ () H fun i0 H1 _ _ H2 _ H3 _ hI=>⟨[49,57],H3,conv_from (slot_loadN (hI.slot 0 _ rfl).2.1 rfl (by decide) rfl),fun hI=>.mk hI.pres (by decide)⟩
theorem s288k20(H:LHeap):CallL cfg 288 [.int .u64 20] H (GoodS (fun s=>s.length<=3) H):=
 e288k20 _ () H fun i0 H1 _ _ H2 _ H3 _ hI=>⟨[50,48],H3,conv_from (slot_loadN (hI.slot 0 _ rfl).2.1 rfl (by decide) rfl),fun hI=>.mk hI.pres (by decide)⟩
theorem s288k21(H:LHeap):CallL cfg 288 [.int .u64 21] H (GoodS (fun s=>s.length<=3) H):=
 e288k21 _ () H fun i0 H1 _ _ H2 _ H3 _ hI=>⟨[50,49],H3,conv_from (slot_loadN (hI.slot 0 _ rfl).2.1 rfl (by decide) rfl),fun hI=>.mk hI.pres (by decide)⟩
theorem s288k22(H:LHeap):CallL cfg 288 [.int .u64 22] H (GoodS (fun s=>s.length<=3) H):=
 e288k22 _ () H fun i0 H1 _ _ H2 _ H3 _ hI=>⟨[50,50],H3,conv_from (slot_loadN (hI.slot 0 _ rfl).2.1 rfl (by decide) rfl),fun hI=>.mk hI.pres (by decide)⟩
theorem s288k23(H:LHeap):CallL cfg 288 [.int .u64 23] H (GoodS (fun s=>s.length<=3) H):=
 e288k23 _ () H fun i0 H1 _ _ H2 _ H3 _ hI=>⟨[50,51],H3,conv_from (slot_loadN (hI.slot 0 _ rfl).2.1 rfl (by decide) rfl),fun hI=>.mk hI.pres (by decide)⟩
theorem s288k24(H:LHeap):CallL cfg 288 [.int .u64 24] H (GoodS (fun s=>s.length<=3) H):=
 e288k24 _ () H fun i0 H1 _ _ H2 _ H3 _ hI=>⟨[50,52],H3,conv_from (slot_loadN (hI.slot 0 _ rfl).2.1 rfl (by decide) rfl),fun hI=>.mk hI.pres (by decide)⟩
theorem s288k25(H:LHeap):CallL cfg 288 [.int .u64 25] H (GoodS (fun s=>s.length<=3) H):=
 e288k25 _ () H fun i0 H1 _ _ H2 _ H3 _ hI=>⟨[50,53],H3,conv_from (slot_loadN (hI.slot 0 _ rfl).2.1 rfl (by decide) rfl),fun hI=>.mk hI.pres (by decide)⟩
theorem s288k26(H:LHeap):CallL cfg 288 [.int .u64 26] H (GoodS (fun s=>s.length<=3) H):=
 e288k26 _ () H fun i0 H1 _ _ H2 _ H3 _ hI=>⟨[50,54],H3,conv_from (slot_loadN (hI.slot 0 _ rfl).2.1 rfl (by decide) rfl),fun hI=>.mk hI.pres (by decide)⟩
theorem s288k27(H:LHeap):CallL cfg 288 [.int .u64 27] H (GoodS (fun s=>s.length<=3) H):=
 e288k27 _ () H fun i0 H1 _ _ H2 _ H3 _ hI=>⟨[50,55],H3,conv_from (slot_loadN (hI.slot 0 _ rfl).2.1 rfl (by decide) rfl),fun hI=>.mk hI.pres (by decide)⟩
theorem s288k28(H:LHeap):CallL cfg 288 [.int .u64 28] H (GoodS (fun s=>s.length<=3) H):=
 e288k28 _ () H fun i0 H1 _ _ H2 _ H3 _ hI=>⟨[50,56],H3,conv_from (slot_loadN (hI.slot 0 _ rfl).2.1 rfl (by decide) rfl),fun hI=>.mk hI.pres (by decide)⟩
theorem s288k29(H:LHeap):CallL cfg 288 [.int .u64 29] H (GoodS (fun s=>s.length<=3) H):=
 e288k29 _ () H fun i0 H1 _ _ H2 _ H3 _ hI=>⟨[50,57],H3,conv_from (slot_loadN (hI.slot 0 _ rfl).2.1 rfl (by decide) rfl),fun hI=>.mk hI.pres (by decide)⟩
theorem s288k30(H:LHeap):CallL cfg 288 [.int .u64 30] H (GoodS (fun s=>s.length<=3) H):=
 e288k30 _ () H fun i0 H1 _ _ H2 _ H3 _ hI=>⟨[51,48],H3,conv_from (slot_loadN (hI.slot 0 _ rfl).2.1 rfl (by decide) rfl),fun hI=>.mk hI.pres (by decide)⟩
theorem s288k31(H:LHeap):CallL cfg 288 [.int .u64 31] H (GoodS (fun s=>s.length<=3) H):=
 e288k31 _ () H fun i0 H1 _ _ H2 _ H3 _ hI=>⟨[51,49],H3,conv_from (slot_loadN (hI.slot 0 _ rfl).2.1 rfl (by decide) rfl),fun hI=>.mk hI.pres (by decide)⟩
theorem s288k32(H:LHeap):CallL cfg 288 [.int .u64 32] H (GoodS (fun s=>s.length<=3) H):=
 e288k32 _ () H fun i0 H1 _ _ H2 _ H3 _ hI=>⟨[51,50],H3,conv_from (slot_loadN (hI.slot 0 _ rfl).2.1 rfl (by decide) rfl),fun hI=>.mk hI.pres (by decide)⟩
theorem s288k33(H:LHeap):CallL cfg 288 [.int .u64 33] H (GoodS (fun s=>s.length<=3) H):=
 e288k33 _ () H fun i0 H1 _ _ H2 _ H3 _ hI=>⟨[51,51],H3,conv_from (slot_loadN (hI.slot 0 _ rfl).2.1 rfl (by decide) rfl),fun hI=>.mk hI.pres (by decide)⟩
theorem s288k34(H:LHeap):CallL cfg 288 [.int .u64 34] H (GoodS (fun s=>s.length<=3) H):=
 e288k34 _ () H fun i0 H1 _ _ H2 _ H3 _ hI=>⟨[51,52],H3,conv_from (slot_loadN (hI.slot 0 _ rfl).2.1 rfl (by decide) rfl),fun hI=>.mk hI.pres (by decide)⟩
theorem s288k35(H:LHeap):CallL cfg 288 [.int .u64 35] H (GoodS (fun s=>s.length<=3) H):=
 e288k35 _ () H fun i0 H1 _ _ H2 _ H3 _ hI=>⟨[51,53],H3,conv_from (slot_loadN (hI.slot 0 _ rfl).2.1 rfl (by decide) rfl),fun hI=>.mk hI.pres (by decide)⟩
theorem s288k36(H:LHeap):CallL cfg 288 [.int .u64 36] H (GoodS (fun s=>s.length<=3) H):=
 e288k36 _ () H fun i0 H1 _ _ H2 _ H3 _ hI=>⟨[51,54],H3,conv_from (slot_loadN (hI.slot 0 _ rfl).2.1 rfl (by decide) rfl),fun hI=>.mk hI.pres (by decide)⟩
theorem s288k37(H:LHeap):CallL cfg 288 [.int .u64 37] H (GoodS (fun s=>s.length<=3) H):=
 e288k37 _ () H fun i0 H1 _ _ H2 _ H3 _ hI=>⟨[51,55],H3,conv_from (slot_loadN (hI.slot 0 _ rfl).2.1 rfl (by decide) rfl),fun hI=>.mk hI.pres (by decide)⟩
theorem s288k38(H:LHeap):CallL cfg 288 [.int .u64 38] H (GoodS (fun s=>s.length<=3) H):=
 e288k38 _ () H fun i0 H1 _ _ H2 _ H3 _ hI=>⟨[51,56],H3,conv_from (slot_loadN (hI.slot 0 _ rfl).2.1 rfl (by decide) rfl),fun hI=>.mk hI.pres (by decide)⟩
theorem s288k39(H:LHeap):CallL cfg 288 [.int .u64 39] H (GoodS (fun s=>s.length<=3) H):=
 e288k39 _ () H fun i0 H1 _ _ H2 _ H3 _ hI=>⟨[51,57],H3,conv_from (slot_loadN (hI.slot 0 _ rfl).2.1 rfl (by decide) rfl),fun hI=>.mk hI.pres (by decide)⟩
theorem s288k40(H:LHeap):CallL cfg 288 [.int .u64 40] H (GoodS (fun s=>s.length<=3) H):=
 e288k40 _ () H fun i0 H1 _ _ H2 _ H3 _ hI=>⟨[52,48],H3,conv_from (slot_loadN (hI.slot 0 _ rfl).2.1 rfl (by decide) rfl),fun hI=>.mk hI.pres (by decide)⟩
theorem s288k41(H:LHeap):CallL cfg 288 [.int .u64 41] H (GoodS (fun s=>s.length<=3) H):=
 e288k41 _ () H fun i0 H1 _ _ H2 _ H3 _ hI=>⟨[52,49],H3,conv_from (slot_loadN (hI.slot 0 _ rfl).2.1 rfl (by decide) rfl),fun hI=>.mk hI.pres (by decide)⟩
theorem s288k42(H:LHeap):CallL cfg 288 [.int .u64 42] H (GoodS (fun s=>s.length<=3) H):=
 e288k42 _ () H fun i0 H1 _ _ H2 _ H3 _ hI=>⟨[52,50],H3,conv_from (slot_loadN (hI.slot 0 _ rfl).2.1 rfl (by decide) rfl),fun hI=>.mk hI.pres (by decide)⟩
theorem s288k43(H:LHeap):CallL cfg 288 [.int .u64 43] H (GoodS (fun s=>s.length<=3) H):=
 e288k43 _ () H fun i0 H1 _ _ H2 _ H3 _ hI=>⟨[52,51],H3,conv_from (slot_loadN (hI.slot 0 _ rfl).2.1 rfl (by decide) rfl),fun hI=>.mk hI.pres (by decide)⟩
theorem s288k44(H:LHeap):CallL cfg 288 [.int .u64 44] H (GoodS (fun s=>s.length<=3) H):=
 e288k44 _ () H fun i0 H1 _ _ H2 _ H3 _ hI=>⟨[52,52],H3,conv_from (slot_loadN (hI.slot 0 _ rfl).2.1 rfl (by decide) rfl),fun hI=>.mk hI.pres (by decide)⟩
theorem s288k45(H:LHeap):CallL cfg 288 [.int .u64 45] H (GoodS (fun s=>s.length<=3) H):=
 e288k45 _ () H fun i0 H1 _ _ H2 _ H3 _ hI=>⟨[52,53],H3,conv_from (slot_loadN (hI.slot 0 _ rfl).2.1 rfl (by decide) rfl),fun hI=>.mk hI.pres (by decide)⟩
theorem s288k46(H:LHeap):CallL cfg 288 [.int .u64 46] H (GoodS (fun s=>s.length<=3) H):=
 e288k46 _ () H fun i0 H1 _ _ H2 _ H3 _ hI=>⟨[52,54],H3,conv_from (slot_loadN (hI.slot 0 _ rfl).2.1 rfl (by decide) rfl),fun hI=>.mk hI.pres (by decide)⟩
theorem s288k47(H:LHeap):CallL cfg 288 [.int .u64 47] H (GoodS (fun s=>s.length<=3) H):=
 e288k47 _ () H fun i0 H1 _ _ H2 _ H3 _ hI=>⟨[52,55],H3,conv_from (slot_loadN (hI.slot 0 _ rfl).2.1 rfl (by decide) rfl),fun hI=>.mk hI.pres (by decide)⟩
theorem s288k48(H:LHeap):CallL cfg 288 [.int .u64 48] H (GoodS (fun s=>s.length<=3) H):=
 e288k48 _ () H fun i0 H1 _ _ H2 _ H3 _ hI=>⟨[52,56],H3,conv_from (slot_loadN (hI.slot 0 _ rfl).2.1 rfl (by decide) rfl),fun hI=>.mk hI.pres (by decide)⟩
theorem s288k49(H:LHeap):CallL cfg 288 [.int .u64 49] H (GoodS (fun s=>s.length<=3) H):=
 e288k49 _ () H fun i0 H1 _ _ H2 _ H3 _ hI=>⟨[52,57],H3,conv_from (slot_loadN (hI.slot 0 _ rfl).2.1 rfl (by decide) rfl),fun hI=>.mk hI.pres (by decide)⟩
theorem s288k50(H:LHeap):CallL cfg 288 [.int .u64 50] H (GoodS (fun s=>s.length<=3) H):=
 e288k50 _ () H fun i0 H1 _ _ H2 _ H3 _ hI=>⟨[53,48],H3,conv_from (slot_loadN (hI.slot 0 _ rfl).2.1 rfl (by decide) rfl),fun hI=>.mk hI.pres (by decide)⟩
theorem s288k51(H:LHeap):CallL cfg 288 [.int .u64 51] H (GoodS (fun s=>s.length<=3) H):=
 e288k51 _ () H fun i0 H1 _ _ H2 _ H3 _ hI=>⟨[53,49],H3,conv_from (slot_loadN (hI.slot 0 _ rfl).2.1 rfl (by decide) rfl),fun hI=>.mk hI.pres (by decide)⟩
theorem s288k52(H:LHeap):CallL cfg 288 [.int .u64 52] H (GoodS (fun s=>s.length<=3) H):=
 e288k52 _ () H fun i0 H1 _ _ H2 _ H3 _ hI=>⟨[53,50],H3,conv_from (slot_loadN (hI.slot 0 _ rfl).2.1 rfl (by decide) rfl),fun hI=>.mk hI.pres (by decide)⟩
theorem s288k53(H:LHeap):CallL cfg 288 [.int .u64 53] H (GoodS (fun s=>s.length<=3) H):=
 e288k53 _ () H fun i0 H1 _ _ H2 _ H3 _ hI=>⟨[53,51],H3,conv_from (slot_loadN (hI.slot 0 _ rfl).2.1 rfl (by decide) rfl),fun hI=>.mk hI.pres (by decide)⟩
theorem s288k54(H:LHeap):CallL cfg 288 [.int .u64 54] H (GoodS (fun s=>s.length<=3) H):=
 e288k54 _ () H fun i0 H1 _ _ H2 _ H3 _ hI=>⟨[53,52],H3,conv_from (slot_loadN (hI.slot 0 _ rfl).2.1 rfl (by decide) rfl),fun hI=>.mk hI.pres (by decide)⟩
theorem s288k55(H:LHeap):CallL cfg 288 [.int .u64 55] H (GoodS (fun s=>s.length<=3) H):=
 e288k55 _ () H fun i0 H1 _ _ H2 _ H3 _ hI=>⟨[53,53],H3,conv_from (slot_loadN (hI.slot 0 _ rfl).2.1 rfl (by decide) rfl),fun hI=>.mk hI.pres (by decide)⟩
theorem s288k56(H:LHeap):CallL cfg 288 [.int .u64 56] H (GoodS (fun s=>s.length<=3) H):=
 e288k56 _ () H fun i0 H1 _ _ H2 _ H3 _ hI=>⟨[53,54],H3,conv_from (slot_loadN (hI.slot 0 _ rfl).2.1 rfl (by decide) rfl),fun hI=>.mk hI.pres (by decide)⟩
theorem s288k57(H:LHeap):CallL cfg 288 [.int .u64 57] H (GoodS (fun s=>s.length<=3) H):=
 e288k57 _ () H fun i0 H1 _ _ H2 _ H3 _ hI=>⟨[53,55],H3,conv_from (slot_loadN (hI.slot 0 _ rfl).2.1 rfl (by decide) rfl),fun hI=>.mk hI.pres (by decide)⟩
theorem s288k58(H:LHeap):CallL cfg 288 [.int .u64 58] H (GoodS (fun s=>s.length<=3) H):=
 e288k58 _ () H fun i0 H1 _ _ H2 _ H3 _ hI=>⟨[53,56],H3,conv_from (slot_loadN (hI.slot 0 _ rfl).2.1 rfl (by decide) rfl),fun hI=>.mk hI.pres (by decide)⟩
theorem s288k59(H:LHeap):CallL cfg 288 [.int .u64 59] H (GoodS (fun s=>s.length<=3) H):=
 e288k59 _ () H fun i0 H1 _ _ H2 _ H3 _ hI=>⟨[53,57],H3,conv_from (slot_loadN (hI.slot 0 _ rfl).2.1 rfl (by decide) rfl),fun hI=>.mk hI.pres (by decide)⟩
theorem s288k60(H:LHeap):CallL cfg 288 [.int .u64 60] H (GoodS (fun s=>s.length<=3) H):=
 e288k60 _ () H fun i0 H1 _ _ H2 _ H3 _ hI=>⟨[54,48],H3,conv_from (slot_loadN (hI.slot 0 _ rfl).2.1 rfl (by decide) rfl),fun hI=>.mk hI.pres (by decide)⟩
theorem s288k61(H:LHeap):CallL cfg 288 [.int .u64 61] H (GoodS (fun s=>s.length<=3) H):=
 e288k61 _ () H fun i0 H1 _ _ H2 _ H3 _ hI=>⟨[54,49],H3,conv_from (slot_loadN (hI.slot 0 _ rfl).2.1 rfl (by decide) rfl),fun hI=>.mk hI.pres (by decide)⟩
theorem s288k62(H:LHeap):CallL cfg 288 [.int .u64 62] H (GoodS (fun s=>s.length<=3) H):=
 e288k62 _ () H fun i0 H1 _ _ H2 _ H3 _ hI=>⟨[54,50],H3,conv_from (slot_loadN (hI.slot 0 _ rfl).2.1 rfl (by decide) rfl),fun hI=>.mk hI.pres (by decide)⟩
theorem s288k63(H:LHeap):CallL cfg 288 [.int .u64 63] H (GoodS (fun s=>s.length<=3) H):=
 e288k63 _ () H fun i0 H1 _ _ H2 _ H3 _ hI=>⟨[54,51],H3,conv_from (slot_loadN (hI.slot 0 _ rfl).2.1 rfl (by decide) rfl),fun hI=>.mk hI.pres (by decide)⟩
theorem s288k64(H:LHeap):CallL cfg 288 [.int .u64 64] H (GoodS (fun s=>s.length<=3) H):=
 e288k64 _ () H fun i0 H1 _ _ H2 _ H3 _ hI=>⟨[54,52],H3,conv_from (slot_loadN (hI.slot 0 _ rfl).2.1 rfl (by decide) rfl),fun hI=>.mk hI.pres (by decide)⟩
theorem s288(n:Int)(h:1<=n/\n<=64)(H:LHeap):CallL cfg 288 [.int .u64 n] H (GoodS (fun s=>s.length<=3) H):=by
 have:n=1\/n=2\/n=3\/n=4\/n=5\/n=6\/n=7\/n=8\/n=9\/n=10\/n=11\/n=12\/n=13\/n=14\/n=15\/n=16\/n=17\/n=18\/n=19\/n=20\/n=21\/n=22\/n=23\/n=24\/n=25\/n=26\/n=27\/n=28\/n=29\/n=30\/n=31\/n=32\/n=33\/n=34\/n=35\/n=36\/n=37\/n=38\/n=39\/n=40\/n=41\/n=42\/n=43\/n=44\/n=45\/n=46\/n=47\/n=48\/n=49\/n=50\/n=51\/n=52\/n=53\/n=54\/n=55\/n=56\/n=57\/n=58\/n=59\/n=60\/n=61\/n=62\/n=63\/n=64:=by omega
 rcases this with rfl |rfl |rfl |rfl |rfl |rfl |rfl |rfl |rfl |rfl |rfl |rfl |rfl |rfl |rfl |rfl |rfl |rfl |rfl |rfl |rfl |rfl |rfl |rfl |rfl |rfl |rfl |rfl |rfl |rfl |rfl |rfl |rfl |rfl |rfl |rfl |rfl |rfl |rfl |rfl |rfl |rfl |rfl |rfl |rfl |rfl |rfl |rfl |rfl |rfl |rfl |rfl |rfl |rfl |rfl |rfl |rfl |rfl |rfl |rfl |rfl |rfl |rfl |rfl
 ·exact s288k1 H
 ·exact s288k2 H
 ·exact s288k3 H
 ·exact s288k4 H
 ·exact s288k5 H
 ·exact s288k6 H
 ·exact s288k7 H
 ·exact s288k8 H
 ·exact s288k9 H
 ·exact s288k10 H
 ·exact s288k11 H
 ·exact s288k12 H
 ·exact s288k13 H
 ·exact s288k14 H
 ·exact s288k15 H
 ·exact s288k16 H
 ·exact s288k17 H
 ·exact s288k18 H
 ·exact s288k19 H
 ·exact s288k20 H
 ·exact s288k21 H
 ·exact s288k22 H
 ·exact s288k23 H
 ·exact s288k24 H
 ·exact s288k25 H
 ·exact s288k26 H
 ·exact s288k27 H
 ·exact s288k28 H
 ·exact s288k29 H
 ·exact s288k30 H
 ·exact s288k31 H
 ·exact s288k32 H
 ·exact s288k33 H
 ·exact s288k34 H
 ·exact s288k35 H
 ·exact s288k36 H
 ·exact s288k37 H
 ·exact s288k38 H
 ·exact s288k39 H
 ·exact s288k40 H
 ·exact s288k41 H
 ·exact s288k42 H
 ·exact s288k43 H
 ·exact s288k44 H
 ·exact s288k45 H
 ·exact s288k46 H
 ·exact s288k47 H
 ·exact s288k48 H
 ·exact s288k49 H
 ·exact s288k50 H
 ·exact s288k51 H
 ·exact s288k52 H
 ·exact s288k53 H
 ·exact s288k54 H
 ·exact s288k55 H
 ·exact s288k56 H
 ·exact s288k57 H
 ·exact s288k58 H
 ·exact s288k59 H
 ·exact s288k60 H
 ·exact s288k61 H
 ·exact s288k62 H
 ·exact s288k63 H
 ·exact s288k64 H
theorem e255a(R:RR)(x0:ValC)(H:LHeap)
(h:NX H fun i1 H2=>Cd (x0.kind !=2) (Cd (!(x0.s==[])) (R0 H [Sk i1 (ValC.cs x0) 67] H2 R (.bool false)) (Inv [] H [Sk i1 (ValC.cs x0) 67] H2->CL 260 [ValC.lv x0] H2 (.cust Unit (fun (_:Unit)=>(.iface 297 (.agg []):LV))) fun S3=>∀(y4:Unit) H5,S3 (.iface 297 (.agg [])) H5->NX H5 fun i6 H7=>PX [i6] H7 fun H8=>R0 H [Sk i1 (ValC.cs x0) 67,Sk i6 [] 297] H8 R (.bool (x0.n==0)))) (Inv [] H [Sk i1 (ValC.cs x0) 67] H2->CL 260 [ValC.lv x0] H2 (.cust Unit (fun (_:Unit)=>(.iface 297 (.agg []):LV))) fun S9=>∀(y10:Unit) H11,S9 (.iface 297 (.agg [])) H11->NX H11 fun i12 H13=>PX [i12] H13 fun H14=>R0 H [Sk i1 (ValC.cs x0) 67,Sk i12 [] 297] H14 R (.bool (x0.n==0)))):
 CallL cfg 255 [ValC.lv x0] H R:=call_wt0 (k:=(.go 2 (.boxP (.go 9 (.cases 11 (.go 5 (.cases 15 (.go 5 (.facts .ret)) (.go 6 (.facts (.call (.cust Unit (fun (_:Unit)=>(.iface 297 (.agg []):LV))) (.go 11 (.boxP (.putP (.go 8 (.facts .ret)))))))))) (.go 11 (.facts (.call (.cust Unit (fun (_:Unit)=>(.iface 297 (.agg []):LV))) (.go 11 (.boxP (.putP (.go 8 (.facts .ret))))))))))))) (by kernel_rfl) h
theorem e255b(R:RR)(x0:ValC)(H:LHeap)
(h:NX H fun i1 H2=>Cd (x0.kind !=2) (Cd (!(x0.s==[])) (R0 H [Sk i1 (ValC.cs x0) 67] H2 R (.bool false)) (Inv [] H [Sk i1 (ValC.cs x0) 67] H2->CL 260 [ValC.lv x0] H2 (.cust Int (fun (n:Int)=>(.iface 280 (I6 n):LV))) fun S3=>∀y4 H5,S3 (.iface 280 (I6 y4)) H5->Inv [] H [Sk i1 (ValC.cs x0) 67] H5->CL 294 [I6 y4] H5 .bool fun S6=>∀b7 H8,S6 (.bool b7) H8->R0 H [Sk i1 (ValC.cs x0) 67] H8 R (.bool b7))) (Inv [] H [Sk i1 (ValC.cs x0) 67] H2->CL 260 [ValC.lv x0] H2 (.cust Int (fun (n:Int)=>(.iface 280 (I6 n):LV))) fun S9=>∀y10 H11,S9 (.iface 280 (I6 y10)) H11->Inv [] H [Sk i1 (ValC.cs x0) 67] H11->CL 294 [I6 y10] H11 .bool fun S12=>∀b13 H14,S12 (.bool b13) H14->R0 H [Sk i1 (ValC.cs x0) 67] H14 R (.bool b13))):
 CallL cfg 255 [ValC.lv x0] H R:=call_wt0 (k:=(.go 2 (.boxP (.go 9 (.cases 11 (.go 5 (.cases 15 (.go 5 (.facts .ret)) (.go 6 (.facts (.call (.cust Int (fun (n:Int)=>(.iface 280 (I6 n):LV))) (.go 23 (.facts (.call .bool (.go 2 (.facts .ret)))))))))) (.go 11 (.facts (.call (.cust Int (fun (n:Int)=>(.iface 280 (I6 n):LV))) (.go 23 (.facts (.call .bool (.go 2 (.facts .ret))))))))))))) (by kernel_rfl) h
theorem e255c(R:RR)(x0:ValC)(H:LHeap)
(h:NX H fun i1 H2=>Cd (x0.kind !=2) (Cd (!(x0.s==[])) (R0 H [Sk i1 (ValC.cs x0) 67] H2 R (.bool false)) (Inv [] H [Sk i1 (ValC.cs x0) 67] H2->CL 260 [ValC.lv x0] H2 (.cust (List UInt8) (fun (s:List UInt8)=>(.iface 281 (.str s):LV))) fun S3=>∀y4 H5,S3 (.iface 281 (.str y4)) H5->Cd (x0.n==0) (R0 H [Sk i1 (ValC.cs x0) 67] H5 R (.bool (decide ((y4.length:Int)<=255)))) (R0 H [Sk i1 (ValC.cs x0) 67] H5 R (.bool false)))) (Inv [] H [Sk i1 (ValC.cs x0) 67] H2->CL 260 [ValC.lv x0] H2 (.cust (List UInt8) (fun (s:List UInt8)=>(.iface 281 (.str s):LV))) fun S6=>∀y7 H8,S6 (.iface 281 (.str y7)) H8->Cd (x0.n==0) (R0 H [Sk i1 (ValC.cs x0) 67] H8 R (.bool (decide ((y7.length:Int)<=255)))) (R0 H [Sk i1 (ValC.cs x0) 67] H8 R (.bool false)))):
 CallL cfg 255 [ValC.lv x0] H R:=call_wt0 (k:=(.go 2 (.boxP (.go 9 (.cases 11 (.go 5 (.cases 15 (.go 5 (.facts .ret)) (.go 6 (.facts (.call (.cust (List UInt8) (fun (s:List UInt8)=>(.iface 281 (.str s):LV))) (.go 33 (.cases 35 (.go 6 (.facts .ret)) (.go 6 (.facts .ret))))))))) (.go 11 (.facts (.call (.cust (List UInt8) (fun (s:List UInt8)=>(.iface 281 (.str s):LV))) (.go 33 (.cases 35 (.go 6 (.facts .ret)) (.go 6 (.facts .ret)))))))))))) (by kernel_rfl) h
theorem e255d(R:RR)(x0:ValC)(H:LHeap)
(h:NX H fun i1 H2=>Cd (x0.kind !=2) (Cd (!(x0.s==[])) (R0 H [Sk i1 (ValC.cs x0) 67] H2 R (.bool false)) (Inv [] H [Sk i1 (ValC.cs x0) 67] H2->CL 260 [ValC.lv x0] H2 (.cust Bool (fun (b:Bool)=>(.iface 282 (.bool b):LV))) fun S3=>∀y4 H5,S3 (.iface 282 (.bool y4)) H5->Cd (x0.n==0) (R0 H [Sk i1 (ValC.cs x0) 67] H5 R (.bool true)) (R0 H [Sk i1 (ValC.cs x0) 67] H5 R (.bool (x0.n==1))))) (Inv [] H [Sk i1 (ValC.cs x0) 67] H2->CL 260 [ValC.lv x0] H2 (.cust Bool (fun (b:Bool)=>(.iface 282 (.bool b):LV))) fun S6=>∀y7 H8,S6 (.iface 282 (.bool y7)) H8->Cd (x0.n==0) (R0 H [Sk i1 (ValC.cs x0) 67] H8 R (.bool true)) (R0 H [Sk i1 (ValC.cs x0) 67] H8 R (.bool (x0.n==1))))):
 CallL cfg 255 [ValC.lv x0] H R:=call_wt0 (k:=(.go 2 (.boxP (.go 9 (.cases 11 (.go 5 (.cases 15 (.go 5 (.facts .ret)) (.go 6 (.facts (.call (.cust Bool (fun (b:Bool)=>(.iface 282 (.bool b):LV))) (.go 40 (.cases 46 (.go 6 (.facts .ret)) (.go 6 (.facts .ret))))))))) (.go 11 (.facts (.call (.cust Bool (fun (b:Bool)=>(.iface 282 (.bool b):LV))) (.go 40 (.cases 46 (.go 6 (.facts .ret)) (.go 6 (.facts .ret)))))))))))) (by kernel_rfl) h
theorem e255e(R:RR)(x0:ValC)(H:LHeap)
(h:NX H fun i1 H2=>Cd (x0.kind !=2) (Cd (!(x0.s==[])) (R0 H [Sk i1 (ValC.cs x0) 67] H2 R (.bool false)) (Inv [] H [Sk i1 (ValC.cs x0) 67] H2->CL 260 [ValC.lv x0] H2 (.cust Int (fun (n:Int)=>(.iface 283 (I6 n):LV))) fun S3=>∀y4 H5,S3 (.iface 283 (I6 y4)) H5->Dc (y4>=1) (R0 H [Sk i1 (ValC.cs x0) 67] H5 R (.bool (decide (y4<=8)))) (R0 H [Sk i1 (ValC.cs x0) 67] H5 R (.bool false)))) (Inv [] H [Sk i1 (ValC.cs x0) 67] H2->CL 260 [ValC.lv x0] H2 (.cust Int (fun (n:Int)=>(.iface 283 (I6 n):LV))) fun S6=>∀y7 H8,S6 (.iface 283 (I6 y7)) H8->Dc (y7>=1) (R0 H [Sk i1 (ValC.cs x0) 67] H8 R (.bool (decide (y7<=8)))) (R0 H [Sk i1 (ValC.cs x0) 67] H8 R (.bool false)))):
 CallL cfg 255 [ValC.lv x0] H R:=call_wt0 (k:=(.go 2 (.boxP (.go 9 (.cases 11 (.go 5 (.cases 15 (.go 5 (.facts .ret)) (.go 6 (.facts (.call (.cust Int (fun (n:Int)=>(.iface 283 (I6 n):LV))) (.go 46 (.cases 56 (.go 5 (.facts .ret)) (.go 5 (.facts .ret))))))))) (.go 11 (.facts (.call (.cust Int (fun (n:Int)=>(.iface 283 (I6 n):LV))) (.go 46 (.cases 56 (.go 5 (.facts .ret)) (.go 5 (.facts .ret)))))))))))) (by kernel_rfl) h
theorem e255f(R:RR)(x0:ValC)(H:LHeap)
(h:NX H fun i1 H2=>Cd (x0.kind !=2) (Cd (!(x0.s==[])) (R0 H [Sk i1 (ValC.cs x0) 67] H2 R (.bool false)) (Inv [] H [Sk i1 (ValC.cs x0) 67] H2->CL 260 [ValC.lv x0] H2 (.cust Unit (fun (_:Unit)=>(.nilIface:LV))) fun S3=>∀(y4:Unit) H5,S3 LV.nilIface H5->R0 H [Sk i1 (ValC.cs x0) 67] H5 R (.bool false))) (Inv [] H [Sk i1 (ValC.cs x0) 67] H2->CL 260 [ValC.lv x0] H2 (.cust Unit (fun (_:Unit)=>(.nilIface:LV))) fun S6=>∀(y7:Unit) H8,S6 LV.nilIface H8->R0 H [Sk i1 (ValC.cs x0) 67] H8 R (.bool false))):
 CallL cfg 255 [ValC.lv x0] H R:=call_wt0 (k:=(.go 2 (.boxP (.go 9 (.cases 11 (.go 5 (.cases 15 (.go 5 (.facts .ret)) (.go 6 (.facts (.call (.cust Unit (fun (_:Unit)=>(.nilIface:LV))) (.go 43 (.facts .ret))))))) (.go 11 (.facts (.call (.cust Unit (fun (_:Unit)=>(.nilIface:LV))) (.go 43 (.facts .ret)))))))))) (by kernel_rfl) h
theorem s287(n:Int)(H:LHeap)(h:0<=n)(h':n<=9223372036854775807):CallL cfg 287 [.int .i64 n] H (Ret (.int .u64 n) H):=by
 refine e287t _ n H ⟨fun h=> ?_,fun _ hI=>⟨?_,hI.pres⟩⟩
 ·simp at h;omega
 ·congr 1;rw [lwrap_eq];simp only [IntKind.wrap,IntKind.signed,IntKind.bits,Bool.false_and,Bool.false_eq_true,if_false];omega
theorem s295(n:Int)(h:1<=n/\n<=64)(H:LHeap):CallL cfg 295 [.int .i64 n] H (GoodS (fun s=>s.length<=3) H):=by
 have hw:lwrap .i64 (n*10000)=n*10000:=lwrap_small (by omega) (by omega);have hd:Int.tdiv (n*10000) 10000=n:=by rw [Int.tdiv_eq_ediv_of_nonneg (by omega)];omega
 have hm:Int.tmod (n*10000) 10000=0:=by rw [Int.tmod_eq_emod_of_nonneg (by omega)];omega
 have hu:lwrap .u64 n=n:=by
  rw [lwrap_eq];simp only [IntKind.wrap,IntKind.signed,IntKind.bits,Bool.false_and,Bool.false_eq_true,if_false];omega
 have s245:∀H,CallL cfg 245 [.int .i64 (n*10000)] H (GoodS (fun s=>s.length<=3) H):=by
  intro H;refine e245t _ (n*10000) H fun hI=>⟨_,s287 (n*10000) H (by omega) (by omega),Ret.use ⟨_,rfl⟩,fun n2 H3 ⟨e,_⟩ hI=> ?_⟩;cases e;rw [hd,hm,hu];refine ⟨_,s288 n h H3,GoodS.sh,fun s5 H6 ⟨_,t,e,ht⟩=>⟨fun h0=> ?_,fun _=>⟨fun h0=> ?_,fun _ hI=>.mk hI.pres ?_⟩⟩⟩
  ·simp at h0
  ·simp at h0;omega
  ·cases e;exact ht
 refine e295t _ n H fun hI=> ?_;rw [hw];refine ⟨_,s245 H,GoodS.sh,fun s2 H3 ⟨_,t,e,ht⟩ hI=>.mk hI.pres ?_⟩;cases e;exact ht
theorem encode_len(i:Int):(Array.toList (ByteArray.data (Utf8.encode i))).length<=4:=by
 have h:(Utf8.encode i).size<=4:=by
  unfold Utf8.encode;simp only
  repeat' split
  all_goals simp [ByteArray.size]
 rw [Array.length_toList];exact h
theorem s262(r:RefC)(H:LHeap)(h:1<=r.row/\r.row<=64):CallL cfg 262 [r.lv] H (GoodS (fun s=>s.length<=20) H):=by
 have he:=encode_len (lwrap .i32 (lwrap .i64 ((lwrap .i64 ((65:Int)+r.col))-(1:Int))));have c:=fun H=>s295 r.row h H;refine e262t _ r H fun i1 H2 _ _=>⟨fun _=>⟨fun _=>⟨by omega,by simp only [List.length_append,List.length_cons,List.length_nil];omega,rfl,fun hI=>⟨_,c H2,GoodS.sh,fun s7 H8 ⟨_,t,e,ht⟩=> ?_⟩⟩,fun _=>⟨by omega,by simp only [List.length_append,List.length_cons,List.length_nil];omega,rfl,fun hI=>⟨_,c H2,GoodS.sh,fun s7 H8 ⟨_,t,e,ht⟩=> ?_⟩⟩⟩,fun _=>⟨fun _=>⟨by omega,by simp only [List.length_append,List.length_cons,List.length_nil];omega,rfl,fun hI=>⟨_,c H2,GoodS.sh,fun s7 H8 ⟨_,t,e,ht⟩=> ?_⟩⟩,fun _=>⟨by omega,by simp only [List.length_append,List.length_cons,List.length_nil];omega,rfl,fun hI=>⟨_,c H2,GoodS.sh,fun s7 H8 ⟨_,t,e,ht⟩=> ?_⟩⟩⟩⟩
 all_goals
  cases e;exact ⟨by simp only [List.length_append,List.length_cons,List.length_nil];omega,rfl,fun hI=>.mk hI.pres (by simp only [List.length_append,List.length_cons,List.length_nil];omega)⟩
theorem nameF_len{s:List UInt8}(h:nameF s=true):s.length<=16:=by
 cases s with
 |nil=>simp
 |cons b t=>
  unfold nameF at h;simp only at h;split at h
  ·cases h
  ·omega
theorem refF_ok{r:RefC}(h:refF r=true):(1<=r.row/\r.row<=64)/\r.sheet.length<=16/\r.book.length<=16:=by
 unfold refF inF at h;simp only [Bool.and_eq_true,decide_eq_true_eq,Bool.or_eq_true] at h;obtain ⟨⟨⟨h1,_⟩,h3⟩,h4⟩:=h;refine ⟨⟨h1.1,h1.2.1⟩,?_,?_⟩
 ·rcases h3 with h |h
  ·have:r.sheet=[]:=by simpa using h
   rw [this];simp
  ·exact nameF_len h
 ·rcases h4 with h |h
  ·have:r.book=[]:=by simpa using h
   rw [this];simp
  ·exact nameF_len h
theorem s195(r:RefC)(H:LHeap):CallL cfg 195 [r.lv] H (GoodS (fun t=>t.length<=100) H):=by
 refine e195t _ r H fun i1 H2 _ _ hI=>⟨_,s256 r H2,Ret.use ⟨_,rfl⟩,fun b4 H5 ⟨e4,_⟩=>⟨fun _ hI=>.mk hI.pres (by simp),fun h4 hI=> ?_⟩⟩;have hr:refF r=true:=by cases e4;simpa using h4
 obtain ⟨hrow,h1,h2⟩:=refF_ok hr;refine ⟨_,s262 r H5 hrow,GoodS.sh,fun s7 H8 ⟨_,t,e,ht⟩=> ?_⟩;cases e;refine ⟨fun _=>⟨by omega,by simp;omega,fun _=>⟨by omega,by simp;omega,by simp;omega,fun hI=>.mk hI.pres (by simp;omega)⟩,fun _ hI=>.mk hI.pres (by simp;omega)⟩,fun _=>⟨fun _=>⟨by omega,by simp;omega,by simp;omega,fun hI=>.mk hI.pres (by simp;omega)⟩,fun _ hI=>.mk hI.pres (by omega)⟩⟩
def areaF(r t:RefC):Bool:=refF r&&(refF t&&((t.book==[])&&(t.sheet==[])))
theorem s196(r t:RefC)(H:LHeap):CallL cfg 196 [r.lv,t.lv] H (GoodS (fun s=>(!(s==[]))=areaF r t) H):=by
 refine e196t _ r t H fun i2 H3 _ _ i4 H5 _ _ i6 H7 _ _ H8 _ H9 _ H10 _ hI=>⟨_,s256 r H10,Ret.use ⟨_,rfl⟩,fun b12 H13 ⟨e12,_⟩=>⟨fun h hI=>.mk hI.pres ?_,fun h12 hI=>⟨_,s256 t H13,Ret.use ⟨_,rfl⟩,fun b15 H16 ⟨e15,_⟩=>⟨fun h hI=>.mk hI.pres ?_,fun h15=>⟨fun h hI=>.mk hI.pres ?_,fun h=>⟨rfl,fun hI=> ?_⟩⟩⟩⟩⟩⟩
 ·cases e12;have:refF r=false:=by simpa using h
  simp [areaF,this]
 ·cases e12;cases e15;have:refF t=false:=by simpa using h
  simp [areaF,this]
 ·have:((t.book==[])&&(t.sheet==[]))=false:=by
   cases hb:(t.book==[])<;>cases hs:(t.sheet==[])<;>simp_all
  unfold areaF;rw [this];simp
 ·have hr:refF r=true:=by cases e12;simpa using h12
  have ht:refF t=true:=by cases e15;simpa using h15
  have hz:((t.book==[])&&(t.sheet==[]))=true:=by simpa using h
  have ha:areaF r t=true:=by unfold areaF;rw [hr,ht,hz];rfl
  refine ⟨_,s195 r H16,GoodS.sh,fun s20 H21 ⟨_,u,e,hu⟩=> ?_⟩;cases e;refine ⟨by omega,rfl,fun hI=>⟨_,s262 t H21 (refF_ok ht).1,GoodS.sh,fun s25 H26 ⟨_,w,e,hw⟩=> ?_⟩⟩;cases e;exact ⟨by simp;omega,fun hI=>.mk hI.pres (by rw [ha];simp)⟩
def ownV(v:ValC):LV:=
 if v.kind==0 then .iface 297 (.agg []) else if v.kind==1 then .iface 280 (.int .i64 v.n) else if v.kind==2 then .iface 281 (.str v.s) else if v.kind==3 then .iface 282 (.bool (v.n != 0)) else if v.kind==4 then .iface 283 (.int .i64 v.n) else .nilIface
theorem s260(v:ValC)(H:LHeap):CallL cfg 260 [v.lv] H (Ret (ownV v) H):=by
 refine e260t _ v H fun i1 H2 _ _=>⟨fun h0 hI=>⟨?_,hI.pres⟩,fun h0=>⟨fun h1 hI=>⟨?_,hI.pres⟩,fun h1=>⟨fun h2 hI=>⟨?_,hI.pres⟩,fun h2=>⟨fun h3 hI=>⟨?_,hI.pres⟩,fun h3=>⟨fun h4 hI=>⟨?_,hI.pres⟩,fun h4 hI=>⟨?_,hI.pres⟩⟩⟩⟩⟩⟩
 all_goals simp only [ownV, *,if_true,Bool.false_eq_true,if_false]
def valF(v:ValC):Bool:=
 if (v.kind != 2)=true/\(!(v.s==[]))=true then false
 else if v.kind==0 then v.n==0 else if v.kind==1 then numF v.n else if v.kind==2 then (v.n==0)&&decide (((v.s.length:Nat):Int)<=255) else if v.kind==3 then (v.n==0)||(v.n==1) else if v.kind==4 then decide (v.n>=1)&&decide (v.n<=8) else false
theorem valF_no{v:ValC}(h:(v.kind != 2)=true)(k:(!(v.s==[]))=true):valF v=false:=by unfold valF;rw [if_pos ⟨h,k⟩]
theorem valF_s{v:ValC}(k:(!(v.s==[]))=false):valF v=(if v.kind==0 then v.n==0 else if v.kind==1 then numF v.n else if v.kind==2 then (v.n==0)&&decide (((v.s.length:Nat):Int)<=255) else if v.kind==3 then (v.n==0)||(v.n==1) else if v.kind==4 then decide (v.n>=1)&&decide (v.n<=8) else false):=by
 unfold valF;rw [if_neg (fun h=>by rw [k] at h;cases h.2)]
theorem valF_k{v:ValC}(k:(v.kind != 2)=false):valF v=((v.n==0)&&decide (((v.s.length:Nat):Int)<=255)):=by
 have:v.kind=2:=by simpa using k
 unfold valF;rw [if_neg (fun h=>by rw [k] at h;cases h.1),this];rfl
theorem s255(v:ValC)(H:LHeap):CallL cfg 255 [v.lv] H (Ret (.bool (valF v)) H):=by
 have own:∀{w:LV} (H:LHeap),ownV v=w->CallL cfg 260 [v.lv] H (Ret w H):=fun H e=>e▸s260 v H;by_cases k0:v.kind=0
 ·have ho:ownV v=.iface 297 (.agg []):=by simp [ownV,k0]
  refine e255a _ v H fun i1 H2 _ _=>⟨fun hk=>⟨fun hs hI=>⟨by rw [valF_no hk hs],hI.pres⟩,fun hs hI=>⟨_,own H2 ho,Ret.use ⟨(),rfl⟩,fun y H5 _ i6 H7 _ _ H8 _ hI=>⟨?_,hI.pres⟩⟩⟩,fun hk=> ?_⟩
  ·rw [valF_s hs,k0];rfl
  ·rw [k0] at hk;cases hk
 by_cases k1:v.kind=1
 ·have ho:ownV v=.iface 280 (.int .i64 v.n):=by simp [ownV,k1]
  refine e255b _ v H fun i1 H2 _ _=>⟨fun hk=>⟨fun hs hI=>⟨by rw [valF_no hk hs],hI.pres⟩,fun hs hI=>⟨_,own H2 ho,Ret.use ⟨v.n,rfl⟩,fun y H5 ⟨e,_⟩ hI=>⟨_,s294 y H5,Ret.use ⟨_,rfl⟩,fun b H8 ⟨e2,_⟩ hI=>⟨?_,hI.pres⟩⟩⟩⟩,fun hk=> ?_⟩
  ·cases e;cases e2;rw [valF_s hs,k1];rfl
  ·rw [k1] at hk;cases hk
 by_cases k2:v.kind=2
 ·have ho:ownV v=.iface 281 (.str v.s):=by simp [ownV,k2]
  refine e255c _ v H fun i1 H2 _ _=>⟨fun hk=> ?_,fun hk hI=>⟨_,own H2 ho,Ret.use ⟨v.s,rfl⟩,fun y H5 ⟨e,_⟩=>⟨fun hn hI=>⟨?_,hI.pres⟩,fun hn hI=>⟨?_,hI.pres⟩⟩⟩⟩
  ·rw [k2] at hk;cases hk
  ·cases e;rw [valF_k hk,hn];rfl
  ·cases e;rw [valF_k hk,hn];rfl
 by_cases k3:v.kind=3
 ·have ho:ownV v=.iface 282 (.bool (v.n != 0)):=by simp [ownV,k3]
  refine e255d _ v H fun i1 H2 _ _=>⟨fun hk=>⟨fun hs hI=>⟨by rw [valF_no hk hs],hI.pres⟩,fun hs hI=>⟨_,own H2 ho,Ret.use ⟨_,rfl⟩,fun y H5 _=>⟨fun hn hI=>⟨?_,hI.pres⟩,fun hn hI=>⟨?_,hI.pres⟩⟩⟩⟩,fun hk=> ?_⟩
  ·rw [valF_s hs,k3,hn];rfl
  ·rw [valF_s hs,k3,hn];rfl
  ·rw [k3] at hk;cases hk
 by_cases k4:v.kind=4
 ·have ho:ownV v=.iface 283 (.int .i64 v.n):=by simp [ownV,k4]
  refine e255e _ v H fun i1 H2 _ _=>⟨fun hk=>⟨fun hs hI=>⟨by rw [valF_no hk hs],hI.pres⟩,fun hs hI=>⟨_,own H2 ho,Ret.use ⟨v.n,rfl⟩,fun y H5 ⟨e,_⟩=>⟨fun hn hI=>⟨?_,hI.pres⟩,fun hn hI=>⟨?_,hI.pres⟩⟩⟩⟩,fun hk=> ?_⟩
  ·cases e;rw [valF_s hs,k4,hn];rfl
  ·cases e;rw [valF_s hs,k4,hn];rfl
  ·rw [k4] at hk;cases hk
 ·have f0:(v.kind==0)=false:=by simpa using k0
  have f1:(v.kind==1)=false:=by simpa using k1
  have f2:(v.kind==2)=false:=by simpa using k2
  have f3:(v.kind==3)=false:=by simpa using k3
  have f4:(v.kind==4)=false:=by simpa using k4
  have ho:ownV v=.nilIface:=by simp [ownV,f0,f1,f2,f3,f4]
  refine e255f _ v H fun i1 H2 _ _=>⟨fun hk=>⟨fun hs hI=>⟨by rw [valF_no hk hs],hI.pres⟩,fun hs hI=>⟨_,own H2 ho,Ret.use ⟨(),rfl⟩,fun y H5 _ hI=>⟨?_,hI.pres⟩⟩⟩,fun hk=> ?_⟩
  ·rw [valF_s hs,f0,f1,f2,f3,f4];rfl
  ·simp at hk;omega
def bindsF(s:List UInt8):Int:=
 if s==[61] then 1 else if s==[60,62] then 1 else if s==[60] then 1 else if s==[60,61] then 1 else if s==[62] then 1 else if s==[62,61] then 1 else if s==[38] then 2 else if s==[43] then 3 else if s==[45] then 3 else if s==[42] then 4 else if s==[47] then 4 else if s==[94] then 5 else 0
theorem s198(s:List UInt8)(H:LHeap):CallL cfg 198 [.str s] H (Ret (.int .i64 (bindsF s)) H):=by
 refine e198t _ s H ⟨fun h1 hI=>⟨?_,hI.pres⟩,fun h1=>⟨fun h2 hI=>⟨?_,hI.pres⟩,fun h2=>⟨fun h3 hI=>⟨?_,hI.pres⟩,fun h3=>⟨fun h4 hI=>⟨?_,hI.pres⟩,fun h4=>⟨fun h5 hI=>⟨?_,hI.pres⟩,fun h5=>⟨fun h6 hI=>⟨?_,hI.pres⟩,fun h6=>⟨fun h7 hI=>⟨?_,hI.pres⟩,fun h7=>⟨fun h8 hI=>⟨?_,hI.pres⟩,fun h8=>⟨fun h9 hI=>⟨?_,hI.pres⟩,fun h9=>⟨fun h10 hI=>⟨?_,hI.pres⟩,fun h10=>⟨fun h11 hI=>⟨?_,hI.pres⟩,fun h11=>⟨fun h12 hI=>⟨?_,hI.pres⟩,fun h12 hI=>⟨?_,hI.pres⟩⟩⟩⟩⟩⟩⟩⟩⟩⟩⟩⟩⟩
 all_goals simp only [bindsF, *,if_true,Bool.false_eq_true,if_false]
def trimZ(s:List UInt8):List UInt8:=(s.reverse.dropWhile (·==48)).reverse
theorem trimZ_nil:trimZ []=[]:=rfl
theorem trimZ_app(A:List UInt8)(b:UInt8):trimZ (A++[b])=if b==48 then trimZ A else A++[b]:=by
 unfold trimZ;rw [List.reverse_append,List.reverse_singleton,List.singleton_append,List.dropWhile_cons];split
 ·rfl
 ·simp
theorem byteAt_last(A:List UInt8)(b:UInt8):byteAt (A++[b]) (A.length:Int)=(b.toNat:Int):=by unfold byteAt;simp
theorem subStr_init(A:List UInt8)(b:UInt8):subStr (A++[b]) 0 (A.length:Int)=A:=by unfold subStr;simp
theorem last_len(A:List UInt8)(b:UInt8)(h:(A++[b]).length<=1000):lwrap .i64 ((((A++[b]).length:Nat):Int)-1)=(A.length:Int):=by
 simp only [List.length_append,List.length_singleton] at h |-;rw [lwrap_small (by omega) (by omega)];omega
theorem u8_48(b:UInt8):((b.toNat:Int)==(48:Int))=(b==48):=by
 rw [Bool.eq_iff_iff];simp only [beq_iff_eq];constructor
 ·intro h;exact UInt8.toNat_inj.1 (by have:b.toNat=48:=by omega
                                      rw [this];rfl)
 ·intro h;subst h;rfl
theorem rev_ind{P:List UInt8->Prop}(h0:P [])(h1:∀A b,P A->P (A++[b]))(s:List UInt8):P s:=by
 have:∀l:List UInt8,P l.reverse:=by
  intro l;induction l with
  |nil=>exact h0
  |cons b l ih=>rw [List.reverse_cons];exact h1 _ _ ih
 have h:=this s.reverse
 rwa [List.reverse_reverse] at h
theorem loop310(H0:LHeap)(s:List UInt8):s.length<=1000->∀(d:Nat->LV) (H:LHeap),GoesT cfg 310 (Ret (.str (trimZ s)) H0) [] H0 [] (L310t_0 d s 48) (loopAt cfg 310 0) H:=by
 induction s using rev_ind with
 |h0=>
  intro _ d H hin hI;exact g310t_0 _ H0 d [] 48 H ⟨fun h=>by simp at h,fun _ hI=>.mk hI.pres⟩ hin hI
 |h1 A b ih=>
  intro hl d H hin hI;refine g310t_0 _ H0 d (A++[b]) 48 H ⟨fun h=> ?_,fun h=>by simp at h⟩ hin hI;rw [last_len A b hl,byteAt_last,u8_48,subStr_init,trimZ_app];refine ⟨⟨by omega,by simp;omega⟩,fun hb=>⟨⟨by omega,by omega,by simp;omega⟩,fun d4=> ?_⟩,fun hb hI=> ?_⟩
  ·rw [if_pos hb];exact ih (by simp at hl;omega) d4 H
  ·rw [if_neg (by rw [hb];simp)];exact .mk hI.pres
theorem q289(s:List UInt8)(H:LHeap)(hs:s.length<=1000):CallL cfg 289 [.str s,.str [48]] H (Ret (.str (trimZ s)) H):=by
 refine e289q _ s H ⟨fun h hI=> ?_,fun _ hI=>⟨_,e310t _ s 48 H fun d=>loop310 H s hs d H,Ret.use ⟨_,rfl⟩,fun s1 H2 ⟨e,_⟩ hI=> ?_⟩⟩
 ·have:s=[]:=by simpa using h
  subst this;exact .mk hI.pres
 ·cases e;exact .mk hI.pres
def fracN(n:Nat):List UInt8:=trimZ ((decN (n%10000+10000)).drop 1)
def numT(n:Nat):List UInt8:=decN (n / 10000)++if fracN n=[] then [] else 46::fracN n
theorem digB_48(n:Nat):(digB n==48)=decide (n%10=0):=by
 unfold digB;rw [Bool.eq_iff_iff];simp only [beq_iff_eq,decide_eq_true_eq];constructor
 ·intro h;have:=congrArg UInt8.toNat h;rw [UInt8.toNat_ofNat'] at this;have e:(48:UInt8).toNat=48:=rfl;omega
 ·intro h;rw [h];rfl
theorem dec5(r:Nat)(h:r<10000):(decN (r+10000)).drop 1=[digB ((r+10000) / 10 / 10 / 10),digB ((r+10000) / 10 / 10),digB ((r+10000) / 10),digB (r+10000)]:=by
 rw [decN_ge (by omega),decN_ge (by omega),decN_ge (by omega),decN_ge (by omega),decN_lt (by omega)];rfl
theorem frac_nil(n:Nat):fracN n=[]↔n%10000=0:=by
 unfold fracN;rw [dec5 _ (by omega)];have e4:∀a b c d:UInt8,[a,b,c,d]=[a,b,c]++[d]:=fun _ _ _ _=>rfl;have e3:∀a b c:UInt8,[a,b,c]=[a,b]++[c]:=fun _ _ _=>rfl;have e2:∀a b:UInt8,[a,b]=[a]++[b]:=fun _ _=>rfl;have e1:∀a:UInt8,[a]=[]++[a]:=fun _=>rfl;rw [e4,trimZ_app,digB_48];constructor
 ·intro h;by_cases h1:(n%10000+10000)%10=0
  ·rw [if_pos (by simpa using h1),e3,trimZ_app,digB_48] at h;by_cases h2:(n%10000+10000) / 10%10=0
   ·rw [if_pos (by simpa using h2),e2,trimZ_app,digB_48] at h;by_cases h3:(n%10000+10000) / 10 / 10%10=0
    ·rw [if_pos (by simpa using h3),e1,trimZ_app,digB_48] at h;by_cases h4:(n%10000+10000) / 10 / 10 / 10%10=0
     ·omega
     ·rw [if_neg (by simpa using h4)] at h;simp at h
    ·rw [if_neg (by simpa using h3)] at h;simp at h
   ·rw [if_neg (by simpa using h2)] at h;simp at h
  ·rw [if_neg (by simpa using h1)] at h;simp at h
 ·intro h;rw [if_pos (by simp;omega),e3,trimZ_app,digB_48,if_pos (by simp;omega),e2,trimZ_app,digB_48,if_pos (by simp;omega),e1,trimZ_app,digB_48,if_pos (by simp;omega)];rfl
theorem trimZ_len(s:List UInt8):(trimZ s).length<=s.length:=by
 unfold trimZ;rw [List.length_reverse];have:=(List.dropWhile_suffix (l:=s.reverse) (·==(48:UInt8))).length_le
 rwa [List.length_reverse] at this
theorem frac_len(n:Nat):(fracN n).length<=4:=by
 unfold fracN;have:=trimZ_len ((decN (n%10000+10000)).drop 1);rw [dec5 _ (by omega)] at this |-;exact this
theorem numT_len(n:Nat)(h:n<=1000000000000):(numT n).length<=20:=by
 unfold numT;have h1:=(decN_len 13 (n / 10000) (by omega) (by omega)).2;have h2:=frac_len n;rw [List.length_append];split<;>simp<;>omega
theorem tdivS(n:Nat):Int.tdiv (n:Int) 10000=((n / 10000:Nat):Int):=by rw [Int.tdiv_eq_ediv_of_nonneg (by omega)];omega
theorem tmodS(n:Nat):Int.tmod (n:Int) 10000=((n%10000:Nat):Int):=by rw [Int.tmod_eq_emod_of_nonneg (by omega)];omega
theorem sub1(s:List UInt8):subStr s 1 ((s.length:Nat):Int)=s.drop 1:=by unfold subStr;simp;exact List.take_of_length_le (by simp)
theorem q245(n:Nat)(H:LHeap)(hn:n<=1000000000000):CallL cfg 245 [.int .i64 (n:Int)] H (Ret (.str (numT n)) H):=by
 refine e245t _ n H fun hI=>⟨_,s287 n H (by omega) (by omega),Ret.use ⟨_,rfl⟩,fun n2 H3 ⟨e,_⟩ hI=> ?_⟩;cases e;rw [tdivS,tmodS,w64 (by omega)];refine ⟨_,q288 _ H3 (by omega),Ret.use ⟨_,rfl⟩,fun s5 H6 ⟨e,_⟩=> ?_⟩;cases e;have hl1:=(decN_len 13 (n / 10000) (by omega) (by omega)).2;have hneg:decide ((n:Int)<0)=false:=by simp
 refine ⟨fun h hI=> ?_,fun h=>⟨fun hx=>absurd hx (by rw [hneg];simp),fun _ hI=> ?_⟩⟩
 ·have hr:n%10000≠0:=by simp at h;omega
  rw [show ((n%10000:Nat):Int)+10000=((n%10000+10000:Nat):Int) by omega,w64 (by omega)];refine ⟨_,q288 _ H6 (by omega),Ret.use ⟨_,rfl⟩,fun s8 H9 ⟨e,_⟩=> ?_⟩;cases e;have hl2:=decN_len 13 (n%10000+10000) (by omega) (by omega);refine ⟨⟨by omega,by omega,by omega⟩,fun hI=>⟨_,q289 _ H9 (by rw [sub1];simp;omega),Ret.use ⟨_,rfl⟩,fun s12 H13 ⟨e,_⟩=> ?_⟩⟩;cases e;rw [sub1];have hl3:=frac_len n;have hf:¬fracN n=[]:=fun h=>hr ((frac_nil n).1 h);refine ⟨by show 1+(fracN n).length<=_;omega,by show (decN (n / 10000)).length+([46]++fracN n).length<=_;simp;omega,fun hx=>absurd hx (by rw [hneg];simp),fun _ hI=> ?_⟩;refine ⟨?_,hI.pres⟩;unfold numT;rw [if_neg hf];rfl
 ·have hr:n%10000=0:=by simp at h;omega
  refine ⟨?_,hI.pres⟩;unfold numT;rw [if_pos ((frac_nil n).2 hr),List.append_nil]
theorem loop264(H0:LHeap)(t s:List UInt8)(ht:t.length<=1000):s.length<=1000->∀(d:Nat->LV) (H:LHeap),GoesT cfg 264 (Ret (.str (t++if trimZ s=[] then [] else 46::trimZ s)) H0) [] H0 [] (L264t_0 d s t) (loopAt cfg 264 0) H:=by
 induction s using rev_ind with
 |h0=>
  intro _ d H hin hI;refine g264t_0 _ H0 d [] t H ⟨fun h=>by simp at h,fun _=>⟨fun h=>by simp at h,fun _ hI=> ?_⟩⟩ hin hI;exact ⟨by rw [trimZ_nil,if_pos rfl,List.append_nil],hI.pres⟩
 |h1 A b ih=>
  intro hl d H hin hI;refine g264t_0 _ H0 d (A++[b]) t H ⟨fun h=> ?_,fun h=>by simp at h⟩ hin hI;rw [last_len A b hl,byteAt_last,u8_48,subStr_init,trimZ_app];refine ⟨⟨by omega,by simp;omega⟩,fun hb=>⟨⟨by omega,by omega,by simp;omega⟩,fun d4=> ?_⟩,fun hb=>⟨fun _=>⟨by simp at hl |-;omega,by simp at hl |-;omega,fun hI=> ?_⟩,fun h=>by simp at h⟩⟩
  ·rw [if_pos hb];exact ih (by simp at hl;omega) d4 H
  ·rw [if_neg (show ¬(b==48)=true by rw [hb];simp),if_neg (by simp)];exact ⟨rfl,hI.pres⟩
theorem q264(n:Nat)(H:LHeap)(hn:n<=1000000000000):CallL cfg 264 [.int .i64 (n:Int)] H (Ret (.str (numT n)) H):=by
 refine e264t _ n H ⟨fun h=>absurd h (by simp),fun _ hI=> ?_⟩;have hl1:=(decN_len 13 (n / 10000) (by omega) (by omega)).2;have hl2:=decN_len 13 (n%10000+10000) (by omega) (by omega);rw [w64 hn,tdivS,tmodS,w64 (by omega),show ((n%10000:Nat):Int)+10000=((n%10000+10000:Nat):Int) by omega,w64 (by omega)];refine ⟨_,q296 _ H (by omega),Ret.use ⟨_,rfl⟩,fun s11 H12 ⟨e,_⟩=> ?_⟩;cases e;refine ⟨by omega,fun hI=>⟨_,q296 _ H12 (by omega),Ret.use ⟨_,rfl⟩,fun s15 H16 ⟨e,p⟩=> ?_⟩⟩;cases e;refine ⟨⟨by omega,by omega,by omega⟩,fun d=> ?_⟩;rw [sub1];exact loop264 H (decN (n / 10000)) ((decN (n%10000+10000)).drop 1) (by omega) (by simp;omega) d H16
def CountR(s:List UInt8)(least most:Int)(H:LHeap):LV->LHeap->Prop:=fun v H'=>PresX [] H H'/\∃(n:Int) (b:Bool),v=.tuple [.int .i64 n,.bool b]/\b=(digs s&&(decide (least<=(s.length:Int))&&decide ((s.length:Int)<=most)))/\(digs s=true->s.length<=12->n=(decF s 0:Int))/\0<=n/\n<=1125899906842624
theorem CountR.sh{s:List UInt8}{l m:Int}{H:LHeap}:∀v H',CountR s l m H v H'->PresX [] H H'/\hasSh (.tuple [.int .i64,.bool]) v:=fun v H' ⟨h1,n,b,e,_⟩=>⟨h1,by rw [e];exact ⟨_,_,rfl⟩⟩
abbrev qT2_20:List LV:=[.str [],.str [35,68,73,86,47,48,33],.str [35,86,65,76,85,69,33],.str [35,82,69,70,33],.str [35,78,65,77,69,63],.str [35,78,85,77,33],.str [35,78,47,65],.str [35,67,89,67,76,69,33],.str [35,76,73,78,75,33]]
theorem e156t(R:RR)(H:LHeap)
(h:NX H fun i0 H1=>PX [i0] H1 fun H2=>R0 H [Sk i0 qT2_20 214] H2 R (.agg qT2_20)):
 CallL cfg 156 [] H R:=call_wt0 (k:=(.go 2 (.boxP (.go 4 (.putP (.go 1 (.facts .ret))))))) (by kernel_rfl) h
theorem e283u(R:RR)(n0:Int)(H:LHeap)
(h:Dc (n0>=(- 100000000000)) (R0 H [] H R (.bool (decide (n0<=100000000000)))) (R0 H [] H R (.bool false))):
 CallL cfg 283 [I6 n0] H R:=call_wt0 (k:=(.go 9 (.cases 5 (.go 5 (.facts .ret)) (.go 5 (.facts .ret))))) (by kernel_rfl) h
theorem e194t(R:RR)(x0:ValC)(H:LHeap)
(h:NX H fun i1 H2=>Inv [] H [Sk i1 (ValC.cs x0) 67] H2->CL 260 [ValC.lv x0] H2 (.cust Int (fun (n:Int)=>(.iface 283 (I6 n):LV))) fun S3=>∀y4 H5,S3 (.iface 283 (I6 y4)) H5->Dc (y4>=1) (Dc (y4<=8) (Inv [] H [Sk i1 (ValC.cs x0) 67] H5->CL 261 [] H5 (.agg [.str,.str,.str,.str,.str,.str,.str,.str,.str]) fun S6=>∀s7 s8 s9 s10 s11 s12 s13 s14 s15 H16,S6 (.agg [.str s7,.str s8,.str s9,.str s10,.str s11,.str s12,.str s13,.str s14,.str s15]) H16->∃s18,(indexL cfg.P 214 (.agg [.str s7,.str s8,.str s9,.str s10,.str s11,.str s12,.str s13,.str s14,.str s15]) (I6 y4))=(some (.str s18))/\(R0 H [Sk i1 (ValC.cs x0) 67] H16 R (.str s18))) (R0 H [Sk i1 (ValC.cs x0) 67] H5 R (.str []))) (R0 H [Sk i1 (ValC.cs x0) 67] H5 R (.str []))):
 CallL cfg 194 [ValC.lv x0] H R:=call_wt0 (k:=(.go 2 (.boxP (.go 6 (.facts (.call (.cust Int (fun (n:Int)=>(.iface 283 (I6 n):LV))) (.go 39 (.cases 27 (.go 4 (.cases 30 (.go 3 (.facts (.call (.agg [.str,.str,.str,.str,.str,.str,.str,.str,.str]) (.go 1 (.op .str (.go 2 (.facts .ret))))))) (.go 7 (.facts .ret)))) (.go 11 (.facts .ret)))))))))) (by kernel_rfl) h
theorem s283(n:Int)(H:LHeap):CallL cfg 283 [.int .i64 n] H (Ret (.bool (numF n)) H):=by
 refine e283u _ n H ⟨fun h hI=>⟨?_,hI.pres⟩,fun h hI=>⟨?_,hI.pres⟩⟩
 all_goals simp only [numF,h,Bool.true_and,Bool.false_and]
def L97t_0(d:Nat->LV)(n0:Int)(b1:Bool)(s2:List UInt8):List SV:=[.lv (.str s2),.lv (d 1),.lv (d 2),.lv (.bool b1),.lv (I6 n0)]++dl d 5 55
def L252t_0(d:Nat->LV)(n0:Int)(a1:Option LAddr)(l2:Nat)(c3:Cap)(a4:Option LAddr)(l5:Nat)(c6:Cap)(n7:Int):List SV:=dl d 0 3++[.lv (.slice a1 l2 c3)]++dl d 4 4++[.lv (.slice a4 l5 c6),.lv (I6 n7),.lv (I6 n0)]++dl d 11 18
def L110t_0(d:Nat->LV)(n0:Int)(n1:Int)(a2:Option LAddr)(l3:Nat)(c4:Cap)(n5:Int):List SV:=[.lv (d 0),.lv (I6 n1)]++dl d 2 13++[.lv (.slice a2 l3 c4),.lv (I6 n5),.lv (I6 n0)]++dl d 18 9
abbrev qW12_1(b1:Bool)(R:RR)(H0:LHeap)(n0:Int)(s2:List UInt8)(H10:LHeap):Prop:=Cd b1 (∀d12,GoesT cfg 97 R [] H0 [] (L97t_0 d12 (lwrap .i64 (n0+1)) true s2) (loopAt cfg 97 0) H10) ((0<=n0/\n0<(s2.length:Int))/\(Inv [] H0 [] H10->Ka 153 [.int .u8 (byteAt s2 n0)] H10 fun b15 H16=>∀d17,GoesT cfg 97 R [] H0 [] (L97t_0 d17 (lwrap .i64 (n0+1)) (!b15) s2) (loopAt cfg 97 0) H16))
theorem e285t(R:RR)(n0:Int)(n1:Int)(H:LHeap)
(h:Dc (n0>=1) (Dc (n0<=64) (Dc (n1>=1) (R0 H [] H R (.bool (decide (n1<=26)))) (R0 H [] H R (.bool false))) (R0 H [] H R (.bool false))) (R0 H [] H R (.bool false))):
 CallL cfg 285 [I6 n0,I6 n1] H R:=call_wt0 (k:=(.go 9 (.cases 7 (.go 4 (.cases 11 (.go 4 (.cases 15 (.go 5 (.facts .ret)) (.go 5 (.facts .ret)))) (.go 9 (.facts .ret)))) (.go 13 (.facts .ret))))) (by kernel_rfl) h
theorem g97t_0(R:RR)(H0:LHeap)(d:Nat->LV)(n0:Int)(b1:Bool)(s2:List UInt8)(H:LHeap)
(h:Dc (n0<(s2.length:Int)) ((0<=n0/\n0<(s2.length:Int))/\(Inv [] H0 [] H->Ka 157 [.int .u8 (byteAt s2 n0)] H fun b5 H6=>Cd (!b5) ((0<=n0/\n0<(s2.length:Int))/\(Inv [] H0 [] H6->Ka 153 [.int .u8 (byteAt s2 n0)] H6 fun b9 H10=>Cd (!b9) ((0<=n0/\n0<(s2.length:Int))/\(Cd ((byteAt s2 n0)!=95) (R0 H0 [] H10 R (.bool false)) (qW12_1 b1 R H0 n0 s2 H10))) (qW12_1 b1 R H0 n0 s2 H10))) (qW12_1 b1 R H0 n0 s2 H6))) (R0 H0 [] H R (.bool b1))):
 GoesT cfg 97 R [] H0 [] (L97t_0 d n0 b1 s2) (loopAt cfg 97 0) H:=seg_wt (k:=(.go 8 (.cases 30 (.go 9 (.op (.int .u8) (.facts (.call .bool (.go 2 (.cases 38 (.go 2 (.op (.int .u8) (.facts (.call .bool (.go 3 (.cases 45 (.go 2 (.op (.int .u8) (.go 3 (.cases 50 (.go 5 (.facts .ret)) (.go 5 (.cases 52 (.go 15 (.stop [4,3,0] 0)) (.go 2 (.op (.int .u8) (.facts (.call .bool (.go 11 (.stop [4,3,0] 0)))))))))))) (.go 11 (.cases 52 (.go 15 (.stop [4,3,0] 0)) (.go 2 (.op (.int .u8) (.facts (.call .bool (.go 11 (.stop [4,3,0] 0)))))))))))))) (.go 18 (.cases 52 (.go 15 (.stop [4,3,0] 0)) (.go 2 (.op (.int .u8) (.facts (.call .bool (.go 11 (.stop [4,3,0] 0)))))))))))))) (.go 7 (.facts .ret))))) (by kernel_rfl) h
theorem e97t(R:RR)(s0:List UInt8)(H:LHeap)
(h:Dc ((s0.length:Int)<1) (R0 H [] H R (.bool false)) (Dc ((s0.length:Int)>16) (R0 H [] H R (.bool false)) (((0:Int)<=0/\0<(s0.length:Int))/\(Inv [] H [] H->Ka 157 [.int .u8 (byteAt s0 0)] H fun b3 H4=>Cd (!b3) (R0 H [] H4 R (.bool false)) (Inv [] H [] H4->Kc 182 [.str s0] H4 fun n6 H7=>Dc (n6>=0) (R0 H [] H7 R (.bool false)) (∀d8,GoesT cfg 97 R [] H [] (L97t_0 d8 1 ((s0.length:Int)==1) s0) (loopAt cfg 97 0) H7)))))):
 CallL cfg 97 [.str s0] H R:=call_wt0 (k:=(.go 11 (.cases 8 (.go 21 (.facts .ret)) (.go 5 (.cases 13 (.go 16 (.facts .ret)) (.go 1 (.op (.int .u8) (.facts (.call .bool (.go 3 (.cases 19 (.go 10 (.facts .ret)) (.go 1 (.facts (.call (.int .i64) (.go 3 (.cases 23 (.go 5 (.facts .ret)) (.go 16 (.stop [4,3,0] 0)))))))))))))))))) (by kernel_rfl) h
theorem e182t(R:RR)(s0:List UInt8)(H:LHeap)
(h:Inv [] H [] H->Kb 252 [.str s0] H fun s2 H3=>Cd (s2==[84,82,85,69]) (R0 H [] H3 R (I6 1)) (Cd (s2==[70,65,76,83,69]) (R0 H [] H3 R (I6 0)) (R0 H [] H3 R (I6 (- 1:Int))))):
 CallL cfg 182 [.str s0] H R:=call_wt0 (k:=(.go 8 (.facts (.call .str (.go 7 (.cases 5 (.go 5 (.facts .ret)) (.go 6 (.cases 7 (.go 5 (.facts .ret)) (.go 7 (.facts .ret)))))))))) (by kernel_rfl) h
theorem g252t_0(R:RR)(H0:LHeap)(d:Nat->LV)(n0:Int)(a1:Option LAddr)(l2:Nat)(c3:Cap)(a4:Option LAddr)(l5:Nat)(c6:Cap)(n7:Int)(H:LHeap)
(h:Dc (n0<n7) ((0<=n0/\(n0<((l5:Nat):Int)/\(Option.isSome a4)=true))/\(Inv [] H0 [] H->∃n10,loadT cfg.P H 5 (Lk (LAddr.id (adr a4)) (LAddr.ver (adr a4)) ((LAddr.off (adr a4))+((Int.toNat n0)*1)))=some (.int .u8 n10)/\(Dc (n10>=97) (Dc (n10<=122) ((0<=n0/\(n0<((l2:Nat):Int)/\(Option.isSome a1)=true))/\(Inv [] H0 [] H->∃H12,(storeT cfg.P H 5 (Lk (LAddr.id (adr a1)) (LAddr.ver (adr a1)) ((LAddr.off (adr a1))+((Int.toNat n0)*1))) (.int .u8 (lwrap .u8 (n10-32)))=some H12/\okId [] H0 [] (LAddr.id (adr a1)))/\(∀d13,GoesT cfg 252 R [] H0 [] (L252t_0 d13 (lwrap .i64 (n0+1)) a1 l2 c3 a4 l5 c6 n7) (loopAt cfg 252 0) H12))) (∀d14,GoesT cfg 252 R [] H0 [] (L252t_0 d14 (lwrap .i64 (n0+1)) a1 l2 c3 a4 l5 c6 n7) (loopAt cfg 252 0) H)) (∀d15,GoesT cfg 252 R [] H0 [] (L252t_0 d15 (lwrap .i64 (n0+1)) a1 l2 c3 a4 l5 c6 n7) (loopAt cfg 252 0) H)))) (∃s17 H18,(convertL cfg.P H 155 9 (.slice a1 l2 c3))=(some (Prod.mk (.str s17) H18))/\(R0 H0 [] H R (.str s17)))):
 GoesT cfg 252 R [] H0 [] (L252t_0 d n0 a1 l2 c3 a4 l5 c6 n7) (loopAt cfg 252 0) H:=seg_wt (k:=(.go 5 (.cases 11 (.go 7 (.op (.tuple []) (.facts (.op (.int .u8) (.go 8 (.cases 17 (.go 4 (.cases 20 (.go 6 (.op (.tuple []) (.facts (.store (.go 7 (.stop [10,3,8,9] 0)))))) (.go 8 (.stop [10,3,8,9] 0)))) (.go 12 (.stop [10,3,8,9] 0)))))))) (.go 5 (.op .str (.go 2 (.facts .ret))))))) (by kernel_rfl) h
theorem e252t(R:RR)(s0:List UInt8)(H:LHeap)
(h:Inv [] H [] H->∃a1 l2 c3 Y H4,(opL cfg (fun (x:Operand)=>denF [] (evalS cfg [.lv (.str s0),.lv (.tuple []),.lv (.str []),.lv (.tuple []),.lv (.tuple []),.lv (.tuple []),.lv (.str s0),.lv (.tuple []),.lv (.tuple []),.lv (.tuple []),.lv (.tuple []),.lv (.tuple []),.lv (.tuple []),.lv (.tuple []),.lv (.tuple []),.lv (.tuple []),.lv (.tuple []),.lv (.tuple []),.lv (.tuple []),.lv (.tuple []),.lv (.tuple []),.lv (.tuple []),.lv (.tuple []),.lv (.tuple []),.lv (.tuple []),.lv (.tuple []),.lv (.tuple []),.lv (.tuple []),.lv (.tuple [])] x)) H (Oper.mk (some 7) (Op.convert 9 155 (Operand.tmp 6)) 155 "ref.go:56" (List.toArray [Edge.mk 0 Go.Ground.data]) none)=some [(.value (.slice a1 l2 c3),H4)]/\(PresX Y H H4/\(∀i∈Y,okId [] H [] i)))/\(∀d5,GoesT cfg 252 R [] H [] (L252t_0 d5 0 a1 l2 c3 a1 l2 c3 ((l2:Nat):Int)) (loopAt cfg 252 0) H4)):
 CallL cfg 252 [.str s0] H R:=call_wt0 (k:=(.go 7 (.facts (.any .slice (.go 11 (.stop [10,3,8,9] 0)))))) (by kernel_rfl) h
theorem e157t(R:RR)(n0:Int)(H:LHeap)
(h:Dc (n0>=97) (Dc (n0<=122) (R0 H [] H R (.bool true)) (Dc (n0>=65) (R0 H [] H R (.bool (decide (n0<=90)))) (R0 H [] H R (.bool false)))) (Dc (n0>=65) (R0 H [] H R (.bool (decide (n0<=90)))) (R0 H [] H R (.bool false)))):
 CallL cfg 157 [.int .u8 n0] H R:=call_wt0 (k:=(.go 9 (.cases 5 (.go 4 (.cases 9 (.go 9 (.facts .ret)) (.go 3 (.cases 12 (.go 6 (.facts .ret)) (.go 6 (.facts .ret)))))) (.go 7 (.cases 12 (.go 6 (.facts .ret)) (.go 6 (.facts .ret))))))) (by kernel_rfl) h
theorem e153t(R:RR)(n0:Int)(H:LHeap)
(h:Dc (n0>=48) (R0 H [] H R (.bool (decide (n0<=57)))) (R0 H [] H R (.bool false))):
 CallL cfg 153 [.int .u8 n0] H R:=call_wt0 (k:=(.go 9 (.cases 5 (.go 5 (.facts .ret)) (.go 5 (.facts .ret))))) (by kernel_rfl) h
theorem e47t(R:RR)(x0:NdC)(H:LHeap)
(h:NX H fun i1 H2=>Inv [] H [Sk i1 (NdC.cs x0) 72] H2->CL 110 [NdC.lv x0,I6 24] H2 .bool fun S3=>∀b4 H5,S3 (.bool b4) H5->R0 H [Sk i1 (NdC.cs x0) 72] H5 R (.bool b4)):
 CallL cfg 47 [NdC.lv x0] H R:=call_wt0 (k:=(.go 2 (.boxP (.go 5 (.facts (.call .bool (.go 2 (.facts .ret)))))))) (by kernel_rfl) h
theorem g110t_0(R:RR)(H0:LHeap)(d:Nat->LV)(n0:Int)(n1:Int)(a2:Option LAddr)(l3:Nat)(c4:Cap)(n5:Int)(H:LHeap)
(h:Dc (n0<n5) ((0<=n0/\(n0<((l3:Nat):Int)/\(Option.isSome a2)=true))/\(Inv [] H0 [] H->∃x8,loadT cfg.P H 72 (Lk (LAddr.id (adr a2)) (LAddr.ver (adr a2)) ((LAddr.off (adr a2))+((Int.toNat n0)*18)))=some (NdC.lv x8)/\(NX H fun i9 H10=>PX [i9] H10 fun H11=>Inv [] H0 [Sk i9 (NdC.cs x8) 72] H11->CL 110 [NdC.lv x8,I6 (lwrap .i64 (n1-1))] H11 .bool fun S12=>∀b13 H14,S12 (.bool b13) H14->Cd (!b13) (R0 H0 [Sk i9 (NdC.cs x8) 72] H14 R (.bool false)) (∀d15,GoesT cfg 110 R [] H0 [] (L110t_0 d15 (lwrap .i64 (n0+1)) n1 a2 l3 c4 n5) (loopAt cfg 110 0) H14)))) (R0 H0 [] H R (.bool true))):
 GoesT cfg 110 R [] H0 [] (L110t_0 d n0 n1 a2 l3 c4 n5) (loopAt cfg 110 0) H:=seg_wt (k:=(.go 5 (.cases 18 (.go 6 (.op (.tuple []) (.facts (.op (.cust NdC NdC.lv) (.boxP (.putP (.go 6 (.facts (.call .bool (.go 2 (.cases 25 (.go 5 (.facts .ret)) (.go 8 (.stop [17,1,15,16] 0))))))))))))) (.go 6 (.facts .ret))))) (by kernel_rfl) h
theorem e110t(R:RR)(x0:NdC)(n1:Int)(H:LHeap)
(h:NX H fun i2 H3=>Cd (n1==0) (R0 H [Sk i2 (NdC.cs x0) 72] H3 R (.bool false)) (Inv [] H [Sk i2 (NdC.cs x0) 72] H3->CL 193 [NdC.lv x0] H3 .bool fun S4=>∀b5 H6,S4 (.bool b5) H6->Cd (!b5) (R0 H [Sk i2 (NdC.cs x0) 72] H6 R (.bool false)) (∀d7,GoesT cfg 110 R [] H [] (L110t_0 d7 0 n1 x0.argsA x0.argsL x0.argsQ ((x0.argsL:Nat):Int)) (loopAt cfg 110 0) H6))):
 CallL cfg 110 [NdC.lv x0,I6 n1] H R:=call_wt0 (k:=(.go 2 (.boxP (.go 8 (.cases 9 (.go 10 (.facts .ret)) (.go 1 (.facts (.call .bool (.go 3 (.cases 13 (.go 5 (.facts .ret)) (.go 12 (.stop [17,1,15,16] 0)))))))))))) (by kernel_rfl) h
theorem e259t(R:RR)(x0:RefC)(H:LHeap)
(h:NX H fun i1 H2=>Inv [] H [Sk i1 (RefC.cs x0) 69] H2->CL 285 [I6 x0.row,I6 x0.col] H2 .bool fun S3=>∀b4 H5,S3 (.bool b4) H5->Cd (!b4) (R0 H [Sk i1 (RefC.cs x0) 69] H5 R (.bool false)) (Cd (!(x0.sheet==[])) (Inv [] H [Sk i1 (RefC.cs x0) 69] H5->CL 97 [.str x0.sheet] H5 .bool fun S6=>∀b7 H8,S6 (.bool b7) H8->Cd (!b7) (R0 H [Sk i1 (RefC.cs x0) 69] H8 R (.bool false)) (Cd (x0.book==[]) (R0 H [Sk i1 (RefC.cs x0) 69] H8 R (.bool true)) (Inv [] H [Sk i1 (RefC.cs x0) 69] H8->CL 97 [.str x0.book] H8 .bool fun S9=>∀b10 H11,S9 (.bool b10) H11->Cd b10 (R0 H [Sk i1 (RefC.cs x0) 69] H11 R (.bool (!(x0.sheet==[])))) (R0 H [Sk i1 (RefC.cs x0) 69] H11 R (.bool false))))) (Cd (x0.book==[]) (R0 H [Sk i1 (RefC.cs x0) 69] H5 R (.bool true)) (Inv [] H [Sk i1 (RefC.cs x0) 69] H5->CL 97 [.str x0.book] H5 .bool fun S12=>∀b13 H14,S12 (.bool b13) H14->Cd b13 (R0 H [Sk i1 (RefC.cs x0) 69] H14 R (.bool (!(x0.sheet==[])))) (R0 H [Sk i1 (RefC.cs x0) 69] H14 R (.bool false)))))):
 CallL cfg 259 [RefC.lv x0] H R:=call_wt0 (k:=(.go 2 (.boxP (.go 9 (.facts (.call .bool (.go 2 (.cases 9 (.go 16 (.facts .ret)) (.go 4 (.cases 13 (.go 2 (.facts (.call .bool (.go 4 (.cases 19 (.go 5 (.facts .ret)) (.go 8 (.cases 23 (.go 11 (.facts .ret)) (.go 2 (.facts (.call .bool (.go 1 (.cases 27 (.go 7 (.facts .ret)) (.go 7 (.facts .ret)))))))))))))) (.go 15 (.cases 23 (.go 11 (.facts .ret)) (.go 2 (.facts (.call .bool (.go 1 (.cases 27 (.go 7 (.facts .ret)) (.go 7 (.facts .ret))))))))))))))))))) (by kernel_rfl) h
theorem e257t(R:RR)(x0:NdC)(H:LHeap)
(h:NX H fun i1 H2=>NX H2 fun i3 H4=>PX [i3] H4 fun H5=>R0 H [Sk i1 (NdC.cs x0) 72,Sk i3 [I6 x0.kind,.str [],I6 0,I6 0,.str [],.str [],.str [],I6 0,I6 0,.bool false,.bool false,.str [],.str [],I6 0,I6 0,.bool false,.bool false,.slice none 0 (.exact 0)] 72] H5 R (.agg [I6 x0.kind,.str [],I6 0,I6 0,.str [],.str [],.str [],I6 0,I6 0,.bool false,.bool false,.str [],.str [],I6 0,I6 0,.bool false,.bool false,.slice none 0 (.exact 0)])):
 CallL cfg 257 [NdC.lv x0] H R:=call_wt0 (k:=(.go 2 (.boxP (.boxP (.go 6 (.putP (.go 1 (.facts .ret)))))))) (by kernel_rfl) h
end Go.Proofs.YtjihhflffkoffaaGreatDoor.Z
