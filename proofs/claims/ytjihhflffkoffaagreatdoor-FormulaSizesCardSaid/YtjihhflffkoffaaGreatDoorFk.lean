/- Contracts of functions of the program; no condition. -/
import Derived.Test.YtjihhflffkoffaaGreatDoorW16
import Derived.Test.YtjihhflffkoffaaGreatDoorGs
set_option linter.unusedSimpArgs false
set_option linter.unusedVariables false
set_option linter.unusedSectionVars false
set_option linter.unnecessarySimpa false
namespace Go.Proofs.YtjihhflffkoffaaGreatDoor.Z
open Go Go.Lm
set_option maxRecDepth 100000
theorem s288k1 (H : LHeap) : CallL cfg 288 [.int .u64 1] H (GoodS (fun s => s.length ≤ 3) H) :=
  e288k1 _ () H fun i0 H1 _ _ H2 _ hI => ⟨[49], H2, conv_from (slot_loadN (hI.slot 0 _ rfl).2.1 rfl (by decide) rfl), fun hI => .mk hI.pres (by decide)⟩
theorem s288k2 (H : LHeap) : CallL cfg 288 [.int .u64 2] H (GoodS (fun s => s.length ≤ 3) H) :=
  e288k2 _ () H fun i0 H1 _ _ H2 _ hI => ⟨[50], H2, conv_from (slot_loadN (hI.slot 0 _ rfl).2.1 rfl (by decide) rfl), fun hI => .mk hI.pres (by decide)⟩
theorem s288k3 (H : LHeap) : CallL cfg 288 [.int .u64 3] H (GoodS (fun s => s.length ≤ 3) H) :=
  e288k3 _ () H fun i0 H1 _ _ H2 _ hI => ⟨[51], H2, conv_from (slot_loadN (hI.slot 0 _ rfl).2.1 rfl (by decide) rfl), fun hI => .mk hI.pres (by decide)⟩
theorem s288k4 (H : LHeap) : CallL cfg 288 [.int .u64 4] H (GoodS (fun s => s.length ≤ 3) H) :=
  e288k4 _ () H fun i0 H1 _ _ H2 _ hI => ⟨[52], H2, conv_from (slot_loadN (hI.slot 0 _ rfl).2.1 rfl (by decide) rfl), fun hI => .mk hI.pres (by decide)⟩
theorem s288k5 (H : LHeap) : CallL cfg 288 [.int .u64 5] H (GoodS (fun s => s.length ≤ 3) H) :=
  e288k5 _ () H fun i0 H1 _ _ H2 _ hI => ⟨[53], H2, conv_from (slot_loadN (hI.slot 0 _ rfl).2.1 rfl (by decide) rfl), fun hI => .mk hI.pres (by decide)⟩
theorem s288k6 (H : LHeap) : CallL cfg 288 [.int .u64 6] H (GoodS (fun s => s.length ≤ 3) H) :=
  e288k6 _ () H fun i0 H1 _ _ H2 _ hI => ⟨[54], H2, conv_from (slot_loadN (hI.slot 0 _ rfl).2.1 rfl (by decide) rfl), fun hI => .mk hI.pres (by decide)⟩
theorem s288k7 (H : LHeap) : CallL cfg 288 [.int .u64 7] H (GoodS (fun s => s.length ≤ 3) H) :=
  e288k7 _ () H fun i0 H1 _ _ H2 _ hI => ⟨[55], H2, conv_from (slot_loadN (hI.slot 0 _ rfl).2.1 rfl (by decide) rfl), fun hI => .mk hI.pres (by decide)⟩
theorem s288k8 (H : LHeap) : CallL cfg 288 [.int .u64 8] H (GoodS (fun s => s.length ≤ 3) H) :=
  e288k8 _ () H fun i0 H1 _ _ H2 _ hI => ⟨[56], H2, conv_from (slot_loadN (hI.slot 0 _ rfl).2.1 rfl (by decide) rfl), fun hI => .mk hI.pres (by decide)⟩
theorem s288k9 (H : LHeap) : CallL cfg 288 [.int .u64 9] H (GoodS (fun s => s.length ≤ 3) H) :=
  e288k9 _ () H fun i0 H1 _ _ H2 _ hI => ⟨[57], H2, conv_from (slot_loadN (hI.slot 0 _ rfl).2.1 rfl (by decide) rfl), fun hI => .mk hI.pres (by decide)⟩
theorem s288k10 (H : LHeap) : CallL cfg 288 [.int .u64 10] H (GoodS (fun s => s.length ≤ 3) H) :=
  e288k10 _ () H fun i0 H1 _ _ H2 _ H3 _ hI => ⟨[49, 48], H3, conv_from (slot_loadN (hI.slot 0 _ rfl).2.1 rfl (by decide) rfl), fun hI => .mk hI.pres (by decide)⟩
theorem s288k11 (H : LHeap) : CallL cfg 288 [.int .u64 11] H (GoodS (fun s => s.length ≤ 3) H) :=
  e288k11 _ () H fun i0 H1 _ _ H2 _ H3 _ hI => ⟨[49, 49], H3, conv_from (slot_loadN (hI.slot 0 _ rfl).2.1 rfl (by decide) rfl), fun hI => .mk hI.pres (by decide)⟩
theorem s288k12 (H : LHeap) : CallL cfg 288 [.int .u64 12] H (GoodS (fun s => s.length ≤ 3) H) :=
  e288k12 _ () H fun i0 H1 _ _ H2 _ H3 _ hI => ⟨[49, 50], H3, conv_from (slot_loadN (hI.slot 0 _ rfl).2.1 rfl (by decide) rfl), fun hI => .mk hI.pres (by decide)⟩
theorem s288k13 (H : LHeap) : CallL cfg 288 [.int .u64 13] H (GoodS (fun s => s.length ≤ 3) H) :=
  e288k13 _ () H fun i0 H1 _ _ H2 _ H3 _ hI => ⟨[49, 51], H3, conv_from (slot_loadN (hI.slot 0 _ rfl).2.1 rfl (by decide) rfl), fun hI => .mk hI.pres (by decide)⟩
theorem s288k14 (H : LHeap) : CallL cfg 288 [.int .u64 14] H (GoodS (fun s => s.length ≤ 3) H) :=
  e288k14 _ () H fun i0 H1 _ _ H2 _ H3 _ hI => ⟨[49, 52], H3, conv_from (slot_loadN (hI.slot 0 _ rfl).2.1 rfl (by decide) rfl), fun hI => .mk hI.pres (by decide)⟩
theorem s288k15 (H : LHeap) : CallL cfg 288 [.int .u64 15] H (GoodS (fun s => s.length ≤ 3) H) :=
  e288k15 _ () H fun i0 H1 _ _ H2 _ H3 _ hI => ⟨[49, 53], H3, conv_from (slot_loadN (hI.slot 0 _ rfl).2.1 rfl (by decide) rfl), fun hI => .mk hI.pres (by decide)⟩
theorem s288k16 (H : LHeap) : CallL cfg 288 [.int .u64 16] H (GoodS (fun s => s.length ≤ 3) H) :=
  e288k16 _ () H fun i0 H1 _ _ H2 _ H3 _ hI => ⟨[49, 54], H3, conv_from (slot_loadN (hI.slot 0 _ rfl).2.1 rfl (by decide) rfl), fun hI => .mk hI.pres (by decide)⟩
theorem s288k17 (H : LHeap) : CallL cfg 288 [.int .u64 17] H (GoodS (fun s => s.length ≤ 3) H) :=
  e288k17 _ () H fun i0 H1 _ _ H2 _ H3 _ hI => ⟨[49, 55], H3, conv_from (slot_loadN (hI.slot 0 _ rfl).2.1 rfl (by decide) rfl), fun hI => .mk hI.pres (by decide)⟩
theorem s288k18 (H : LHeap) : CallL cfg 288 [.int .u64 18] H (GoodS (fun s => s.length ≤ 3) H) :=
  e288k18 _ () H fun i0 H1 _ _ H2 _ H3 _ hI => ⟨[49, 56], H3, conv_from (slot_loadN (hI.slot 0 _ rfl).2.1 rfl (by decide) rfl), fun hI => .mk hI.pres (by decide)⟩
theorem s288k19 (H : LHeap) : CallL cfg 288 [.int .u64 19] H (GoodS (fun s => s.length ≤ 3) H) :=
  e288k19 _ () H fun i0 H1 _ _ H2 _ H3 _ hI => ⟨[49, 57], H3, conv_from (slot_loadN (hI.slot 0 _ rfl).2.1 rfl (by decide) rfl), fun hI => .mk hI.pres (by decide)⟩
theorem s288k20 (H : LHeap) : CallL cfg 288 [.int .u64 20] H (GoodS (fun s => s.length ≤ 3) H) :=
  e288k20 _ () H fun i0 H1 _ _ H2 _ H3 _ hI => ⟨[50, 48], H3, conv_from (slot_loadN (hI.slot 0 _ rfl).2.1 rfl (by decide) rfl), fun hI => .mk hI.pres (by decide)⟩
theorem s288k21 (H : LHeap) : CallL cfg 288 [.int .u64 21] H (GoodS (fun s => s.length ≤ 3) H) :=
  e288k21 _ () H fun i0 H1 _ _ H2 _ H3 _ hI => ⟨[50, 49], H3, conv_from (slot_loadN (hI.slot 0 _ rfl).2.1 rfl (by decide) rfl), fun hI => .mk hI.pres (by decide)⟩
theorem s288k22 (H : LHeap) : CallL cfg 288 [.int .u64 22] H (GoodS (fun s => s.length ≤ 3) H) :=
  e288k22 _ () H fun i0 H1 _ _ H2 _ H3 _ hI => ⟨[50, 50], H3, conv_from (slot_loadN (hI.slot 0 _ rfl).2.1 rfl (by decide) rfl), fun hI => .mk hI.pres (by decide)⟩
theorem s288k23 (H : LHeap) : CallL cfg 288 [.int .u64 23] H (GoodS (fun s => s.length ≤ 3) H) :=
  e288k23 _ () H fun i0 H1 _ _ H2 _ H3 _ hI => ⟨[50, 51], H3, conv_from (slot_loadN (hI.slot 0 _ rfl).2.1 rfl (by decide) rfl), fun hI => .mk hI.pres (by decide)⟩
theorem s288k24 (H : LHeap) : CallL cfg 288 [.int .u64 24] H (GoodS (fun s => s.length ≤ 3) H) :=
  e288k24 _ () H fun i0 H1 _ _ H2 _ H3 _ hI => ⟨[50, 52], H3, conv_from (slot_loadN (hI.slot 0 _ rfl).2.1 rfl (by decide) rfl), fun hI => .mk hI.pres (by decide)⟩
theorem s288k25 (H : LHeap) : CallL cfg 288 [.int .u64 25] H (GoodS (fun s => s.length ≤ 3) H) :=
  e288k25 _ () H fun i0 H1 _ _ H2 _ H3 _ hI => ⟨[50, 53], H3, conv_from (slot_loadN (hI.slot 0 _ rfl).2.1 rfl (by decide) rfl), fun hI => .mk hI.pres (by decide)⟩
theorem s288k26 (H : LHeap) : CallL cfg 288 [.int .u64 26] H (GoodS (fun s => s.length ≤ 3) H) :=
  e288k26 _ () H fun i0 H1 _ _ H2 _ H3 _ hI => ⟨[50, 54], H3, conv_from (slot_loadN (hI.slot 0 _ rfl).2.1 rfl (by decide) rfl), fun hI => .mk hI.pres (by decide)⟩
theorem s288k27 (H : LHeap) : CallL cfg 288 [.int .u64 27] H (GoodS (fun s => s.length ≤ 3) H) :=
  e288k27 _ () H fun i0 H1 _ _ H2 _ H3 _ hI => ⟨[50, 55], H3, conv_from (slot_loadN (hI.slot 0 _ rfl).2.1 rfl (by decide) rfl), fun hI => .mk hI.pres (by decide)⟩
theorem s288k28 (H : LHeap) : CallL cfg 288 [.int .u64 28] H (GoodS (fun s => s.length ≤ 3) H) :=
  e288k28 _ () H fun i0 H1 _ _ H2 _ H3 _ hI => ⟨[50, 56], H3, conv_from (slot_loadN (hI.slot 0 _ rfl).2.1 rfl (by decide) rfl), fun hI => .mk hI.pres (by decide)⟩
theorem s288k29 (H : LHeap) : CallL cfg 288 [.int .u64 29] H (GoodS (fun s => s.length ≤ 3) H) :=
  e288k29 _ () H fun i0 H1 _ _ H2 _ H3 _ hI => ⟨[50, 57], H3, conv_from (slot_loadN (hI.slot 0 _ rfl).2.1 rfl (by decide) rfl), fun hI => .mk hI.pres (by decide)⟩
theorem s288k30 (H : LHeap) : CallL cfg 288 [.int .u64 30] H (GoodS (fun s => s.length ≤ 3) H) :=
  e288k30 _ () H fun i0 H1 _ _ H2 _ H3 _ hI => ⟨[51, 48], H3, conv_from (slot_loadN (hI.slot 0 _ rfl).2.1 rfl (by decide) rfl), fun hI => .mk hI.pres (by decide)⟩
theorem s288k31 (H : LHeap) : CallL cfg 288 [.int .u64 31] H (GoodS (fun s => s.length ≤ 3) H) :=
  e288k31 _ () H fun i0 H1 _ _ H2 _ H3 _ hI => ⟨[51, 49], H3, conv_from (slot_loadN (hI.slot 0 _ rfl).2.1 rfl (by decide) rfl), fun hI => .mk hI.pres (by decide)⟩
theorem s288k32 (H : LHeap) : CallL cfg 288 [.int .u64 32] H (GoodS (fun s => s.length ≤ 3) H) :=
  e288k32 _ () H fun i0 H1 _ _ H2 _ H3 _ hI => ⟨[51, 50], H3, conv_from (slot_loadN (hI.slot 0 _ rfl).2.1 rfl (by decide) rfl), fun hI => .mk hI.pres (by decide)⟩
theorem s288k33 (H : LHeap) : CallL cfg 288 [.int .u64 33] H (GoodS (fun s => s.length ≤ 3) H) :=
  e288k33 _ () H fun i0 H1 _ _ H2 _ H3 _ hI => ⟨[51, 51], H3, conv_from (slot_loadN (hI.slot 0 _ rfl).2.1 rfl (by decide) rfl), fun hI => .mk hI.pres (by decide)⟩
theorem s288k34 (H : LHeap) : CallL cfg 288 [.int .u64 34] H (GoodS (fun s => s.length ≤ 3) H) :=
  e288k34 _ () H fun i0 H1 _ _ H2 _ H3 _ hI => ⟨[51, 52], H3, conv_from (slot_loadN (hI.slot 0 _ rfl).2.1 rfl (by decide) rfl), fun hI => .mk hI.pres (by decide)⟩
theorem s288k35 (H : LHeap) : CallL cfg 288 [.int .u64 35] H (GoodS (fun s => s.length ≤ 3) H) :=
  e288k35 _ () H fun i0 H1 _ _ H2 _ H3 _ hI => ⟨[51, 53], H3, conv_from (slot_loadN (hI.slot 0 _ rfl).2.1 rfl (by decide) rfl), fun hI => .mk hI.pres (by decide)⟩
theorem s288k36 (H : LHeap) : CallL cfg 288 [.int .u64 36] H (GoodS (fun s => s.length ≤ 3) H) :=
  e288k36 _ () H fun i0 H1 _ _ H2 _ H3 _ hI => ⟨[51, 54], H3, conv_from (slot_loadN (hI.slot 0 _ rfl).2.1 rfl (by decide) rfl), fun hI => .mk hI.pres (by decide)⟩
theorem s288k37 (H : LHeap) : CallL cfg 288 [.int .u64 37] H (GoodS (fun s => s.length ≤ 3) H) :=
  e288k37 _ () H fun i0 H1 _ _ H2 _ H3 _ hI => ⟨[51, 55], H3, conv_from (slot_loadN (hI.slot 0 _ rfl).2.1 rfl (by decide) rfl), fun hI => .mk hI.pres (by decide)⟩
theorem s288k38 (H : LHeap) : CallL cfg 288 [.int .u64 38] H (GoodS (fun s => s.length ≤ 3) H) :=
  e288k38 _ () H fun i0 H1 _ _ H2 _ H3 _ hI => ⟨[51, 56], H3, conv_from (slot_loadN (hI.slot 0 _ rfl).2.1 rfl (by decide) rfl), fun hI => .mk hI.pres (by decide)⟩
theorem s288k39 (H : LHeap) : CallL cfg 288 [.int .u64 39] H (GoodS (fun s => s.length ≤ 3) H) :=
  e288k39 _ () H fun i0 H1 _ _ H2 _ H3 _ hI => ⟨[51, 57], H3, conv_from (slot_loadN (hI.slot 0 _ rfl).2.1 rfl (by decide) rfl), fun hI => .mk hI.pres (by decide)⟩
theorem s288k40 (H : LHeap) : CallL cfg 288 [.int .u64 40] H (GoodS (fun s => s.length ≤ 3) H) :=
  e288k40 _ () H fun i0 H1 _ _ H2 _ H3 _ hI => ⟨[52, 48], H3, conv_from (slot_loadN (hI.slot 0 _ rfl).2.1 rfl (by decide) rfl), fun hI => .mk hI.pres (by decide)⟩
theorem s288k41 (H : LHeap) : CallL cfg 288 [.int .u64 41] H (GoodS (fun s => s.length ≤ 3) H) :=
  e288k41 _ () H fun i0 H1 _ _ H2 _ H3 _ hI => ⟨[52, 49], H3, conv_from (slot_loadN (hI.slot 0 _ rfl).2.1 rfl (by decide) rfl), fun hI => .mk hI.pres (by decide)⟩
theorem s288k42 (H : LHeap) : CallL cfg 288 [.int .u64 42] H (GoodS (fun s => s.length ≤ 3) H) :=
  e288k42 _ () H fun i0 H1 _ _ H2 _ H3 _ hI => ⟨[52, 50], H3, conv_from (slot_loadN (hI.slot 0 _ rfl).2.1 rfl (by decide) rfl), fun hI => .mk hI.pres (by decide)⟩
theorem s288k43 (H : LHeap) : CallL cfg 288 [.int .u64 43] H (GoodS (fun s => s.length ≤ 3) H) :=
  e288k43 _ () H fun i0 H1 _ _ H2 _ H3 _ hI => ⟨[52, 51], H3, conv_from (slot_loadN (hI.slot 0 _ rfl).2.1 rfl (by decide) rfl), fun hI => .mk hI.pres (by decide)⟩
theorem s288k44 (H : LHeap) : CallL cfg 288 [.int .u64 44] H (GoodS (fun s => s.length ≤ 3) H) :=
  e288k44 _ () H fun i0 H1 _ _ H2 _ H3 _ hI => ⟨[52, 52], H3, conv_from (slot_loadN (hI.slot 0 _ rfl).2.1 rfl (by decide) rfl), fun hI => .mk hI.pres (by decide)⟩
theorem s288k45 (H : LHeap) : CallL cfg 288 [.int .u64 45] H (GoodS (fun s => s.length ≤ 3) H) :=
  e288k45 _ () H fun i0 H1 _ _ H2 _ H3 _ hI => ⟨[52, 53], H3, conv_from (slot_loadN (hI.slot 0 _ rfl).2.1 rfl (by decide) rfl), fun hI => .mk hI.pres (by decide)⟩
theorem s288k46 (H : LHeap) : CallL cfg 288 [.int .u64 46] H (GoodS (fun s => s.length ≤ 3) H) :=
  e288k46 _ () H fun i0 H1 _ _ H2 _ H3 _ hI => ⟨[52, 54], H3, conv_from (slot_loadN (hI.slot 0 _ rfl).2.1 rfl (by decide) rfl), fun hI => .mk hI.pres (by decide)⟩
theorem s288k47 (H : LHeap) : CallL cfg 288 [.int .u64 47] H (GoodS (fun s => s.length ≤ 3) H) :=
  e288k47 _ () H fun i0 H1 _ _ H2 _ H3 _ hI => ⟨[52, 55], H3, conv_from (slot_loadN (hI.slot 0 _ rfl).2.1 rfl (by decide) rfl), fun hI => .mk hI.pres (by decide)⟩
theorem s288k48 (H : LHeap) : CallL cfg 288 [.int .u64 48] H (GoodS (fun s => s.length ≤ 3) H) :=
  e288k48 _ () H fun i0 H1 _ _ H2 _ H3 _ hI => ⟨[52, 56], H3, conv_from (slot_loadN (hI.slot 0 _ rfl).2.1 rfl (by decide) rfl), fun hI => .mk hI.pres (by decide)⟩
theorem s288k49 (H : LHeap) : CallL cfg 288 [.int .u64 49] H (GoodS (fun s => s.length ≤ 3) H) :=
  e288k49 _ () H fun i0 H1 _ _ H2 _ H3 _ hI => ⟨[52, 57], H3, conv_from (slot_loadN (hI.slot 0 _ rfl).2.1 rfl (by decide) rfl), fun hI => .mk hI.pres (by decide)⟩
theorem s288k50 (H : LHeap) : CallL cfg 288 [.int .u64 50] H (GoodS (fun s => s.length ≤ 3) H) :=
  e288k50 _ () H fun i0 H1 _ _ H2 _ H3 _ hI => ⟨[53, 48], H3, conv_from (slot_loadN (hI.slot 0 _ rfl).2.1 rfl (by decide) rfl), fun hI => .mk hI.pres (by decide)⟩
theorem s288k51 (H : LHeap) : CallL cfg 288 [.int .u64 51] H (GoodS (fun s => s.length ≤ 3) H) :=
  e288k51 _ () H fun i0 H1 _ _ H2 _ H3 _ hI => ⟨[53, 49], H3, conv_from (slot_loadN (hI.slot 0 _ rfl).2.1 rfl (by decide) rfl), fun hI => .mk hI.pres (by decide)⟩
theorem s288k52 (H : LHeap) : CallL cfg 288 [.int .u64 52] H (GoodS (fun s => s.length ≤ 3) H) :=
  e288k52 _ () H fun i0 H1 _ _ H2 _ H3 _ hI => ⟨[53, 50], H3, conv_from (slot_loadN (hI.slot 0 _ rfl).2.1 rfl (by decide) rfl), fun hI => .mk hI.pres (by decide)⟩
theorem s288k53 (H : LHeap) : CallL cfg 288 [.int .u64 53] H (GoodS (fun s => s.length ≤ 3) H) :=
  e288k53 _ () H fun i0 H1 _ _ H2 _ H3 _ hI => ⟨[53, 51], H3, conv_from (slot_loadN (hI.slot 0 _ rfl).2.1 rfl (by decide) rfl), fun hI => .mk hI.pres (by decide)⟩
theorem s288k54 (H : LHeap) : CallL cfg 288 [.int .u64 54] H (GoodS (fun s => s.length ≤ 3) H) :=
  e288k54 _ () H fun i0 H1 _ _ H2 _ H3 _ hI => ⟨[53, 52], H3, conv_from (slot_loadN (hI.slot 0 _ rfl).2.1 rfl (by decide) rfl), fun hI => .mk hI.pres (by decide)⟩
theorem s288k55 (H : LHeap) : CallL cfg 288 [.int .u64 55] H (GoodS (fun s => s.length ≤ 3) H) :=
  e288k55 _ () H fun i0 H1 _ _ H2 _ H3 _ hI => ⟨[53, 53], H3, conv_from (slot_loadN (hI.slot 0 _ rfl).2.1 rfl (by decide) rfl), fun hI => .mk hI.pres (by decide)⟩
theorem s288k56 (H : LHeap) : CallL cfg 288 [.int .u64 56] H (GoodS (fun s => s.length ≤ 3) H) :=
  e288k56 _ () H fun i0 H1 _ _ H2 _ H3 _ hI => ⟨[53, 54], H3, conv_from (slot_loadN (hI.slot 0 _ rfl).2.1 rfl (by decide) rfl), fun hI => .mk hI.pres (by decide)⟩
theorem s288k57 (H : LHeap) : CallL cfg 288 [.int .u64 57] H (GoodS (fun s => s.length ≤ 3) H) :=
  e288k57 _ () H fun i0 H1 _ _ H2 _ H3 _ hI => ⟨[53, 55], H3, conv_from (slot_loadN (hI.slot 0 _ rfl).2.1 rfl (by decide) rfl), fun hI => .mk hI.pres (by decide)⟩
theorem s288k58 (H : LHeap) : CallL cfg 288 [.int .u64 58] H (GoodS (fun s => s.length ≤ 3) H) :=
  e288k58 _ () H fun i0 H1 _ _ H2 _ H3 _ hI => ⟨[53, 56], H3, conv_from (slot_loadN (hI.slot 0 _ rfl).2.1 rfl (by decide) rfl), fun hI => .mk hI.pres (by decide)⟩
theorem s288k59 (H : LHeap) : CallL cfg 288 [.int .u64 59] H (GoodS (fun s => s.length ≤ 3) H) :=
  e288k59 _ () H fun i0 H1 _ _ H2 _ H3 _ hI => ⟨[53, 57], H3, conv_from (slot_loadN (hI.slot 0 _ rfl).2.1 rfl (by decide) rfl), fun hI => .mk hI.pres (by decide)⟩
theorem s288k60 (H : LHeap) : CallL cfg 288 [.int .u64 60] H (GoodS (fun s => s.length ≤ 3) H) :=
  e288k60 _ () H fun i0 H1 _ _ H2 _ H3 _ hI => ⟨[54, 48], H3, conv_from (slot_loadN (hI.slot 0 _ rfl).2.1 rfl (by decide) rfl), fun hI => .mk hI.pres (by decide)⟩
theorem s288k61 (H : LHeap) : CallL cfg 288 [.int .u64 61] H (GoodS (fun s => s.length ≤ 3) H) :=
  e288k61 _ () H fun i0 H1 _ _ H2 _ H3 _ hI => ⟨[54, 49], H3, conv_from (slot_loadN (hI.slot 0 _ rfl).2.1 rfl (by decide) rfl), fun hI => .mk hI.pres (by decide)⟩
theorem s288k62 (H : LHeap) : CallL cfg 288 [.int .u64 62] H (GoodS (fun s => s.length ≤ 3) H) :=
  e288k62 _ () H fun i0 H1 _ _ H2 _ H3 _ hI => ⟨[54, 50], H3, conv_from (slot_loadN (hI.slot 0 _ rfl).2.1 rfl (by decide) rfl), fun hI => .mk hI.pres (by decide)⟩
theorem s288k63 (H : LHeap) : CallL cfg 288 [.int .u64 63] H (GoodS (fun s => s.length ≤ 3) H) :=
  e288k63 _ () H fun i0 H1 _ _ H2 _ H3 _ hI => ⟨[54, 51], H3, conv_from (slot_loadN (hI.slot 0 _ rfl).2.1 rfl (by decide) rfl), fun hI => .mk hI.pres (by decide)⟩
theorem s288k64 (H : LHeap) : CallL cfg 288 [.int .u64 64] H (GoodS (fun s => s.length ≤ 3) H) :=
  e288k64 _ () H fun i0 H1 _ _ H2 _ H3 _ hI => ⟨[54, 52], H3, conv_from (slot_loadN (hI.slot 0 _ rfl).2.1 rfl (by decide) rfl), fun hI => .mk hI.pres (by decide)⟩
theorem s288 (n : Int) (h : 1 ≤ n ∧ n ≤ 64) (H : LHeap) : CallL cfg 288 [.int .u64 n] H (GoodS (fun s => s.length ≤ 3) H) := by
  have : n = 1 ∨ n = 2 ∨ n = 3 ∨ n = 4 ∨ n = 5 ∨ n = 6 ∨ n = 7 ∨ n = 8 ∨ n = 9 ∨ n = 10 ∨ n = 11 ∨ n = 12 ∨ n = 13 ∨ n = 14 ∨ n = 15 ∨ n = 16 ∨ n = 17 ∨ n = 18 ∨ n = 19 ∨ n = 20 ∨ n = 21 ∨ n = 22 ∨ n = 23 ∨ n = 24 ∨ n = 25 ∨ n = 26 ∨ n = 27 ∨ n = 28 ∨ n = 29 ∨ n = 30 ∨ n = 31 ∨ n = 32 ∨ n = 33 ∨ n = 34 ∨ n = 35 ∨ n = 36 ∨ n = 37 ∨ n = 38 ∨ n = 39 ∨ n = 40 ∨ n = 41 ∨ n = 42 ∨ n = 43 ∨ n = 44 ∨ n = 45 ∨ n = 46 ∨ n = 47 ∨ n = 48 ∨ n = 49 ∨ n = 50 ∨ n = 51 ∨ n = 52 ∨ n = 53 ∨ n = 54 ∨ n = 55 ∨ n = 56 ∨ n = 57 ∨ n = 58 ∨ n = 59 ∨ n = 60 ∨ n = 61 ∨ n = 62 ∨ n = 63 ∨ n = 64 := by omega
  rcases this with rfl | rfl | rfl | rfl | rfl | rfl | rfl | rfl | rfl | rfl | rfl | rfl | rfl | rfl | rfl | rfl | rfl | rfl | rfl | rfl | rfl | rfl | rfl | rfl | rfl | rfl | rfl | rfl | rfl | rfl | rfl | rfl | rfl | rfl | rfl | rfl | rfl | rfl | rfl | rfl | rfl | rfl | rfl | rfl | rfl | rfl | rfl | rfl | rfl | rfl | rfl | rfl | rfl | rfl | rfl | rfl | rfl | rfl | rfl | rfl | rfl | rfl | rfl | rfl
  · exact s288k1 H
  · exact s288k2 H
  · exact s288k3 H
  · exact s288k4 H
  · exact s288k5 H
  · exact s288k6 H
  · exact s288k7 H
  · exact s288k8 H
  · exact s288k9 H
  · exact s288k10 H
  · exact s288k11 H
  · exact s288k12 H
  · exact s288k13 H
  · exact s288k14 H
  · exact s288k15 H
  · exact s288k16 H
  · exact s288k17 H
  · exact s288k18 H
  · exact s288k19 H
  · exact s288k20 H
  · exact s288k21 H
  · exact s288k22 H
  · exact s288k23 H
  · exact s288k24 H
  · exact s288k25 H
  · exact s288k26 H
  · exact s288k27 H
  · exact s288k28 H
  · exact s288k29 H
  · exact s288k30 H
  · exact s288k31 H
  · exact s288k32 H
  · exact s288k33 H
  · exact s288k34 H
  · exact s288k35 H
  · exact s288k36 H
  · exact s288k37 H
  · exact s288k38 H
  · exact s288k39 H
  · exact s288k40 H
  · exact s288k41 H
  · exact s288k42 H
  · exact s288k43 H
  · exact s288k44 H
  · exact s288k45 H
  · exact s288k46 H
  · exact s288k47 H
  · exact s288k48 H
  · exact s288k49 H
  · exact s288k50 H
  · exact s288k51 H
  · exact s288k52 H
  · exact s288k53 H
  · exact s288k54 H
  · exact s288k55 H
  · exact s288k56 H
  · exact s288k57 H
  · exact s288k58 H
  · exact s288k59 H
  · exact s288k60 H
  · exact s288k61 H
  · exact s288k62 H
  · exact s288k63 H
  · exact s288k64 H
end Go.Proofs.YtjihhflffkoffaaGreatDoor.Z
