/- Contracts of functions of the program; no condition. -/
import Derived.Test.YtjihhflffkoffaaGreatDoorWz
set_option linter.unusedSimpArgs false
set_option linter.unusedVariables false
set_option linter.unusedSectionVars false
set_option linter.unnecessarySimpa false
namespace Go.Proofs.YtjihhflffkoffaaGreatDoor.Z
open Go Go.Lm
set_option maxRecDepth 100000

theorem rwR_sh {p : PlaceC} {c : ChangeC} {N : Nd} {H : LHeap} : ∀ v H', RwR p c N H v H' → PresX [] H H' ∧ hasSh (.tuple [(.cust NdC NdC.lv), .bool]) v :=
  fun v H' ⟨h1, M, e, _⟩ => ⟨h1, by rw [e]; exact ⟨_, _, rfl⟩⟩

theorem s16 (N : Nd) (p : PlaceC) (c : ChangeC) (H : LHeap) (hN : NdAt H N) (hE : NdE H (fun _ => True) N) : CallL cfg 16 [N.root.lv, p.lv, c.lv] H (Ret (.bool true) H) := by
  refine e16t _ N.root p c H fun i3 H4 h3 p4 i5 H6 h5 p6 i7 H8 h7 p8 hI8 => ⟨_, s65 N H8 400 (by omega) (by omega) (hN.on hI8.pres), Ret.use ⟨_, rfl⟩, fun b10 H11 ⟨e10, p11⟩ => ⟨fun _ hI => .mk hI.pres, fun hb hI11 => ?_⟩⟩
  have hleft : 0 < leftT N 400 := by
    cases e10
    simpa using hb
  have hsz : (preT N).length ≤ 1000000 := by
    have h1 := leftT_size N 400 hleft
    omega
  have hS := ndSm N H hN hsz
  refine ⟨_, s68 p c N H11 (hN.on hI11.pres) hS, rwR_sh, fun x13 b14 H15 ⟨p15, M, eM, rM, aM, dM⟩ i16 H17 h16 p17 H18 p18 i19 H20 h19 p20 => ⟨rfl, fun hI20 => ⟨_, s63 c H20, Ret.use ⟨_, rfl⟩, fun x23 H24 ⟨e24, p24⟩ => ⟨rfl, fun hI24 => ?_⟩⟩⟩⟩
  simp only [LV.tuple.injEq, List.cons.injEq, LV.bool.injEq, and_true] at eM
  obtain ⟨eM, eb14⟩ := eM
  have q18 : PresX [] H15 H18 := p17.trans p18 (fun j hj => .inr (by rw [List.mem_singleton.1 hj]; exact h16))
  have q24 : PresX [] H15 H24 := (q18.trans0 p20).trans0 p24
  have hi19 : i19 < H20.next := (hI20.slot 4 _ rfl).1
  rw [e24]
  refine ⟨_, s69 p c N H24 (hN.on hI24.pres) hS, rwR_sh, fun x27 b28 H29 ⟨p29, M', eM', rM', aM', dM'⟩ H31 p31 => ⟨rfl, fun hI31 => ?_⟩⟩
  simp only [LV.tuple.injEq, List.cons.injEq, LV.bool.injEq, and_true] at eM'
  obtain ⟨eM', eb28⟩ := eM'
  have a31 : NdAt H31 M := by
    have a29 := aM.on (q24.trans0 p29)
    refine NdAt.onY p31 (NdIds.mono (fun j hj hm => ?_) aM.ids) a29
    have := List.mem_singleton.1 hm
    have := q18.next
    omega
  have a31' : NdAt H31 M' := by
    refine NdAt.onY p31 (NdIds.mono (fun j hj hm => ?_) dM') aM'
    have := List.mem_singleton.1 hm
    have := p24.next
    omega
  have hsame : sameT M M' = true := same_rw p c rM rM'
  rw [eM, eM']
  refine ⟨_, s53 M M' H31 a31 a31', Ret.use ⟨_, rfl⟩, fun b35 H36 ⟨e35, p36⟩ => ⟨fun hb => ⟨fun hbb => ⟨rfl, fun hI36 => ⟨_, s70 p c N H36 (hN.on hI36.pres) (hE.on hI36.pres) hsz, Ret.use ⟨_, rfl⟩, fun b39 H40 ⟨e39, p40⟩ => ⟨rfl, fun hI40 => ⟨_, s63 c H40, Ret.use ⟨_, rfl⟩, fun x43 H44 ⟨e44, p44⟩ => ⟨rfl, fun hI44 => ?_⟩⟩⟩⟩⟩, fun hbb => ?_⟩, fun hb => ?_⟩⟩
  · rw [e44]
    refine ⟨_, s71 p c N H44 (hN.on hI44.pres) hS hsz, Ret.use ⟨_, rfl⟩, fun b47 H48 ⟨e47, p48⟩ => ⟨fun _ hI => .mk hI.pres, fun hne => ?_⟩⟩
    cases e39; cases e47
    simp at hne
  · rw [eb14, eb28] at hbb
    simp at hbb
  · cases e35
    rw [hsame] at hb
    cases hb
end Go.Proofs.YtjihhflffkoffaaGreatDoor.Z
