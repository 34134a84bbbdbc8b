/- Contracts of functions of the program; no condition. -/
import Derived.Test.YtjihhflffkoffaaGreatDoorWx
import Derived.Test.YtjihhflffkoffaaGreatDoorW11
set_option linter.unusedSimpArgs false
set_option linter.unusedVariables false
set_option linter.unusedSectionVars false
set_option linter.unnecessarySimpa false
namespace Go.Proofs.YtjihhflffkoffaaGreatDoor.Z
open Go Go.Lm
set_option maxRecDepth 100000

/-- The nodes without their arguments, from the root on. -/
def bareT (N : Nd) : List NdC := (preT N).map NdC.bare
def bareTs (l : List Nd) : List NdC := (preTs l).map NdC.bare
theorem bareT_mk (x : NdC) (l : List Nd) : bareT (.mk x l) = x.bare :: bareTs l := rfl
theorem bareTs_cons (n : Nd) (l : List Nd) : bareTs (n :: l) = bareT n ++ bareTs l := by unfold bareTs bareT; rw [preTs, List.map_append]
theorem bareT_len (N : Nd) : (bareT N).length = (preT N).length := by unfold bareT; rw [List.length_map]

mutual
theorem Cp.bareT : ∀ {N M : Nd}, Cp N M → bareT M = bareT N
  | .mk x l, .mk y m, h => by
    unfold Cp at h
    rw [bareT_mk, bareT_mk, h.1, Cps.bareTs h.2]
theorem Cps.bareTs : ∀ {l m : List Nd}, Cps l m → bareTs m = bareTs l
  | [], [], _ => rfl
  | n :: l, k :: m, h => by
    unfold Cps at h
    rw [bareTs_cons, bareTs_cons, Cp.bareT h.1, Cps.bareTs h.2]
  | [], _ :: _, h => by unfold Cps at h; exact h.elim
  | _ :: _, [], h => by unfold Cps at h; exact h.elim
end

theorem Cp.root {N M : Nd} (h : Cp N M) : M.root.bare = N.root.bare := by
  match N, M, h with
  | .mk x l, .mk y m, h => unfold Cp at h; exact h.1

/-- What a walk over nodes comes to: its owner has seen all up to the rest, or had enough. -/
def WR (Y : List Nat) (J : List NdC → LHeap → Prop) (St : LHeap → Prop) (rest : List NdC) (H : LHeap) : LV → LHeap → Prop :=
  fun v H' => PresX Y H H' ∧ ∃ b, v = .bool b ∧ (b = true → J rest H') ∧ (b = false → St H')

theorem WR.sh {Y : List Nat} {J : List NdC → LHeap → Prop} {St : LHeap → Prop} {rest : List NdC} {H : LHeap} : ∀ v H', WR Y J St rest H v H' → PresX Y H H' ∧ hasSh .bool v :=
  fun v H' ⟨h1, b, e, _⟩ => ⟨h1, b, e⟩

/-- The owner of a loop over the nodes. -/
structure Walks (l : Nat) (Y : List Nat) (J : List NdC → LHeap → Prop) (St : LHeap → Prop) : Prop where
  on : ∀ {rest H H'}, J rest H → PresX [] H H' → J rest H'
  low : ∀ {rest H}, J rest H → ∀ y ∈ Y, y < H.next
  yld : ∀ (x : NdC) (rest : List NdC) (H : LHeap), J (x.bare :: rest) H → YieldL cfg l [x.lv] H (WR Y J St rest H)

theorem loop108 {l : Nat} {Y : List Nat} {J : List NdC → LHeap → Prop} {St : LHeap → Prop} (hW : Walks l Y J St) : ∀ (l2 : List Nd) (_ : ∀ n ∈ l2, ∀ rest H, NdAt H n → NdE H (· ∉ Y) n → (bareT n).length ≤ 1000000 → J (bareT n ++ rest) H → CallL cfg 108 [n.root.lv, .func (.yield l) [] []] H (WR Y J St rest H))
    (rest : List NdC) (a : Option LAddr) (q : Cap) (k i : Nat) (d : Nat → LV) (H0 H : LHeap), i + l2.length = k → k ≤ 1000000000 → NdsAt H l2 a i → NdsE H (· ∉ Y) l2 → (∀ ad, a = some ad → ad.id ∉ Y ∧ ad.id < H.next) → (bareTs l2).length ≤ 1000000 → J (bareTs l2 ++ rest) H →
    GoesT cfg 108 (WR Y J St rest H0) Y H0 [] (L108t_0 d (i : Int) l a k q (k : Int)) (loopAt cfg 108 0) H
  | [], _, rest, a, q, k, i, d, H0, H, hk, hbig, hA, hE, ha, hsz, hJ => by
    intro hin hI
    refine g108t_0 _ Y H0 d i l a k q k H ⟨fun h => ?_, fun _ hI => ⟨hI.pres, true, rfl, fun _ => hJ, fun e => by cases e⟩⟩ hin hI
    simp at h hk; omega
  | n :: l2, hs, rest, a, q, k, i, d, H0, H, hk, hbig, hA, hE, ha, hsz, hJ => by
    intro hin hI
    rw [List.length_cons] at hk
    unfold NdsAt at hA
    unfold NdsE at hE
    rw [bareTs_cons, List.length_append] at hsz
    rw [bareTs_cons, List.append_assoc] at hJ
    obtain ⟨⟨n1, n2, n3⟩, n4, n5⟩ := hA
    obtain ⟨ad, rfl⟩ : ∃ ad, a = some ad := by
      cases a with
      | none => cases n1
      | some ad => exact ⟨ad, rfl⟩
    refine g108t_0 _ Y H0 d i l (some ad) k q k H ⟨fun h => ⟨⟨by omega, by omega, n1⟩, fun hI => ⟨n.root, ?ld, fun i9 H10 h9 p10 H11 p11 hI11 => ?call⟩⟩, fun h => ?ge⟩ hin hI
    case ge => simp at h; omega
    case ld =>
      simp only [Int.toNat_natCast]
      exact n3
    case call =>
      have p : PresX [] H H11 := p10.trans p11 (fun j hj => .inr (by rw [List.mem_singleton.1 hj]; exact h9))
      have hJ11 := hW.on hJ p
      refine ⟨_, Y, hs n List.mem_cons_self (bareTs l2 ++ rest) H11 (n4.on p) (hE.1.on p) (by omega) hJ11, WR.sh, fun y hy => ⟨.inl hy, fun m s hs => ?_⟩, fun b13 H14 ⟨p14, b, e, hT, hF⟩ => ⟨fun hb hI => ?_, fun hb d15 => ?_⟩⟩
      · match m, hs with
        | 0, hs =>
          cases hs
          have := hW.low hJ y hy
          show i9 ≠ y
          omega
        | m + 1, hs => simp [nth] at hs
      · cases e
        exact ⟨hI.pres, false, rfl, (fun e => by cases e), fun _ => hF (by simpa using hb)⟩
      · cases e
        have hk' : (i : Int) + 1 = ((i + 1 : Nat) : Int) := by simp
        rw [lwrap_small (by omega) (by omega), hk']
        have had := ha ad rfl
        have hE' := hE.2.on p
        exact loop108 hW l2 (fun m hm => hs m (List.mem_cons_of_mem _ hm)) rest (some ad) q k (i + 1) d15 H0 H14 (by omega) hbig (NdsAt.onY p14 had.1 (ndsE_ids hE' (n5.on p)) (n5.on p)) (NdsE.onY p14 (fun j hj _ => ⟨hj, hj⟩) hE') (fun ad' e => by cases e; exact ⟨had.1, Nat.lt_of_lt_of_le had.2 (Nat.le_trans p.next p14.next)⟩) (by omega) (hT (by simpa using hb))

theorem bareTs_mem : ∀ {l : List Nd} {n : Nd}, n ∈ l → (bareT n).length ≤ (bareTs l).length
  | [], n, h => by cases h
  | m :: l, n, h => by
    rw [bareTs_cons, List.length_append]
    rcases List.mem_cons.1 h with rfl | h
    · omega
    · have := bareTs_mem h; omega

theorem bareTs_len (l : List Nd) : l.length ≤ (bareTs l).length := by
  unfold bareTs
  rw [List.length_map]
  exact preTs_len l

theorem s108 {l : Nat} {Y : List Nat} {J : List NdC → LHeap → Prop} {St : LHeap → Prop} (hW : Walks l Y J St) (N : Nd) (rest : List NdC) (H : LHeap) (hN : NdAt H N) (hE : NdE H (· ∉ Y) N) (hsz : (bareT N).length ≤ 1000000) (hJ : J (bareT N ++ rest) H) :
    CallL cfg 108 [N.root.lv, .func (.yield l) [] []] H (WR Y J St rest H) := by
  match N, hN, hE, hsz, hJ with
  | .mk x m, hN, hE, hsz, hJ =>
    refine e108t _ Y x l H fun i0 H1 h0 p1 hI1 => ⟨_, s106 (.mk x m) H1 (hN.on p1) (NdE.mono (fun _ _ _ => trivial) (hE.on p1)) (ndSm _ H hN (by rw [← bareT_len]; exact hsz)), copR_sh, fun x3 H4 ⟨p4, M, eM, cM, aM, dM⟩ hI4 => ?_⟩
    have p14 := p1.trans0 p4
    have hroot : x3 = M.root := by
      have := NdC.lv_cs eM
      cases x3
      cases M with
      | mk y l =>
        cases y
        simp only [NdC.cs, Nd.root, List.cons.injEq, LV.int.injEq, LV.str.injEq, LV.bool.injEq, LV.slice.injEq, true_and, and_true] at this
        simp only [Nd.root, NdC.mk.injEq]
        obtain ⟨h0, h1, h2, h3, h4, h5, h6, h7, h8, h9, h10, h11, h12, h13, h14, h15, h16, h17, h18, h19⟩ := this
        exact ⟨h0, h1, h2, h3, h4, h5, h6, h7, h8, h9, h10, h11, h12, h13, h14, h15, h16, h17, h18, h19⟩
    have hb : x3.bare = x.bare := by rw [hroot]; exact cM.root
    rw [bareT_mk] at hsz hJ
    have hJ4 := hW.on hJ p14
    rw [List.cons_append, ← hb] at hJ4
    refine ⟨_, Y, hW.yld x3 (bareTs m ++ rest) H4 hJ4, WR.sh, fun y hy => ⟨.inl hy, fun k s hs => ?_⟩, fun b6 H7 ⟨p7, b, e, hT, hF⟩ => ⟨fun hb hI => ?_, fun hb d8 => ?_⟩⟩
    · match k, hs with
      | 0, hs =>
        cases hs
        have := hW.low hJ y hy
        show i0 ≠ y
        omega
      | k + 1, hs => simp [nth] at hs
    · cases e
      exact ⟨hI.pres, false, rfl, (fun e => by cases e), fun _ => hF (by simpa using hb)⟩
    · cases e
      have hN' := hN
      unfold NdAt at hN'
      have hE' := hE
      unfold NdE at hE'
      have hlen := bareTs_len m
      rw [List.length_cons] at hsz
      have hEs := NdsE.on p14 hE'.2
      have hAs := NdsAt.on p14 hN'.2.2
      have hids := ndsE_ids hEs hAs
      intro hin hI7
      have hAs7 : NdsAt H7 m x.argsA 0 := by
        cases m with
        | nil => unfold NdsAt; trivial
        | cons n m =>
          refine NdsAt.onY p7 ?_ hids hAs
          have h1 := hN'.2.2
          unfold NdsAt at h1
          cases ea : x.argsA with
          | none => rw [ea] at h1; cases h1.1.1
          | some ad => exact (hE'.1 ad ea).1
      exact loop108 hW m (fun n hn rest' H' hA hE2 hz hJ2 => s108 hW n rest' H' hA hE2 hz hJ2) rest x.argsA x.argsQ x.argsL 0 d8 H H7 (by have := hN'.1; omega) (by have := hN'.1; omega) hAs7 (NdsE.onY p7 (fun j hj _ => ⟨hj, hj⟩) hEs)
        (fun ad e => ⟨(hE'.1 ad e).1, Nat.lt_of_lt_of_le (hE'.1 ad e).2.1 (Nat.le_trans p14.next p7.next)⟩) (by omega) (hT (by simpa using hb)) hin hI7
termination_by SizeOf.sizeOf N
decreasing_by
  have := List.sizeOf_lt_of_mem hn
  simp_wf
  omega

theorem s107 {l : Nat} {Y : List Nat} {J : List NdC → LHeap → Prop} {St : LHeap → Prop} (hW : Walks l Y J St) (N : Nd) (p : LAddr) (H : LHeap) (hp : loadT cfg.P H 72 p = some N.root.lv) (hN : NdAt H N) (hE : NdE H (· ∉ Y) N) (hsz : (bareT N).length ≤ 1000000) (hJ : J (bareT N) H) :
    CallL cfg 107 [.func (.yield l) [] [], .ptr (some p)] H (fun v H' => PresX Y H H' ∧ (J [] H' ∨ St H')) := by
  refine e107t _ Y l p H fun _ => ⟨N.root, hp, fun _ => ⟨_, Y, s108 hW N [] H hN hE hsz (by rw [List.append_nil]; exact hJ), WR.sh, fun y hy => ⟨.inl hy, fun k s hs => by simp [nth] at hs⟩, fun b3 H4 ⟨p4, b, e, hT, hF⟩ hI => ⟨hI.pres, ?_⟩⟩⟩
  cases b with
  | true => exact .inl (hT rfl)
  | false => exact .inr (hF rfl)

/-- The sequence of a tree's nodes. -/
theorem s45 (N : Nd) (H : LHeap) (hN : NdAt H N) (hE : NdE H (fun _ => True) N) (hS : NdSm N) :
    CallL cfg 45 [N.root.lv] H (fun v H' => PresX [] H H' ∧ ∃ (p : LAddr) (M : Nd), v = .func (.func 107) [] [.ptr (some p)] ∧ H.next ≤ p.id ∧ p.id < H'.next ∧ loadT cfg.P H' 72 p = some M.root.lv ∧ Cp N M ∧ NdAt H' M ∧ NdE H' (fun j => H.next ≤ j) M) := by
  refine e45t _ N.root H fun i1 H2 h1 p2 hI2 => ⟨_, s106 N H2 (hN.on p2) (hE.on p2) hS, copR_sh, fun x4 H5 ⟨p5, M, eM, cM, aM, dM⟩ H6 p6 hI6 => ?_⟩
  have hs2 := hI2.slot 0 _ rfl
  have hs6 := hI6.slot 0 _ rfl
  have h12 : i1 < H2.next := hs2.1
  refine ⟨hI6.pres, ⟨i1, 18, 0⟩, M, rfl, h1, hs6.1, ?_, cM, ?_, ?_⟩
  · rw [← eM]
    refine slotLoad_spec (s := ⟨i1, x4.cs, 72⟩) hs6.2.1 ?_
    kernel_rfl
  · refine NdAt.onY p6 (ndE_ids (P := fun j => j ∉ [i1]) (NdE.mono (fun j hj _ => ?_) dM) aM) aM
    simp
    omega
  · refine NdE.onY p6 (fun j hj _ => ⟨?_, Nat.le_trans p2.next hj⟩) dM
    simp
    omega
end Go.Proofs.YtjihhflffkoffaaGreatDoor.Z
