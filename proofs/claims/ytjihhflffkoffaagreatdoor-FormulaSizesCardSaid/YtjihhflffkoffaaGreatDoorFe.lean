/- Contracts of functions of the program; no condition. -/
import Derived.Test.YtjihhflffkoffaaGreatDoorFd
import Derived.Test.YtjihhflffkoffaaGreatDoorCl
set_option linter.unusedSimpArgs false
set_option linter.unusedVariables false
set_option linter.unusedSectionVars false
set_option linter.unnecessarySimpa false
namespace Go.Proofs.YtjihhflffkoffaaGreatDoor.Z
open Go Go.Lm
set_option maxRecDepth 100000

theorem rg52 : rgFv cfg 52 0 = some (.tmp 5, #[6]) := by kernel_rfl

theorem loopOf_eqF {H : LHeap} {l : Nat} {r : LLoop} (h : H.get l = some (.loop r)) : loopOf H l = some r := by unfold loopOf; rw [h]

/-- The boxes of Size. -/
def kn52 (N : Nd) (i1 i3 : Nat) (k : Int) : List Slot := [⟨i1, N.root.cs, 72⟩, ⟨i3, [.int .i64 k], 3⟩]

section
variable (N : Nd) (i1 i3 : Nat) (y : LAddr) (d : Nat → LV) (a b : Code) (H20 : LHeap)

abbrev tm52 : List SV := P52t_0 d N.root 0 N.root y
abbrev r52 : LLoop := loop0 52 ((tm52 N y d).map (denF (kn52 N i1 i3 0))) #[6] a b H20.next
abbrev Hl52 : LHeap := (H20.push (.deferred (some []))).push (.loop (r52 N i1 i3 y d a b H20))
abbrev Y52 : List Nat := [H20.next + 1, i3]
/-- So many were seen. -/
def J52 (rest : List NdC) (K : LHeap) : Prop :=
  PresX (Y52 i3 H20) (Hl52 N i1 i3 y d a b H20) K ∧ K.get (H20.next + 1) = some (.loop (r52 N i1 i3 y d a b H20)) ∧ ∃ k : Nat, K.get i3 = some (Slot.obj ⟨i3, [.int .i64 (k : Int)], 3⟩) ∧ k + rest.length = (preT N).length

theorem inv52 {N i1 i3 y d a b H20} {H : LHeap} (hI : Inv [] H (kn52 N i1 i3 0) H20) {K : LHeap} {v : Int} (hp : PresX (Y52 i3 H20) (Hl52 N i1 i3 y d a b H20) K) (hg : K.get i3 = some (Slot.obj ⟨i3, [.int .i64 v], 3⟩)) : Inv [] H (kn52 N i1 i3 v) K := by
  have p1 : PresX [i3] H20 K := by
    refine PresX.trans (X := [i3]) ((PresX.push [i3] H20 (.deferred (some []))).trans (PresX.push [] _ (.loop (r52 N i1 i3 y d a b H20))) (fun i hi => by cases hi)) hp fun i hi => ?_
    simp only [List.mem_cons, List.not_mem_nil, or_false] at hi ⊢
    rcases hi with rfl | rfl
    · right; omega
    · left; rfl
  exact hI.callO (k := 1) (s := ⟨i3, [.int .i64 0], 3⟩) rfl p1 hg

theorem walks52 {N i1 i3 y d a b H20} {H : LHeap} (hI : Inv [] H (kn52 N i1 i3 0) H20) (hsz : (preT N).length ≤ 1000000)
    (hround : roundAt cfg 52 0 = [.code a, .beginRound, .code b]) (hbegin : beginAt cfg 52 0 = [.beginRound, .code b]) (hbody : bodyAt cfg 52 0 = [.code b]) :
    Walks (H20.next + 1) (Y52 i3 H20) (J52 N i1 i3 y d a b H20) (fun _ => False) where
  on := by
    rintro rest K K' ⟨h1, h2, k, h3, h4⟩ hp
    have hl : H20.next + 1 < K.next := h1.next
    have hi : i3 < H20.next := (hI.slot 1 _ rfl).1
    refine ⟨h1.trans0 hp, ?_, k, ?_, h4⟩
    · rw [(hp.keep _ hl (by simp)).get]; exact h2
    · rw [(hp.keep _ (by omega) (by simp)).get]; exact h3
  low := by
    rintro rest K ⟨h1, _⟩ j hj
    have hl : H20.next + 1 < K.next := h1.next
    have hi : i3 < H20.next := (hI.slot 1 _ rfl).1
    simp only [Y52, List.mem_cons, List.not_mem_nil, or_false] at hj
    omega
  yld := by
    rintro x rest K ⟨h1, h2, k, h3, h4⟩
    have hl : H20.next + 1 < K.next := h1.next
    have hi : i3 < H20.next := (hI.slot 1 _ rfl).1
    have hne : H20.next + 1 ≠ i3 := by omega
    have hIK := inv52 hI h1 h3
    rw [List.length_cons] at h4
    let Jr : Option Code → LHeap → Prop := fun j K' => j = none ∧ K'.get (H20.next + 1) = some (.loop { r52 N i1 i3 y d a b H20 with state := .busy }) ∧ PresX (Y52 i3 H20) K K' ∧ K'.get i3 = some (Slot.obj ⟨i3, [.int .i64 ((k + 1 : Nat) : Int)], 3⟩)
    refine yield_of (r := r52 N i1 i3 y d a b H20) (kn := kn52 N i1 i3 k) (tmps := setNth (tm52 N y d) 6 (.lv x.lv)) (J := Jr) (X := []) (H0 := H) h2 rfl rfl
      (fun x' hx' => List.all_eq_true.1 (show List.all (setNth (tm52 N y d) 6 (.lv x.lv)) (inR 2) = true from rfl) x' hx') hIK ?g ?j
    case g =>
      show GoesG cfg (gB 52 (H20.next + 1) Jr) [] H (kn52 N i1 i3 k) (setNth (tm52 N y d) 6 (.lv x.lv)) [.code a, .beginRound, .code b] K
      rw [← hround]
      refine b52t_0 Jr (H20.next + 1) [] H d N.root 0 N.root y x i1 N.root i3 k K fun d17 => ?_
      rw [hbegin]
      refine begin_goes (r := r52 N i1 i3 y d a b H20) h2 rfl ?_
      rw [← hbody]
      intro hin hI'
      have pb : PresX [H20.next + 1] K (K.put (H20.next + 1) (.loop { r52 N i1 i3 y d a b H20 with state := .busy })) := .put _ _ _
      have gb : (K.put (H20.next + 1) (.loop { r52 N i1 i3 y d a b H20 with state := .busy })).get (H20.next + 1) = some (.loop { r52 N i1 i3 y d a b H20 with state := .busy }) := by rw [LHeap.get_put, if_pos rfl]
      have hlb : H20.next + 1 < (K.put (H20.next + 1) (.loop { r52 N i1 i3 y d a b H20 with state := .busy })).next := Nat.lt_of_lt_of_le hl pb.next
      refine c52t_0 Jr (H20.next + 1) _ _ d17 N.root 0 N.root y i1 N.root i3 k _ (fun H8 p8 hI8 => ⟨rfl, ?_, ?_, ?_⟩) hin hI'
      · rw [(p8.keep _ hlb (by simpa using hne)).get]; exact gb
      · exact (pb.mono (Y := Y52 i3 H20) (fun i hi => by simp at hi; simp [hi])).trans p8 (fun i hi => .inl (by simp at hi; simp [hi]))
      · have := (hI8.slot 1 _ rfl).2.1
        rw [lwrap_small (by omega) (by omega)] at this
        simpa using this
    case j =>
      rintro j K' ⟨rfl, g1, pK, g3⟩
      refine ⟨_, loopOf_eqF g1, ?_⟩
      have pK' : PresX (Y52 i3 H20) K (K'.put (H20.next + 1) (.loop (r52 N i1 i3 y d a b H20))) := pK.trans (.put _ _ _) (fun i hi => .inl (by simp at hi; simp [hi]))
      refine ⟨pK', true, rfl, fun _ => ⟨h1.trans pK' (fun i hi => .inl hi), ?_, k + 1, ?_, by omega⟩, fun e => by cases e⟩
      · exact (LHeap.get_put _ _ _ _).trans (if_pos rfl)
      · exact ((LHeap.get_put _ _ _ _).trans (if_neg (fun e => hne e.symm))).trans g3
end

theorem s52 (N : Nd) (H : LHeap) (hN : NdAt H N) (hE : NdE H (fun _ => True) N) (hsz : (preT N).length ≤ 1000000) : CallL cfg 52 [N.root.lv] H (Ret (.int .i64 ((preT N).length : Int)) H) := by
  obtain ⟨a, b, hr, hround, hbegin, hbody⟩ := rg_parts rg52
  refine e52t _ N.root H fun i1 H2 h1 p2 i3 H4 h3 p4 H5 p5 hI5 => ⟨_, s45 N H5 (hN.on hI5.pres) (hE.on hI5.pres) (ndSm N H hN hsz), fun v H' ⟨g1, pp, M, e, _⟩ => ⟨g1, pp, e⟩, fun y7 H20 ⟨p20, pp, M, e45, hpl, hpn, ld, cM, aM, dM⟩ d9 => ?_⟩
  obtain rfl : pp = y7 := by
    simp only [LV.func.injEq, List.cons.injEq, LV.ptr.injEq, Option.some.injEq, true_and, and_true] at e45
    exact e45.symm
  have h3' : i3 < H5.next := (hI5.slot 1 _ rfl).1
  have hn := p20.next
  rw [hr]
  intro hin hI20
  have hI20' : Inv [] H (kn52 N i1 i3 0) H20 := hI20
  refine range_goes (C := cfg) (f := 52) (kn := kn52 N i1 i3 0) (tmps := tm52 N pp d9) (gfn := 107) (first := []) (cap := [.ptr (some pp)]) rfl (by kernel_rfl) (by kernel_rfl) (fun _ => ⟨_, s107 (walks52 (y := pp) (d := d9) hI20' hsz hround hbegin hbody) M pp _ ?ld ?nd ?ne ?sz ?j, fun v H3 ⟨p3, hJ⟩ => ?after⟩) hin hI20
  case ld => refine PresX.load0 ((PresX.push [] H20 _).trans0 (PresX.push [] _ _)) hpn ld
  case nd => exact aM.on ((PresX.push [] H20 _).trans0 (PresX.push [] _ _))
  case ne =>
    refine NdE.onY ((PresX.push [] H20 _).trans0 (PresX.push [] _ _)) (fun j hj hl => ⟨by simp, ?_⟩) dM
    simp only [Y52, List.mem_cons, List.not_mem_nil, or_false]
    omega
  case sz => rw [cM.bareT, bareT_len]; exact hsz
  case j =>
    have pp2 : PresX [] H20 (Hl52 N i1 i3 pp d9 a b H20) := (PresX.push [] H20 _).trans0 (PresX.push [] _ _)
    refine ⟨.refl _ _, (LHeap.get_push _ _ _).trans (if_pos rfl), 0, ?_, ?_⟩
    · rw [(pp2.keep i3 (by omega) (by simp)).get]; exact (hI20'.slot 1 _ rfl).2.1
    · rw [cM.bareT, bareT_len]; omega
  case after =>
    have hH : H.next ≤ H20.next := hI20'.pres.next
    rcases hJ with ⟨h1, h2, k, h3, h4⟩ | h
    · have hk : k = (preT N).length := by simpa using h4
      subst hk
      have p' : PresX (Y52 i3 H20) (Hl52 N i1 i3 pp d9 a b H20) (H3.put (H20.next + 1) (.loop { r52 N i1 i3 pp d9 a b H20 with state := .exhausted })) := h1.trans (.put _ _ _) (fun i hi => .inl (by simp at hi; simp [hi]))
      refine ⟨_, kn52 N i1 i3 (preT N).length, loopOf_eqF h2, (fun e => by cases e), rfl, ?_, inv52 hI20' p' ?_, ?_⟩
      · exact List.map_inj_left.1 (show (tm52 N pp d9).map (denF (kn52 N i1 i3 (preT N).length)) = (tm52 N pp d9).map (denF (kn52 N i1 i3 0)) from rfl)
      · rw [LHeap.get_put, if_neg (by omega)]; exact h3
      · refine a52t_0 _ H20.next [] H d9 N.root 0 N.root pp i1 N.root i3 (preT N).length _ fun hI32 => ⟨?_, rfl, hI32.pres.trans (.put _ _ _) (fun i hi => .inr (by rw [List.mem_singleton.1 hi]; exact hH))⟩
        have hlt : H20.next < (Hl52 N i1 i3 pp d9 a b H20).next := by show H20.next < H20.next + 1 + 1; omega
        rw [LHeap.get_put, if_neg (by omega), (h1.keep _ hlt (by simp; omega)).get, LHeap.get_push, if_neg (by show ¬ H20.next = H20.next + 1; omega), LHeap.get_push, if_pos rfl]
    · exact h.elim

/-- The law's loop over the arguments. -/
theorem loop10 (N : Nd) (H0 : LHeap) (i7 : Nat) (hN : NdAt H0 N) (hE : NdE H0 (fun _ => True) N) (hsz : (preT N).length ≤ 1000000) (a : Option LAddr) (q : Cap) (k : Nat) (hk : k ≤ 1000000000) : ∀ (l : List Nd) (acc : Nat) (i : Nat), i + l.length = k → NdsAt H0 l a i → NdsE H0 (fun _ => True) l → (∀ n ∈ l, NdStr n) → (∀ n ∈ l, NdSm n) → (deepF N 24 = true → ∀ n ∈ l, deepF n 24 = true) → acc + (preTs l).length = (preT N).length → ∀ (d : Nat → LV) (H : LHeap),
    GoesT cfg 10 (Ret (.bool true) H0) [] H0 [⟨i7, N.root.cs, 72⟩] (L10t_0 d (i : Int) (acc : Int) (deepF N 24) a k q (k : Int)) (loopAt cfg 10 0) H
  | [], acc, i, hi, hA, hEs, hT, hS, hD, hacc, d, H => by
    intro hin hI
    refine g10t_0 _ H0 d i acc (deepF N 24) a k q k i7 N.root H ⟨fun h => ?_, fun h hI => ⟨_, s52 N H (hN.on hI.pres) (hE.on hI.pres) hsz, Ret.use ⟨_, rfl⟩, fun n27 H28 ⟨e, _⟩ => ⟨fun _ hI => .mk hI.pres, fun h => ?_⟩⟩⟩ hin hI
    · simp at h hi; omega
    · cases e
      have : acc = (preT N).length := by simpa [preTs] using hacc
      rw [this] at h
      simp at h
  | n :: l, acc, i, hi, hA, hEs, hT, hS, hD, hacc, d, H => by
    intro hin hI
    rw [List.length_cons] at hi
    rw [preTs, List.length_append] at hacc
    unfold NdsAt at hA
    unfold NdsE at hEs
    obtain ⟨⟨n1, n2, n3⟩, n4, n5⟩ := hA
    have hk' : lwrap .i64 ((i : Int) + 1) = ((i + 1 : Nat) : Int) := by rw [lwrap_small (by omega) (by omega)]; simp
    have ha' : lwrap .i64 ((acc : Int) + ((preT n).length : Int)) = ((acc + (preT n).length : Nat) : Int) := by rw [lwrap_small (by omega) (by omega)]; simp
    have next := fun (d' : Nat → LV) (H' : LHeap) => loop10 N H0 i7 hN hE hsz a q k hk l (acc + (preT n).length) (i + 1) (by omega) n5 hEs.2 (fun m hm => hT m (List.mem_cons_of_mem _ hm)) (fun m hm => hS m (List.mem_cons_of_mem _ hm)) (fun h m hm => hD h m (List.mem_cons_of_mem _ hm)) (by omega) d' H'
    have size := fun (H' : LHeap) (p : PresX [] H0 H') => s52 n H' (n4.on p) (hEs.1.on p) (by omega)
    refine g10t_0 _ H0 d i acc (deepF N 24) a k q k i7 N.root H ⟨fun h => ⟨⟨by omega, by omega, n1⟩, fun hI => ⟨n.root, ?ld, fun i12 H13 _ _ H14 _ => ⟨fun hg hI14 => ⟨_, s46 n H14 (hT n List.mem_cons_self) (hS n List.mem_cons_self) (n4.on hI14.pres), Ret.use ⟨_, rfl⟩, fun b16 H17 ⟨e, _⟩ => ⟨fun hb => ?no, fun _ hI17 => ⟨_, size H17 hI17.pres, Ret.use ⟨_, rfl⟩, fun n19 H20 ⟨e2, _⟩ d21 => ?g1⟩⟩⟩, fun hg hI14 => ⟨_, size H14 hI14.pres, Ret.use ⟨_, rfl⟩, fun n23 H24 ⟨e2, _⟩ d25 => ?g2⟩⟩⟩⟩, fun h => ?ge⟩ hin hI
    case ge => simp at h; omega
    case ld =>
      simp only [Int.toNat_natCast]
      exact hI.pres.load0 (a := ⟨(adr a).id, (adr a).ver, (adr a).off + i * 18⟩) n2 n3
    case no =>
      cases e
      rw [hD hg n List.mem_cons_self] at hb
      cases hb
    case g1 => cases e2; rw [hk', ha']; exact next d21 H20
    case g2 => cases e2; rw [hk', ha']; exact next d25 H24

theorem s10 (N : Nd) (H : LHeap) (hN : NdAt H N) (hE : NdE H (fun _ => True) N) (hT : NdStr N) : CallL cfg 10 [N.root.lv] H (Ret (.bool true) H) := by
  match N, hN, hE, hT with
  | .mk x l, hN, hE, hT =>
    refine e10t _ x H fun i1 H2 h1 p2 hI2 => ⟨_, s42 (.mk x l) H2 400 (by omega) (by omega) (hN.on hI2.pres), Ret.use ⟨_, rfl⟩, fun b4 H5 ⟨e4, _⟩ => ⟨fun _ hI => .mk hI.pres, fun hb => ?_⟩⟩
    have hleft : 0 < leftT (.mk x l) 400 := by
      cases e4
      simpa using hb
    have hsz : (preT (.mk x l)).length ≤ 1000000 := by
      have h1 := leftT_size (.mk x l) 400 hleft
      omega
    have hS := ndSm (.mk x l) H hN hsz
    have hd := depth_le (.mk x l)
    refine ⟨rfl, fun hI5 => ⟨_, s50 (.mk x l) H5 hS (hN.on hI5.pres) hsz, Ret.use ⟨_, rfl⟩, fun n8 H9 ⟨e8, _⟩ => ⟨rfl, fun hI9 => ⟨_, s52 (.mk x l) H9 (hN.on hI9.pres) (hE.on hI9.pres) hsz, Ret.use ⟨_, rfl⟩, fun n12 H13 ⟨e12, _⟩ => ⟨fun h => ?bad1, fun _ => ⟨rfl, fun hI13 => ⟨_, s50 (.mk x l) H13 hS (hN.on hI13.pres) hsz, Ret.use ⟨_, rfl⟩, fun n18 H19 ⟨e18, _⟩ => ⟨fun h => ?bad2, fun _ hI19 => ⟨_, s46 (.mk x l) H19 hT hS (hN.on hI19.pres), Ret.use ⟨_, rfl⟩, fun b22 H23 ⟨e22, _⟩ d24 => ?go⟩⟩⟩⟩⟩⟩⟩⟩⟩
    case bad1 => cases e8; cases e12; simp at h; omega
    case bad2 => cases e18; simp at h; omega
    case go =>
      cases e22
      have hN' := hN
      unfold NdAt at hN'
      have hE' := hE
      unfold NdE at hE'
      have hT' := hT
      unfold NdStr at hT'
      unfold NdSm at hS
      refine loop10 (.mk x l) H i1 hN hE hsz x.argsA x.argsQ x.argsL hS.1 l 1 0 (by have := hN'.1; omega) hN'.2.2 hE'.2 hT'.2.mem hS.2.mem (fun h n hn => ?_) (by rw [preT, List.length_cons]; omega) d24 H23
      unfold deepF at h
      rw [if_neg (by omega)] at h
      simp only [Bool.and_eq_true] at h
      exact deepF_mono n 23 24 (by omega) (deepFs_mem h.2 n hn)
end Go.Proofs.YtjihhflffkoffaaGreatDoor.Z
