/- Contracts of functions of the program; no condition. -/
import Derived.Test.YtjihhflffkoffaaGreatDoorWy
set_option linter.unusedSimpArgs false
set_option linter.unusedVariables false
set_option linter.unusedSectionVars false
set_option linter.unnecessarySimpa false
namespace Go.Proofs.YtjihhflffkoffaaGreatDoor.Z
open Go Go.Lm
set_option maxRecDepth 100000

theorem TurnAt.onY {H H' : LHeap} {i : Nat} {p : PlaceC} {c : ChangeC} {q : LAddr} {b b' : Bool} (h : TurnAt H i p c q b) {Y : List Nat} (hp : PresX Y H H') (hq : q.id ∉ Y) (hg : H'.get i = some (Slot.obj ⟨i, (turn p c q b').cs, 194⟩)) : TurnAt H' i p c q b' :=
  ⟨Nat.lt_of_lt_of_le h.lt hp.next, hg, Nat.lt_of_lt_of_le h.qlt hp.next, h.ne, hp.load (a := ⟨q.id, q.ver, q.off + 4⟩) h.qlt hq h.shift⟩

theorem names_bare (p : PlaceC) (c : ChangeC) (N : Nd) : (bareT N).any (namesX p c) = (preT N).any (namesX p c) := by
  unfold bareT
  rw [List.any_map]
  rfl

theorem rg70 : rgFv cfg 70 0 = some (.tmp 13, #[14]) := by kernel_rfl

/-- The boxes of Names. -/
def kn70 (N : Nd) (p : PlaceC) (c : ChangeC) (q : LAddr) (i3 i5 i7 i9 i13 i15 : Nat) (b : Bool) : List Slot :=
  [⟨i3, N.root.cs, 72⟩, ⟨i5, p.cs, 94⟩, ⟨i7, c.cs, 98⟩, ⟨i9, [.bool b], 4⟩, ⟨i13, (turn p c q false).cs, 194⟩, ⟨i15, [.ptr (some ⟨i13, 14, 0⟩)], 189⟩]

theorem loopOf_eq {H : LHeap} {l : Nat} {r : LLoop} (h : H.get l = some (.loop r)) : loopOf H l = some r := by unfold loopOf; rw [h]

section
variable (p : PlaceC) (c : ChangeC) (N : Nd) (q : LAddr) (i3 i5 i7 i9 i13 i15 : Nat) (y : LAddr) (d : Nat → LV) (a b : Code) (H H20 : LHeap)

abbrev tm70 : List SV := P70t_0 d N.root p c p c N.root y
abbrev r70 : LLoop := loop0 70 ((tm70 p c N y d).map (denF (kn70 N p c q i3 i5 i7 i9 i13 i15 false))) #[14] a b H20.next
abbrev Hl70 : LHeap := (H20.push (.deferred (some []))).push (.loop (r70 p c N q i3 i5 i7 i9 i13 i15 y d a b H20))
abbrev Y70 : List Nat := [H20.next + 1, i9]
/-- Nothing was found yet. -/
def J70 (rest : List NdC) (K : LHeap) : Prop :=
  PresX (Y70 i9 H20) (Hl70 p c N q i3 i5 i7 i9 i13 i15 y d a b H20) K ∧ K.get (H20.next + 1) = some (.loop (r70 p c N q i3 i5 i7 i9 i13 i15 y d a b H20)) ∧ K.get i9 = some (Slot.obj ⟨i9, [.bool false], 4⟩) ∧ rest.any (namesX p c) = (preT N).any (namesX p c) ∧ TurnAt K i13 p c q false
/-- It was found. -/
def St70 (K : LHeap) : Prop :=
  PresX (Y70 i9 H20) (Hl70 p c N q i3 i5 i7 i9 i13 i15 y d a b H20) K ∧ K.get (H20.next + 1) = some (.loop { r70 p c N q i3 i5 i7 i9 i13 i15 y d a b H20 with state := .done, pending := some .ret }) ∧ K.get i9 = some (Slot.obj ⟨i9, [.bool true], 4⟩) ∧ (preT N).any (namesX p c) = true

theorem inv70 {p c N q i3 i5 i7 i9 i13 i15 y d a b H H20} (hI : Inv [] H (kn70 N p c q i3 i5 i7 i9 i13 i15 false) H20) {K : LHeap} {v : Bool} (hp : PresX (Y70 i9 H20) (Hl70 p c N q i3 i5 i7 i9 i13 i15 y d a b H20) K) (hg : K.get i9 = some (Slot.obj ⟨i9, [.bool v], 4⟩)) :
    Inv [] H (kn70 N p c q i3 i5 i7 i9 i13 i15 v) K := by
  have p1 : PresX [i9] H20 K := by
    refine PresX.trans (X := [i9]) ((PresX.push [i9] H20 (.deferred (some []))).trans (PresX.push [] _ (.loop (r70 p c N q i3 i5 i7 i9 i13 i15 y d a b H20))) (fun i hi => by cases hi)) hp fun i hi => ?_
    simp only [List.mem_cons, List.not_mem_nil, or_false] at hi ⊢
    rcases hi with rfl | rfl
    · right; omega
    · left; rfl
  exact hI.callO (k := 3) (s := ⟨i9, [.bool false], 4⟩) rfl p1 hg

theorem walks70 {p c N q i3 i5 i7 i9 i13 i15 y d a b H H20} (hI : Inv [] H (kn70 N p c q i3 i5 i7 i9 i13 i15 false) H20) (hq : q.id < H20.next)
    (hround : roundAt cfg 70 0 = [.code a, .beginRound, .code b]) (hbegin : beginAt cfg 70 0 = [.beginRound, .code b]) (hbody : bodyAt cfg 70 0 = [.code b]) :
    Walks (H20.next + 1) (Y70 i9 H20) (J70 p c N q i3 i5 i7 i9 i13 i15 y d a b H20) (St70 p c N q i3 i5 i7 i9 i13 i15 y d a b H20) where
  on := by
    rintro rest K K' ⟨h1, h2, h3, h4, h5⟩ hp
    have hl : H20.next + 1 < K.next := h1.next
    have hi : i9 < H20.next := (hI.slot 3 _ rfl).1
    refine ⟨h1.trans0 hp, ?_, ?_, h4, ?_⟩
    · rw [(hp.keep _ hl (by simp)).get]; exact h2
    · rw [(hp.keep _ (by omega) (by simp)).get]; exact h3
    · exact h5.onY hp (by simp) (by rw [(hp.keep _ h5.lt (by simp)).get]; exact h5.get)
  low := by
    rintro rest K ⟨h1, _⟩ j hj
    have hl : H20.next + 1 < K.next := h1.next
    have hi : i9 < H20.next := (hI.slot 3 _ rfl).1
    simp only [Y70, List.mem_cons, List.not_mem_nil, or_false] at hj
    omega
  yld := by
    rintro x rest K ⟨h1, h2, h3, h4, h5⟩
    have hl : H20.next + 1 < K.next := h1.next
    have hi : i9 < H20.next := (hI.slot 3 _ rfl).1
    have hne : H20.next + 1 ≠ i9 := by omega
    have hIK := inv70 hI h1 h3
    have hx : namesX p c x.bare = namesX p c x := rfl
    let Jr : Option Code → LHeap → Prop := fun j K' => K'.get (H20.next + 1) = some (.loop { r70 p c N q i3 i5 i7 i9 i13 i15 y d a b H20 with state := .busy }) ∧ ((j = none ∧ PresX [H20.next + 1] K K' ∧ namesX p c x = false) ∨ (j = some .ret ∧ PresX (Y70 i9 H20) K K' ∧ K'.get i9 = some (Slot.obj ⟨i9, [.bool true], 4⟩) ∧ namesX p c x = true))
    refine yield_of (r := r70 p c N q i3 i5 i7 i9 i13 i15 y d a b H20) (kn := kn70 N p c q i3 i5 i7 i9 i13 i15 false) (tmps := setNth (tm70 p c N y d) 14 (.lv x.lv)) (J := Jr) (X := []) (H0 := H) h2 rfl rfl
      (fun x' hx' => List.all_eq_true.1 (show List.all (setNth (tm70 p c N y d) 14 (.lv x.lv)) (inR 6) = true from rfl) x' hx') hIK ?g ?j
    case g =>
      show GoesG cfg (gB 70 (H20.next + 1) Jr) [] H (kn70 N p c q i3 i5 i7 i9 i13 i15 false) (setNth (tm70 p c N y d) 14 (.lv x.lv)) [.code a, .beginRound, .code b] K
      rw [← hround]
      refine b70t_0 Jr (H20.next + 1) [] H d N.root p c p c N.root y x i3 N.root i5 p i7 c i9 false i13 p.book p.sheet p.row p.col c.book c.sheet c.drop c.cols c.shiftAt c.shiftN c.shiftMost (turn p c q false) (turn p c q false) false i15 (some ⟨i13, 14, 0⟩) K fun i84 H85 h84 p85 H86 p86 d87 => ?_
      have p86' : PresX [] K H86 := p85.trans p86 (fun j hj => .inr (by rw [List.mem_singleton.1 hj]; exact h84))
      have g86 : H86.get (H20.next + 1) = some (.loop (r70 p c N q i3 i5 i7 i9 i13 i15 y d a b H20)) := by rw [(p86'.keep _ hl (by simp)).get]; exact h2
      have T86 := h5.onY p86' (by simp) (by rw [(p86'.keep _ h5.lt (by simp)).get]; exact h5.get)
      rw [hbegin]
      refine begin_goes (r := r70 p c N q i3 i5 i7 i9 i13 i15 y d a b H20) g86 rfl ?_
      rw [← hbody]
      intro hin hI'
      have pb : PresX [H20.next + 1] K (H86.put (H20.next + 1) (.loop { r70 p c N q i3 i5 i7 i9 i13 i15 y d a b H20 with state := .busy })) := (p86'.mono (fun i hi => by cases hi)).trans (.put _ _ _) (fun i hi => .inl hi)
      have gb : (H86.put (H20.next + 1) (.loop { r70 p c N q i3 i5 i7 i9 i13 i15 y d a b H20 with state := .busy })).get (H20.next + 1) = some (.loop { r70 p c N q i3 i5 i7 i9 i13 i15 y d a b H20 with state := .busy }) := by rw [LHeap.get_put, if_pos rfl]
      have hlb : H20.next + 1 < (H86.put (H20.next + 1) (.loop { r70 p c N q i3 i5 i7 i9 i13 i15 y d a b H20 with state := .busy })).next := Nat.lt_of_lt_of_le hl pb.next
      have Tb : TurnAt (H86.put (H20.next + 1) (.loop { r70 p c N q i3 i5 i7 i9 i13 i15 y d a b H20 with state := .busy })) i13 p c q false :=
        T86.onY (.put _ _ _) (by simp; omega) (hI'.slot 4 _ rfl).2.1
      have stop : ∀ {H37 H38 : LHeap} {X : List Nat} {H0' : LHeap} {t : Slot}, PresX [] (H86.put (H20.next + 1) (.loop { r70 p c N q i3 i5 i7 i9 i13 i15 y d a b H20 with state := .busy })) H37 → PresX [i9] H37 H38 → Inv X H0' (kn70 N p c q i3 i5 i7 i9 i13 i15 true ++ [t]) H38 → namesX p c x = true → Jr (some .ret) H38 := by
        intro H37 H38 X H0' t p37 p38 hI38 hn
        refine ⟨?_, .inr ⟨rfl, ?_, (hI38.slot 3 _ rfl).2.1, hn⟩⟩
        · rw [(p38.keep _ (Nat.lt_of_lt_of_le hlb p37.next) (by simpa using hne)).get, (p37.keep _ hlb (by simp)).get]; exact gb
        · exact ((pb.mono (Y := Y70 i9 H20) (fun i hi => by simp at hi; simp [hi])).trans0 p37).trans p38 (fun i hi => .inl (by simp at hi; simp [hi]))
      have go : ∀ {H37 : LHeap}, PresX [] (H86.put (H20.next + 1) (.loop { r70 p c N q i3 i5 i7 i9 i13 i15 y d a b H20 with state := .busy })) H37 → namesX p c x = false → Jr none H37 := by
        intro H37 p37 hn
        refine ⟨?_, .inl ⟨rfl, pb.trans0 p37, hn⟩⟩
        rw [(p37.keep _ hlb (by simp)).get]; exact gb
      refine c70t_0 Jr (H20.next + 1) _ _ d87 N.root p c p c N.root y x i3 N.root i5 p i7 c i9 false i13 p.book p.sheet p.row p.col c.book c.sheet c.drop c.cols c.shiftAt c.shiftN c.shiftMost (turn p c q false) (turn p c q false) false i15 (some ⟨i13, 14, 0⟩) i84 x _
        ⟨fun k2 hI => ⟨_, s140 i13 p c q false (refOf x) _ Tb, Ret.use ⟨_, rfl⟩, fun b36 H37 ⟨e, p37⟩ => ⟨fun hb H38 p38 hI38 => stop (t := ⟨i84, x.cs, 72⟩) p37 p38 hI38 ?y2, fun hb hI37 => go p37 ?n2⟩⟩, fun k2 => ⟨fun k3 hI => ⟨_, s140 i13 p c q false (refOf x) _ Tb, Ret.use ⟨_, rfl⟩, fun b36 H37 ⟨e, p37⟩ => ⟨fun hb H38 p38 hI38 => stop (t := ⟨i84, x.cs, 72⟩) p37 p38 hI38 ?y3, fun hb hI37 => go p37 ?n3⟩⟩, fun k3 hI => go (.refl _ _) ?n⟩⟩ hin hI'
      case y2 => cases e; simp [namesX, k2, hb]
      case y3 => cases e; simp [namesX, k3, hb]
      case n2 => cases e; simp [namesX, hb]
      case n3 => cases e; simp [namesX, hb]
      case n => simp at k2 k3; simp [namesX, k2, k3]
    case j =>
      rintro j K' ⟨g1, hj⟩
      refine ⟨_, loopOf_eq g1, ?_⟩
      rw [List.any_cons, hx] at h4
      rcases hj with ⟨rfl, pK, hn⟩ | ⟨rfl, pK, g9, hn⟩
      · have pK' : PresX [H20.next + 1] K (K'.put (H20.next + 1) (.loop (r70 p c N q i3 i5 i7 i9 i13 i15 y d a b H20))) := pK.trans (.put _ _ _) (fun i hi => .inl hi)
        refine ⟨pK'.mono (fun i hi => by simp at hi; simp [hi]), true, rfl, fun _ => ⟨h1.trans (pK'.mono (Y := Y70 i9 H20) (fun i hi => by simp at hi; simp [hi])) (fun i hi => .inl hi), ?_, ?_, ?_, ?_⟩, fun e => by cases e⟩
        · exact (LHeap.get_put _ _ _ _).trans (if_pos rfl)
        · exact ((pK'.keep i9 (by omega) (by simp; omega)).get).trans h3
        · rw [hn, Bool.false_or] at h4; exact h4
        · exact h5.onY pK' (by simp; omega) (((pK'.keep i13 h5.lt (by have := (hI.slot 4 _ rfl).1; have e4 : i13 < H20.next := this; simp; omega)).get).trans h5.get)
      · have pK' : PresX (Y70 i9 H20) K (K'.put (H20.next + 1) (.loop { r70 p c N q i3 i5 i7 i9 i13 i15 y d a b H20 with state := .done, pending := some .ret })) := pK.trans (.put _ _ _) (fun i hi => .inl (by simp at hi; simp [hi]))
        refine ⟨pK', false, rfl, (fun e => by cases e), fun _ => ⟨h1.trans pK' (fun i hi => .inl hi), ?_, ?_, ?_⟩⟩
        · exact (LHeap.get_put _ _ _ _).trans (if_pos rfl)
        · exact ((LHeap.get_put _ _ _ _).trans (if_neg (fun e => hne e.symm))).trans g9
        · rw [hn, Bool.true_or] at h4; exact h4.symm
end

theorem s70 (p : PlaceC) (c : ChangeC) (N : Nd) (H : LHeap) (hN : NdAt H N) (hE : NdE H (fun _ => True) N) (hsz : (preT N).length ≤ 1000000) : CallL cfg 70 [N.root.lv, p.lv, c.lv] H (Ret (.bool ((preT N).any (namesX p c))) H) := by
  obtain ⟨a, b, hr, hround, hbegin, hbody⟩ := rg_parts rg70
  refine e70t _ N.root p c H fun i3 H4 h3 p4 i5 H6 h5 p6 i7 H8 h7 p8 i9 H10 h9 p10 hI10 => ⟨_, s133 p c H10, fun v H' ⟨h1, i, q, e, le, T⟩ => ⟨h1, i, (turn p c q false).cs, e, le, T.lt, ⟨turn p c q false, rfl⟩, T.get⟩, fun x12 i13 H14 ⟨p14, i, q, e, le, T⟩ g14 i15 H16 h15 p16 H17 p17 hI17 => ?_⟩
  obtain rfl : i13 = i := by cases e; rfl
  have p1417 : PresX [] H14 H17 := p16.trans p17 (fun j hj => .inr (by rw [List.mem_singleton.1 hj]; exact h15))
  refine ⟨_, s45 N H17 (hN.on hI17.pres) (hE.on hI17.pres) (ndSm N H hN hsz), fun v H' ⟨g1, pp, M, e, _⟩ => ⟨g1, pp, e⟩, fun y19 H20 ⟨p20, pp, M, e45, hpl, hpn, ld, cM, aM, dM⟩ d21 => ?_⟩
  obtain rfl : pp = y19 := by
    simp only [LV.func.injEq, List.cons.injEq, LV.ptr.injEq, Option.some.injEq, true_and, and_true] at e45
    exact e45.symm
  have hcs := obj_inj g14 T.get
  rw [hcs] at hI17 ⊢
  have hq : q.id < H20.next := Nat.lt_of_lt_of_le T.qlt (Nat.le_trans p1417.next p20.next)
  have h9 : i9 < H17.next := (hI17.slot 3 _ rfl).1
  have h13 : i13 < H17.next := (hI17.slot 4 _ rfl).1
  have T20 : TurnAt H20 i13 p c q false := T.onY (p1417.trans0 p20) (by simp) (by rw [((p1417.trans0 p20).keep _ T.lt (by simp)).get]; exact T.get)
  have hn := p20.next
  rw [hr]
  intro hin hI20
  have hI20' : Inv [] H (kn70 N p c q i3 i5 i7 i9 i13 i15 false) H20 := hI20
  refine range_goes (C := cfg) (f := 70) (kn := kn70 N p c q i3 i5 i7 i9 i13 i15 false) (tmps := tm70 p c N pp d21) (gfn := 107) (first := []) (cap := [.ptr (some pp)]) rfl (by kernel_rfl) (by kernel_rfl) (fun _ => ⟨_, s107 (walks70 (y := pp) (d := d21) hI20' hq hround hbegin hbody) M pp _ ?ld ?nd ?ne ?sz ?j, fun v H3 ⟨p3, hJ⟩ => ?after⟩) hin hI20
  case ld =>
    refine PresX.load0 ((PresX.push [] H20 _).trans0 (PresX.push [] _ _)) hpn ld
  case nd => exact aM.on ((PresX.push [] H20 _).trans0 (PresX.push [] _ _))
  case ne =>
    refine NdE.onY ((PresX.push [] H20 _).trans0 (PresX.push [] _ _)) (fun j hj hl => ⟨by simp, ?_⟩) dM
    simp only [Y70, List.mem_cons, List.not_mem_nil, or_false]
    omega
  case sz => rw [cM.bareT, bareT_len]; exact hsz
  case j =>
    have pp2 : PresX [] H20 (Hl70 p c N q i3 i5 i7 i9 i13 i15 pp d21 a b H20) := (PresX.push [] H20 _).trans0 (PresX.push [] _ _)
    refine ⟨.refl _ _, (LHeap.get_push _ _ _).trans (if_pos rfl), ?_, ?_, ?_⟩
    · rw [(pp2.keep i9 (by omega) (by simp)).get]; exact (hI20'.slot 3 _ rfl).2.1
    · rw [cM.bareT, names_bare]
    · exact T20.onY pp2 (by simp) (by rw [(pp2.keep i13 (by omega) (by simp)).get]; exact (hI20'.slot 4 _ rfl).2.1)
  case after =>
    have hH : H.next ≤ H20.next := hI20'.pres.next
    have deep : ∀ {K : LHeap} {r : LLoop} {K' : LHeap}, PresX (Y70 i9 H20) (Hl70 p c N q i3 i5 i7 i9 i13 i15 pp d21 a b H20) K → PresX [i9] (K.put (H20.next + 1) (.loop r)) K' → K'.get H20.next = some (.deferred (some [])) := by
      intro K r K' h1 h2
      have hlt : H20.next < (Hl70 p c N q i3 i5 i7 i9 i13 i15 pp d21 a b H20).next := by show H20.next < H20.next + 1 + 1; omega
      have hK : H20.next < (K.put (H20.next + 1) (.loop r)).next := Nat.lt_of_lt_of_le hlt h1.next
      rw [(h2.keep _ hK (by simp; omega)).get, LHeap.get_put, if_neg (by omega), (h1.keep _ hlt (by simp; omega)).get, LHeap.get_push, if_neg (by show ¬ H20.next = H20.next + 1; omega), LHeap.get_push, if_pos rfl]
    have put0 : ∀ {K : LHeap} {r : LLoop}, PresX (Y70 i9 H20) (Hl70 p c N q i3 i5 i7 i9 i13 i15 pp d21 a b H20) K → PresX (Y70 i9 H20) (Hl70 p c N q i3 i5 i7 i9 i13 i15 pp d21 a b H20) (K.put (H20.next + 1) (.loop r)) := fun h => h.trans (.put _ _ _) (fun i hi => .inl (by simp at hi; simp [hi]))
    have get9 : ∀ {K : LHeap} {r : LLoop} {o : Option LObj}, K.get i9 = o → (K.put (H20.next + 1) (.loop r)).get i9 = o := fun h => by rw [LHeap.get_put, if_neg (by omega)]; exact h
    rcases hJ with ⟨h1, h2, h3, h4, h5⟩ | ⟨h1, h2, h3, h4⟩
    · refine ⟨_, kn70 N p c q i3 i5 i7 i9 i13 i15 false, loopOf_eq h2, (fun e => by cases e), rfl, fun _ _ => rfl, inv70 hI20' (put0 h1) (get9 h3), ?_⟩
      refine a70t_0 _ H20.next [] H d21 N.root p c p c N.root pp i3 N.root i5 p i7 c i9 false i13 p.book p.sheet p.row p.col c.book c.sheet c.drop c.cols c.shiftAt c.shiftN c.shiftMost (turn p c q false) (turn p c q false) false i15 (some ⟨i13, 14, 0⟩) _ fun H32 p32 hI32 => ⟨deep h1 p32, ?_, hI32.pres.trans (.put _ _ _) (fun i hi => .inr (by rw [List.mem_singleton.1 hi]; exact hH))⟩
      rw [← h4]; rfl
    · refine ⟨_, kn70 N p c q i3 i5 i7 i9 i13 i15 true, loopOf_eq h2, (fun e => by cases e), rfl, ?_, inv70 hI20' (put0 h1) (get9 h3), ?_⟩
      · exact List.map_inj_left.1 (show (tm70 p c N pp d21).map (denF (kn70 N p c q i3 i5 i7 i9 i13 i15 true)) = (tm70 p c N pp d21).map (denF (kn70 N p c q i3 i5 i7 i9 i13 i15 false)) from rfl)
      · refine r70t_0 _ H20.next [] H d21 N.root p c p c N.root pp i3 N.root i5 p i7 c i9 true i13 p.book p.sheet p.row p.col c.book c.sheet c.drop c.cols c.shiftAt c.shiftN c.shiftMost (turn p c q false) (turn p c q false) false i15 (some ⟨i13, 14, 0⟩) _ fun hI32 => ⟨deep h1 (.refl _ _), ?_, hI32.pres.trans (.put _ _ _) (fun i hi => .inr (by rw [List.mem_singleton.1 hi]; exact hH))⟩
        rw [h4]
end Go.Proofs.YtjihhflffkoffaaGreatDoor.Z
