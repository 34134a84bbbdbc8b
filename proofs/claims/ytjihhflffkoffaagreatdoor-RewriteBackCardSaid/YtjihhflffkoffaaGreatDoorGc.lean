/- Contracts of functions of the program; no condition. -/
import Derived.Test.YtjihhflffkoffaaGreatDoorGb
import Derived.Test.YtjihhflffkoffaaGreatDoorPb
import Derived.Test.YtjihhflffkoffaaGreatDoorWv
set_option linter.unusedSimpArgs false
set_option linter.unusedVariables false
set_option linter.unusedSectionVars false
set_option linter.unnecessarySimpa false
namespace Go.Proofs.YtjihhflffkoffaaGreatDoor.Z
open Go Go.Lm
set_option maxRecDepth 100000

/-- A node that does not fall off. -/
def NoFall (s : ShiftC) (cols : Bool) (x : NdC) : Prop :=
  (x.kind = 2 → lwrap .i64 ((if cols then x.refCol else x.refRow) + s.n) ≤ s.most) ∧ (x.kind = 3 → x.refRow ≤ x.toRow ∧ x.refCol ≤ x.toCol ∧ lwrap .i64 ((if cols then x.toCol else x.toRow) + s.n) ≤ s.most)

/-- Some truth; of its contrary that follows. -/
def FallR (P : Prop) (H : LHeap) : LV → LHeap → Prop := fun v H' => PresX [] H H' ∧ ∃ b : Bool, v = .bool b ∧ (b = false → P)
theorem FallR.sh {P : Prop} {H : LHeap} : ∀ v H', FallR P H v H' → PresX [] H H' ∧ hasSh .bool v := fun v H' ⟨h1, b, e, _⟩ => ⟨h1, b, e⟩
theorem FallR.yes {P : Prop} {H H' : LHeap} (h : PresX [] H H') : FallR P H (.bool true) H' := ⟨h, true, rfl, fun e => by cases e⟩

theorem loop67 (x7 : NdC) (s : ShiftC) (cols : Bool) (H0 : LHeap) (i6 i8 : Nat) (xs : List NdC) (hbig : xs.length ≤ 1000000) (a : Option LAddr) (q : Cap) (P : Prop) : ∀ (m i : Nat), i + m = xs.length → ((∀ x ∈ xs.drop i, NoFall s cols x) → P) → ∀ (d : Nat → LV) (H : LHeap), RowAt H 72 18 a xs.length q (cellsC xs) →
    GoesT cfg 67 (FallR P H0) [] H0 [⟨i6, x7.cs, 72⟩, ⟨i8, s.cs, 96⟩] (L67t_0 d (i : Int) cols a xs.length q (xs.length : Int)) (loopAt cfg 67 0) H
  | 0, i, hi, hP, d, H, hr => by
    intro hin hI
    refine g67t_0 _ H0 d i cols a xs.length q xs.length i6 x7 i8 s H ⟨fun h => ?_, fun _ hI => ⟨hI.pres, false, rfl, fun _ => hP fun x hx => ?_⟩⟩ hin hI
    · simp at h; omega
    · rw [List.drop_eq_nil_of_le (by omega)] at hx; cases hx
  | m + 1, i, hi, hP, d, H, hr => by
    intro hin hI
    have hil : i < xs.length := by omega
    obtain ⟨h1, h2, h3⟩ := hr.load hil
    rw [cellsC_drop xs i xs[i] (List.getElem?_eq_getElem hil)] at h3
    have hdrop : xs.drop i = xs[i] :: xs.drop (i + 1) := List.drop_eq_getElem_cons hil
    have hk' : lwrap .i64 ((i : Int) + 1) = ((i + 1 : Nat) : Int) := by rw [lwrap_small (by omega) (by omega)]; simp
    rw [hdrop] at hP
    have next : ∀ {H' : LHeap}, PresX [] H H' → NoFall s cols xs[i] → ∀ d', GoesT cfg 67 (FallR P H0) [] H0 [⟨i6, x7.cs, 72⟩, ⟨i8, s.cs, 96⟩] (L67t_0 d' (lwrap .i64 ((i : Int) + 1)) cols a xs.length q (xs.length : Int)) (loopAt cfg 67 0) H' := by
      intro H' pr hn d'
      rw [hk']
      refine loop67 x7 s cols H0 i6 i8 xs hbig a q P m (i + 1) (by omega) (fun h => hP fun x hx => ?_) d' H' (hr.on pr.next (fun ad e => by subst e; exact pr.keep _ hr.id (by simp)) (fun ad e _ => by subst e; exact (pr.keep _ hr.id (by simp)).get))
      rcases List.mem_cons.1 hx with rfl | hx
      · exact hn
      · exact h x hx
    refine g67t_0 _ H0 d i cols a xs.length q xs.length i6 x7 i8 s H ⟨fun h => ⟨⟨by omega, by omega, h1⟩, fun hI => ⟨xs[i], ?ld, fun i13 H14 h14 p14 H15 p15 => ⟨rfl, fun hc => ⟨rfl, fun k2 => ⟨fun _ hI => .yes hI.pres, fun hf => ⟨fun k3 => ?no1, fun k3 d' => ?a1⟩⟩, fun k2 => ⟨fun k3 => ⟨fun _ hI => .yes hI.pres, fun hr1 => ⟨fun _ hI => .yes hI.pres, fun hr2 => ⟨fun _ hI => .yes hI.pres, fun hf d' => ?a2⟩⟩⟩, fun k3 d' => ?a3⟩⟩,
      fun hc => ⟨fun k2 => ⟨fun _ hI => .yes hI.pres, fun hf => ⟨fun k3 => ?no2, fun k3 d' => ?b1⟩⟩, fun k2 => ⟨fun k3 => ⟨fun _ hI => .yes hI.pres, fun hr1 => ⟨fun _ hI => .yes hI.pres, fun hr2 => ⟨fun _ hI => .yes hI.pres, fun hf d' => ?b2⟩⟩⟩, fun k3 d' => ?b3⟩⟩⟩⟩⟩, fun h => ?ge⟩ hin hI
    case ge => simp at h; omega
    case ld =>
      simp only [Int.toNat_natCast]
      exact load_agg (by kernel_rfl) (by kernel_rfl) h3
    case no1 => simp at k2 k3; omega
    case no2 => simp at k2 k3; omega
    all_goals
      have pr : PresX [] H H15 := p14.trans p15 (fun j hj => .inr (by rw [List.mem_singleton.1 hj]; exact h14))
      refine next pr ?_ d'
      unfold NoFall
      rw [hc]
    case a1 => simp at k2 k3 hf; exact ⟨fun _ => by simpa using hf, fun h => absurd h k3⟩
    case a2 => simp at k2 k3 hf hr1 hr2; exact ⟨fun h => absurd h k2, fun _ => ⟨hr1, hr2, by simpa using hf⟩⟩
    case a3 => simp at k2 k3; exact ⟨fun h => absurd h k2, fun h => absurd h k3⟩
    case b1 => simp at k2 k3 hf; exact ⟨fun _ => by simpa using hf, fun h => absurd h k3⟩
    case b2 => simp at k2 k3 hf hr1 hr2; exact ⟨fun h => absurd h k2, fun _ => ⟨hr1, hr2, by simpa using hf⟩⟩
    case b3 => simp at k2 k3; exact ⟨fun h => absurd h k2, fun h => absurd h k3⟩

theorem s67 (N : Nd) (s : ShiftC) (cols : Bool) (H : LHeap) (hN : NdAt H N) (hS : NdSm N) (hsz : (preT N).length ≤ 1000000) : CallL cfg 67 [N.root.lv, s.lv, .bool cols] H (FallR (∀ x ∈ preT N, NoFall s cols x) H) := by
  refine e67t _ N.root s cols H fun i3 H4 _ _ i5 H6 _ _ hI => ⟨_, s44 N H6 (hN.on hI.pres) hS hsz, ?_, fun a n q H11 ⟨p11, b, qb, e, rb, _⟩ d => ?_⟩
  · rintro v H' ⟨h1, a, q, e, _⟩
    exact ⟨h1, a, _, q, e⟩
  · cases e
    exact loop67 N.root s cols H i3 i5 (preT N) hsz a q _ (preT N).length 0 (by omega) (fun h => by simpa using h) d H11 rb

mutual
theorem backT_of {c : ChangeC} (hg : goodS (shiftOf c) = true) (hn : 1 ≤ c.shiftN) : ∀ {N : Nd}, AllT RightX N → (∀ x ∈ preT N, NoFall (shiftOf c) c.cols x) → BackT c N
  | .mk x l, h, hf => by
    unfold AllT at h
    obtain ⟨hq, hl⟩ := h
    unfold RightX at hq
    obtain ⟨h2, h3⟩ := hq
    have hx := hf x (by rw [preT]; exact List.mem_cons_self)
    have hg' := goodS_iff.1 hg
    have b1 : (shiftOf c).n ≤ 1000 ∧ 1 ≤ (shiftOf c).n := ⟨by omega, hn⟩
    unfold BackT
    refine ⟨⟨fun k => ?_, fun k => ?_⟩, fun k => ?_, backTs_of hg hn hl fun y hy => hf y (by rw [preT]; exact List.mem_cons_of_mem _ hy)⟩
    · obtain ⟨g1, g2, g3, g4, g5, g6, g7, _⟩ := h2 k
      have := hx.1 k
      rw [lwrap_small (by split <;> omega) (by split <;> omega)] at this
      exact ⟨g1, g2, g3, g4, g6, this⟩
    · obtain ⟨g1, g2, g3, g4, g5, g6, g7, g8, g9, g10, _⟩ := h3 k
      obtain ⟨e1, e2, e3⟩ := hx.2 k
      rw [lwrap_small (by split <;> omega) (by split <;> omega)] at e3
      exact ⟨g1, g2, g3, g5, e1, e2, e3⟩
    · rcases k with k | k
      · exact (h2 k).2.2.2.2.2.2.2
      · exact (h3 k).2.2.2.2.2.2.2.2.2.2
theorem backTs_of {c : ChangeC} (hg : goodS (shiftOf c) = true) (hn : 1 ≤ c.shiftN) : ∀ {l : List Nd}, AllTs RightX l → (∀ x ∈ preTs l, NoFall (shiftOf c) c.cols x) → BackTs c l
  | [], _, _ => by unfold BackTs; trivial
  | n :: l, h, hf => by
    unfold AllTs at h
    unfold BackTs
    exact ⟨backT_of hg hn h.1 fun x hx => hf x (by rw [preTs]; exact List.mem_append_left _ hx), backTs_of hg hn h.2 fun x hx => hf x (by rw [preTs]; exact List.mem_append_right _ hx)⟩
end

mutual
theorem rw_size {p : PlaceC} {c : ChangeC} : ∀ {N M : Nd}, RwOf p c N M → (preT M).length ≤ (preT N).length
  | .mk x l, .mk y m, h => by
    unfold RwOf at h
    rw [preT, preT, List.length_cons, List.length_cons]
    split at h
    · rw [h.2]; simp [preTs]
    · split at h
      · rw [h.2]; simp [preTs]
      · have := rws_size h.2; omega
theorem rws_size {p : PlaceC} {c : ChangeC} : ∀ {l m : List Nd}, RwsOf p c l m → (preTs m).length ≤ (preTs l).length
  | [], [], _ => by simp
  | n :: l, k :: m, h => by
    unfold RwsOf at h
    rw [preTs, preTs, List.length_append, List.length_append]
    have := rw_size h.1
    have := rws_size h.2
    omega
  | [], _ :: _, h => by unfold RwsOf at h; exact h.elim
  | _ :: _, [], h => by unfold RwsOf at h; exact h.elim
end

theorem s15 (N : Nd) (p : PlaceC) (c : ChangeC) (H : LHeap) (hN : NdAt H N) (hT : NdStr N) : CallL cfg 15 [N.root.lv, p.lv, c.lv] H (Ret (.bool true) H) := by
  refine e15t _ N.root p c H fun i3 H4 h3 p4 i5 H6 h5 p6 i7 H8 h7 p8 hI8 => ⟨_, s65 N H8 400 (by omega) (by omega) (hN.on hI8.pres), Ret.use ⟨_, rfl⟩, fun b10 H11 ⟨e10, _⟩ => ⟨fun _ hI => .mk hI.pres, fun hb hI11 => ?_⟩⟩
  have hleft : 0 < leftT N 400 := by
    cases e10
    simpa using hb
  have hsz : (preT N).length ≤ 1000000 := by
    have h1 := leftT_size N 400 hleft
    omega
  have hS := ndSm N H hN hsz
  have hroot : ∀ n : Nd, NdStr n → n.root.s.length ≤ 9223372036854775807 := by
    intro n h
    cases n with
    | mk x l =>
      unfold NdStr at h
      have := h.1
      unfold maxLen at this
      show x.s.length ≤ _
      omega
  refine ⟨_, s47 (Q := RightX) (K := NdStr) (fun x l h n hn => by unfold NdStr at h; exact h.2.mem n hn) (fun n H' hK hA => s193 n H' (hroot n hK) hA) N H11 hT hS (hN.on hI11.pres), GoodB.sh, fun b13 H14 ⟨_, b, e, hgood⟩ => ⟨fun _ hI => .mk hI.pres, fun hb13 => ⟨fun _ hI => .mk hI.pres, fun hd => ⟨fun _ hI => .mk hI.pres, fun hn hI14 => ⟨_, s66 (shiftOf c) H14, Ret.use ⟨_, rfl⟩, fun b16 H17 ⟨e16, _⟩ => ⟨fun _ hI => .mk hI.pres, fun hb16 => ⟨fun _ hI => .mk hI.pres, fun hmost hI17 => ⟨_, s67 N (shiftOf c) c.cols H17 (hN.on hI17.pres) hS hsz, FallR.sh, fun b19 H20 ⟨_, b', e', hfall⟩ => ⟨fun _ hI => .mk hI.pres, fun hb19 hI20 => ?_⟩⟩⟩⟩⟩⟩⟩⟩⟩
  have hright : AllT RightX N := by cases e; exact hgood (by simpa using hb13)
  have hnf : ∀ x ∈ preT N, NoFall (shiftOf c) c.cols x := by cases e'; exact hfall hb19
  have hg : goodS (shiftOf c) = true := by cases e16; simpa using hb16
  have hn' : 1 ≤ c.shiftN := by simpa using hn
  have hg' := goodS_iff.1 hg
  have hN1000 : c.shiftN ≤ 1000 := by
    have : (shiftOf c).n ≤ 1000 := by omega
    exact this
  refine ⟨_, s68 p c N H20 (hN.on hI20.pres) hS, fun v H' ⟨h1, M, e, _⟩ => ⟨h1, by rw [e]; exact ⟨_, _, rfl⟩⟩, fun x22 b23 H24 ⟨p24, M, eM, rM, aM, dM⟩ i25 H26 h25 p26 H27 p27 H28 p28 hI28 => ?_⟩
  simp only [LV.tuple.injEq, List.cons.injEq, LV.bool.injEq, and_true] at eM
  obtain rfl := NdC.lv_inj eM.1
  have hi7 : i7 < H20.next := (hI20.slot 2 _ rfl).1
  have a27 : NdAt H27 M := aM.on (p26.trans p27 (fun j hj => .inr (by rw [List.mem_singleton.1 hj]; exact h25)))
  have a28 : NdAt H28 M := NdAt.onY p28 (NdIds.mono (fun j hj hm => by have := List.mem_singleton.1 hm; omega) dM) a27
  have hneg : lwrap .i64 ((0 : Int) - c.shiftN) = -c.shiftN := by rw [lwrap_small (by omega) (by omega)]; omega
  have hszM := Nat.le_trans (rw_size rM) hsz
  rw [hneg]
  refine ⟨_, s68 p (backC c) M H28 a28 (ndSm M H28 a28 hszM), fun v H' ⟨h1, M, e, _⟩ => ⟨h1, by rw [e]; exact ⟨_, _, rfl⟩⟩, fun x30 b31 H32 ⟨p32, K, eK, rK, aK, dK⟩ i33 H34 h33 p34 H35 p35 hI35 => ?_⟩
  simp only [LV.tuple.injEq, List.cons.injEq, LV.bool.injEq, and_true] at eK
  obtain rfl := NdC.lv_inj eK.1
  have a35 : NdAt H35 K := aK.on (p34.trans p35 (fun j hj => .inr (by rw [List.mem_singleton.1 hj]; exact h33)))
  have hsame := back_rw hd hg hn' (backT_of hg hn' hright hnf) rM rK
  refine ⟨_, s53 K N H35 a35 (hN.on hI35.pres), Ret.use ⟨_, rfl⟩, fun b37 H38 ⟨e37, _⟩ => ⟨fun _ hI => .mk hI.pres, fun hb37 => ?_⟩⟩
  cases e37
  rw [hsame] at hb37
  cases hb37
end Go.Proofs.YtjihhflffkoffaaGreatDoor.Z
