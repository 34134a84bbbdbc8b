/- Contracts of functions of the program; no condition. -/
import Derived.Test.YtjihhflffkoffaaGreatDoorWn
set_option linter.unusedSimpArgs false
set_option linter.unusedVariables false
set_option linter.unusedSectionVars false
set_option linter.unnecessarySimpa false
namespace Go.Proofs.YtjihhflffkoffaaGreatDoor.Z
open Go Go.Lm
set_option maxRecDepth 100000

/-- What the turner's node comes to. -/
def NodeR (p : PlaceC) (c : ChangeC) (q : LAddr) (i : Nat) (b : Bool) (N : Nd) (H0 : LHeap) : LV → LHeap → Prop :=
  fun v H' => PresX [i] H0 H' ∧ ∃ M : Nd, v = M.root.lv ∧ RwOf p c N M ∧ NdAt H' M ∧ NdIds (fun j => H0.next ≤ j) M ∧ TurnAt H' i p c q (b || anyT p c N)

theorem nodeR_sh {p : PlaceC} {c : ChangeC} {q : LAddr} {i : Nat} {b : Bool} {N : Nd} {H : LHeap} : ∀ v H', NodeR p c q i b N H v H' → PresX [i] H H' ∧ hasSh (.cust NdC NdC.lv) v ∧ ∃ cs, hasSh (.cust TurnC TurnC.lv) (.agg cs) ∧ List.length cs = 14 ∧ H'.get i = some (Slot.obj ⟨i, cs, 194⟩) :=
  fun v H' ⟨h1, M, e, _, _, _, hT⟩ => ⟨h1, ⟨M.root, e⟩, _, ⟨turn p c q _, rfl⟩, rfl, hT.get⟩

theorem NdC.lv_cs {a b : NdC} (h : a.lv = b.lv) : a.cs = b.cs := by
  unfold NdC.lv at h
  exact LV.agg.inj h

mutual
/-- No node has too many arguments. -/
def NdSm : Nd → Prop
  | .mk x l => x.argsL ≤ 1000000000 ∧ NdsSm l
def NdsSm : List Nd → Prop
  | [] => True
  | n :: l => NdSm n ∧ NdsSm l
end

theorem cellN_len (x : NdC) (c : ChangeC) : (cellN x c).argsL = 0 := by unfold cellN; split <;> rfl
theorem areaN_len (x : NdC) (c : ChangeC) : (areaN x c).argsL = 0 := by unfold areaN; split <;> rfl

/-- A turner's result without arguments. -/
theorem nodeR_leaf {p : PlaceC} {c : ChangeC} {q : LAddr} {i : Nat} {b d : Bool} {N : Nd} {H H' : LHeap} {kn : List Slot} {x8 x9 m : NdC} {t9 : TurnC} (hT : TurnAt H i p c q b) (hI : Inv [i] H (⟨i, t9.cs, 194⟩ :: kn) H') {H9 H10 : LHeap} (h1 : Turned i p c q (b || d) m H9 x8.lv H10) (h2 : H10.get i = some (Slot.obj ⟨i, t9.cs, 194⟩))
    (hrw : RwOf p c N (.mk m [])) (hl : m.argsL = 0) (hd : d = anyT p c N) : NodeR p c q i b N H x8.lv H' := by
  obtain ⟨e1, _, e3⟩ := h1
  refine ⟨hI.pres, .mk m [], e1, hrw, ?_, ?_, ?_⟩
  · unfold NdAt
    exact ⟨hl.symm, by rw [hl]; exact Nat.zero_le _, by unfold NdsAt; trivial⟩
  · unfold NdIds
    exact ⟨.inl rfl, by unfold NdsIds; trivial⟩
  · rw [← hd]
    refine hT.on hI.pres ?_
    rw [(hI.slot 0 _ rfl).2.1, obj_inj e3 h2]

mutual
theorem s134 (p : PlaceC) (c : ChangeC) (q : LAddr) (i : Nat) : ∀ (N : Nd) (b : Bool) (H : LHeap), TurnAt H i p c q b → NdAt H N → NdIds (· ≠ i) N → NdSm N → CallL cfg 134 [.ptr (some ⟨i, 14, 0⟩), N.root.lv] H (NodeR p c q i b N H)
  | .mk x l, b, H, hT, hN, hid, hS => by
    have hN' := hN
    have hid' := hid
    unfold NdAt at hN'
    unfold NdIds at hid'
    unfold NdSm at hS
    have loop : ¬ (x.kind = 2 ∧ ofP (refOf x) p c = true) → ¬ (x.kind = 3 ∧ ofP (refOf x) p c = true) → ∀ (i0 i2 : Nat) (H' : LHeap) (y : NdC) (d : Nat → LV),
        GoesT cfg 134 (NodeR p c q i b (.mk x l) H) [i] H [⟨i, (turn p c q b).cs, 194⟩, ⟨i0, ({ x with argsA := none, argsL := 0, argsQ := .exact 0 } : NdC).cs, 72⟩, ⟨i2, y.cs, 72⟩] (L134t_0 d (0 : Int) x.argsA x.argsL x.argsQ (x.argsL : Int)) (loopAt cfg 134 0) H' := by
      intro h2 h3 i0 i2 H' y d hin hI
      exact loop134 p c q i l [] [] x y b b H H'.next 0 none (.exact 0) i0 i2 d H' hT hN hid hN'.2.2 hid'.2 hS.2 hS.1 h2 h3 (by simp [anyTs]) (by unfold RwsOf; trivial) rfl rfl ⟨.nil, fun m hm => (by cases hm), fun m hm => (by cases hm), fun ad e => (by cases e)⟩ (Nat.le_refl _) (hI.slot 0 _ rfl).1 (hI.slot 1 _ rfl).1 (hI.slot 2 _ rfl).1 hI.pres.next hin hI
    have meant : ∀ {H3 : LHeap} {kn : List Slot}, Inv [i] H (⟨i, (turn p c q b).cs, 194⟩ :: kn) H3 → CallL cfg 140 [.ptr (some ⟨i, 14, 0⟩), (refOf x).lv] H3 (Ret (.bool (ofP (refOf x) p c)) H3) := fun hI =>
      s140 i p c q b (refOf x) _ (hT.on hI.pres (hI.slot 0 _ rfl).2.1)
    refine e134t _ i (turn p c q b) x H (.of1 hT.lt hT.get) fun i0 H1 _ _ i2 H3 _ _ => ⟨fun hk2 hI => ⟨_, meant hI, Ret.use ⟨_, rfl⟩, fun b5 H6 ⟨e5, _⟩ => ⟨fun h5 hI => ⟨_, s218 i x p c q b H6 (hT.on hI.pres (hI.slot 0 _ rfl).2.1), turned_sh, fun x8 x9 H10 h8 g8 H11 _ hI => ?cell⟩, fun h5 => ⟨fun hk3 => ?no, fun hk3 H22 _ d => ?l1⟩⟩⟩, fun hk2 => ⟨fun hk3 hI => ⟨_, meant hI, Ret.use ⟨_, rfl⟩, fun b5 H6 ⟨e5, _⟩ => ⟨fun h5 hI => ⟨_, s219 i x p c q b H6 (hT.on hI.pres (hI.slot 0 _ rfl).2.1), turned_sh, fun x8 x9 H10 h8 g8 H11 _ hI => ?area⟩, fun h5 H32 _ d => ?l2⟩⟩, fun hk3 H34 _ d => ?l3⟩⟩
    case no => simp at hk2 hk3; omega
    case cell =>
      have k2 : x.kind = 2 := by simpa using hk2
      have ho : ofP (refOf x) p c = true := by cases e5; exact h5
      exact nodeR_leaf (x9 := x8) (d := anyC x c) hT hI h8 g8 (by unfold RwOf; rw [if_pos ⟨k2, ho⟩]; exact ⟨rfl, rfl⟩) (cellN_len x c) (by unfold anyT; rw [if_pos ⟨k2, ho⟩])
    case area =>
      have k2 : ¬ x.kind = 2 := by simpa using hk2
      have k3 : x.kind = 3 := by simpa using hk3
      have ho : ofP (refOf x) p c = true := by cases e5; exact h5
      exact nodeR_leaf (x9 := x8) (d := anyA x c) hT hI h8 g8 (by unfold RwOf; rw [if_neg (fun h => k2 h.1), if_pos ⟨k3, ho⟩]; exact ⟨rfl, rfl⟩) (areaN_len x c) (by unfold anyT; rw [if_neg (fun h => k2 h.1), if_pos ⟨k3, ho⟩])
    case l1 =>
      have k3 : ¬ x.kind = 3 := by simpa using hk3
      have ho : ¬ ofP (refOf x) p c = true := by cases e5; simp [h5]
      exact loop (fun h => ho h.2) (fun h => ho h.2) i0 i2 H22 ⟨0, [], 0, 0, [], [], [], 0, 0, false, false, [], [], 0, 0, false, false, none, 0, .exact 0⟩ d
    case l2 =>
      have ho : ¬ ofP (refOf x) p c = true := by cases e5; simp [h5]
      exact loop (fun h => ho h.2) (fun h => ho h.2) i0 i2 H32 ⟨0, [], 0, 0, [], [], [], 0, 0, false, false, [], [], 0, 0, false, false, none, 0, .exact 0⟩ d
    case l3 =>
      have k2 : ¬ x.kind = 2 := by simpa using hk2
      have k3 : ¬ x.kind = 3 := by simpa using hk3
      exact loop (fun h => k2 h.1) (fun h => k3 h.1) i0 i2 H34 ⟨0, [], 0, 0, [], [], [], 0, 0, false, false, [], [], 0, 0, false, false, none, 0, .exact 0⟩ d
theorem loop134 (p : PlaceC) (c : ChangeC) (q : LAddr) (i : Nat) : ∀ (l2 : List Nd) (l1 ms : List Nd) (x y : NdC) (b b' : Bool) (H0 : LHeap) (B : Nat) (k : Nat) (a : Option LAddr) (q' : Cap) (i20 i22 : Nat) (d : Nat → LV) (H : LHeap), TurnAt H0 i p c q b → NdAt H0 (.mk x (l1 ++ l2)) → NdIds (· ≠ i) (.mk x (l1 ++ l2)) →
    NdsAt H0 l2 x.argsA l1.length → NdsIds (· ≠ i) l2 → NdsSm l2 → x.argsL ≤ 1000000000 →
    ¬ (x.kind = 2 ∧ ofP (refOf x) p c = true) → ¬ (x.kind = 3 ∧ ofP (refOf x) p c = true) → b' = (b || anyTs p c l1) → RwsOf p c l1 ms → k = ms.length → k = l1.length → Grown H B a q' ms → B ≤ H.next → i < B → i20 < B → i22 < B → H0.next ≤ B →
    GoesT cfg 134 (NodeR p c q i b (.mk x (l1 ++ l2)) H0) [i] H0 [⟨i, (turn p c q b').cs, 194⟩, ⟨i20, ({ x with argsA := a, argsL := k, argsQ := q' } : NdC).cs, 72⟩, ⟨i22, y.cs, 72⟩] (L134t_0 d (k : Int) x.argsA x.argsL x.argsQ (x.argsL : Int)) (loopAt cfg 134 0) H
  | [], l1, ms, x, y, b, b', H0, B, k, a, q', i20, i22, d, H, hT, hN, hid, hA, hI2, hS2, hbig, hn2, hn3, hb, hrw, hk, hk1, hG, hBH, hi, hi20, hi22, hH0 => by
    intro hin hI
    have hN' := hN
    unfold NdAt at hN'
    have hlen : l1.length = x.argsL := by simpa using hN'.1
    refine g134t_0 _ H0 d k x.argsA x.argsL x.argsQ x.argsL i p.book p.sheet p.row p.col c.book c.sheet c.drop c.cols c.shiftAt c.shiftN c.shiftMost (turn p c q b') (turn p c q b') b' i20 { x with argsA := a, argsL := k, argsQ := q' } i22 y H ⟨fun h => ?_, fun _ H45 p45 hI45 => ?_⟩ hin hI
    · simp at h; omega
    · have hG' : Grown H45 B a q' ms := hG.on p45 (fun y hy => .inl (by rw [List.mem_singleton.1 hy]; exact hi22))
      have hT' := hT.on hI45.pres (hI45.slot 0 _ rfl).2.1
      refine ⟨hI45.pres, .mk { x with argsA := a, argsL := k, argsQ := q' } ms, rfl, ?_, ?_, ?_, ?_⟩
      · rw [List.append_nil]
        unfold RwOf
        rw [if_neg hn2, if_neg hn3]
        exact ⟨rfl, hrw⟩
      · unfold NdAt
        exact ⟨hk.symm, by have := hN'.2.1; show k ≤ maxLen; omega, nds_row ms hG'.row hG'.at_ ms 0 (fun j n h => by simpa using h)⟩
      · unfold NdIds
        refine ⟨?_, NdsIds.mono (fun j hj => Nat.le_trans hH0 hj.1) (NdsIds.all hG'.ids)⟩
        cases ms with
        | nil => exact .inl rfl
        | cons m ms =>
          refine .inr ?_
          have := hG'.row.load (i := 0) (by simp)
          cases a with
          | none => cases this.1
          | some ad => exact Nat.le_trans hH0 (hG'.low ad rfl)
      · unfold anyT
        rw [if_neg hn2, if_neg hn3, List.append_nil, ← hb]
        exact hT'
  | n :: l2, l1, ms, x, y, b, b', H0, B, k, a, q', i20, i22, d, H, hT, hN, hid, hA, hI2, hS2, hbig, hn2, hn3, hb, hrw, hk, hk1, hG, hBH, hi, hi20, hi22, hH0 => by
    intro hin hI
    have hN' := hN
    unfold NdAt at hN'
    have hlen : l1.length + (l2.length + 1) = x.argsL := by simpa using hN'.1
    unfold NdsAt at hA
    unfold NdsIds at hI2
    unfold NdsSm at hS2
    obtain ⟨⟨n1, n2, n3⟩, n4, n5⟩ := hA
    have hAi : (adr x.argsA).id ≠ i := by
      unfold NdIds at hid
      rcases hid.1 with e | e
      · simp at e
      · exact e
    refine g134t_0 _ H0 d k x.argsA x.argsL x.argsQ x.argsL i p.book p.sheet p.row p.col c.book c.sheet c.drop c.cols c.shiftAt c.shiftN c.shiftMost (turn p c q b') (turn p c q b') b' i20 { x with argsA := a, argsL := k, argsQ := q' } i22 y H ⟨fun h => ⟨⟨by omega, by omega, n1⟩, fun hI => ⟨n.root, ?ld, fun i27 H28 h27 p28 H29 p29 => ⟨rfl, fun hI29 => ⟨_, s134 p c q i n b' H29 (hT.on hI29.pres (hI29.slot 0 _ rfl).2.1) (NdAt.onY hI29.pres (NdIds.mono (fun j hj hm => hj (List.mem_singleton.1 hm)) hI2.1) n4) hI2.1 hS2.1, nodeR_sh, fun x32 x33 H34 ⟨p34, M, eM, rM, aM, dM, T34⟩ g34 H35 e35 => ⟨rfl, fun hI35 => ?app⟩⟩⟩⟩⟩, fun h => ?ge⟩ hin hI
    case ge => simp at h; omega
    case ld =>
      rw [hk1]
      simp only [Int.toNat_natCast]
      exact hI.pres.load (a := ⟨(adr x.argsA).id, (adr x.argsA).ver, (adr x.argsA).off + l1.length * 18⟩) n2 (by simpa using hAi) n3
    case app =>
      have p29' : PresX [] H H29 := p28.trans p29 (fun j hj => .inr (by rw [List.mem_singleton.1 hj]; exact h27))
      have G34 : Grown H34 B a q' ms := (hG.on p29' (fun y hy => by cases hy)).on p34 (fun y hy => .inl (by rw [List.mem_singleton.1 hy]; exact hi))
      have p35 : PresX [] H34 H35 := by rw [e35]; exact .push _ _ _
      have G35 : Grown H35 B a q' ms := G34.on p35 (fun y hy => by cases hy)
      have hrow : ∀ ad, a = some ad → ad.id < H.next := fun ad e => by subst e; exact hG.row.id
      obtain ⟨Y, a', q'', H40, h1, h2, h3, h4⟩ := G35.more (M := M) (x := .slice (some ⟨H34.next, 18, 0⟩) 1 (.exact 1)) (aM.on p35) (NdIds.mono (fun j hj => ⟨Nat.le_trans hBH (Nat.le_trans p29'.next hj), fun ad e => by have := hrow ad e; have := p29'.next; omega⟩) dM) (by have := p29'.next; have := p34.next; have := p35.next; omega) rfl (by
          rw [e35]
          unfold firstCellsL loadN
          simp only [LHeap.get_push, if_true]
          rw [← NdC.lv_cs eM]
          rfl) (by omega)
      refine ⟨Y, a', ms.length + 1, q'', H40, ⟨by rw [hk]; exact h1, h2, fun j hj => ?_⟩, fun H42 p42 d44 => ?_⟩
      · obtain ⟨ad, e, rfl⟩ := h4 j hj
        have := hG.low ad e
        have := hrow ad e
        refine ⟨.inr (by omega), fun m s hs => ?_⟩
        match m, hs with
        | 0, hs => cases hs; show i ≠ _; omega
        | 1, hs => cases hs; show i20 ≠ _; omega
        | 2, hs => cases hs; show i22 ≠ _; omega
        | 3, hs => cases hs; show i27 ≠ _; omega
        | m + 4, hs => simp [nth] at hs
      · rw [obj_inj g34 T34.get]
        have h40 : H.next ≤ H40.next := by have := p29'.next; have := p34.next; have := p35.next; have := h2.next; omega
        have hk' : (k : Int) + 1 = ((k + 1 : Nat) : Int) := by simp
        rw [lwrap_small (by omega) (by omega), hk']
        have hall : l1 ++ n :: l2 = (l1 ++ [n]) ++ l2 := by simp
        have := loop134 p c q i l2 (l1 ++ [n]) (ms ++ [M]) x y b (b' || anyT p c n) H0 B (k + 1) a' q'' i20 i22 d44 H42 hT (hall ▸ hN) (hall ▸ hid) (by rw [List.length_append]; exact n5) hI2.2 hS2.2 hbig hn2 hn3 (by rw [anyTs_app, hb]; simp [anyTs, Bool.or_assoc]) (hrw.snoc rM) (by rw [List.length_append, hk]; rfl) (by rw [List.length_append, hk1]; rfl)
          (h3.on p42 (fun y hy => .inl (by rw [List.mem_singleton.1 hy]; exact hi20))) (Nat.le_trans (Nat.le_trans hBH h40) p42.next) hi hi20 hi22 hH0
        rw [hall, ← hk]
        exact this
end
end Go.Proofs.YtjihhflffkoffaaGreatDoor.Z
