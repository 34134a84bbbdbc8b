/- Contracts of functions of the program; no condition. -/
import Derived.Test.YtjihhflffkoffaaGreatDoorWk
import Derived.Test.YtjihhflffkoffaaGreatDoorCe
import Derived.Test.YtjihhflffkoffaaGreatDoorLe
import Derived.Test.YtjihhflffkoffaaGreatDoorW10
set_option linter.unusedSimpArgs false
set_option linter.unusedVariables false
set_option linter.unusedSectionVars false
set_option linter.unnecessarySimpa false
namespace Go.Proofs.YtjihhflffkoffaaGreatDoor.Z
open Go Go.Lm
set_option maxRecDepth 100000

mutual
/-- A copy: the same nodes, somewhere else. -/
def Cp : Nd → Nd → Prop
  | .mk x l, .mk y m => y.bare = x.bare ∧ Cps l m
def Cps : List Nd → List Nd → Prop
  | [], [] => True
  | n :: l, k :: m => Cp n k ∧ Cps l m
  | [], _ :: _ => False
  | _ :: _, [] => False
end
theorem Cps.snoc {n k : Nd} : ∀ {l m : List Nd}, Cps l m → Cp n k → Cps (l ++ [n]) (m ++ [k])
  | [], [], _, h => by simp only [List.nil_append, Cps]; exact ⟨h, trivial⟩
  | a :: l, b :: m, h, k => by simp only [List.cons_append, Cps] at h ⊢; exact ⟨h.1, h.2.snoc k⟩
  | [], _ :: _, h, _ => by simp only [Cps] at h
  | _ :: _, [], h, _ => by simp only [Cps] at h

theorem ndc_load {H : LHeap} {a : Option LAddr} : ∀ {l : List Nd} {i : Nat}, NdsAt H l a i → ∀ (j : Nat) (n : Nd), l[j]? = some n → loadN H ⟨(adr a).id, (adr a).ver, (adr a).off + (i + j) * 18⟩ 18 = some n.root.cs
  | [], i, h, j, n, hj => by simp at hj
  | n :: l, i, h, 0, m, hj => by
    cases hj
    unfold NdsAt at h
    have h3 := h.1.2.2
    unfold loadT at h3
    rw [show isAggT cfg.P 72 = some true by kernel_rfl, show sizeOfT cfg.P 72 = some 18 by kernel_rfl] at h3
    simp only [Option.map_eq_some_iff] at h3
    obtain ⟨cs, h4, h5⟩ := h3
    rw [Nat.add_zero, h4]
    unfold NdC.lv at h5
    rw [LV.agg.inj h5]
  | n :: l, i, h, j + 1, m, hj => by
    unfold NdsAt at h
    have := ndc_load h.2.2 j m (by simpa using hj)
    rwa [show i + 1 + j = i + (j + 1) by omega] at this

theorem cellsOf_range : ∀ (l : List Nd) (f : Nat → List LV), (∀ (j : Nat) (n : Nd), l[j]? = some n → f j = n.root.cs) → (List.range l.length).flatMap f = cellsOf l
  | [], f, _ => rfl
  | n :: l, f, h => by
    rw [List.length_cons, List.range_succ_eq_map, List.flatMap_cons, h 0 n rfl, cellsOf, List.flatMap_map]
    congr 1
    exact cellsOf_range l _ fun j m hj => h (j + 1) m (by simpa using hj)

theorem cellsOf_cells : ∀ l : List Nd, allCells (cellsOf l) = true
  | [] => rfl
  | n :: l => by rw [cellsOf]; exact allCells_app (ndc_cells _) (cellsOf_cells l)

theorem cellsOf_app2 : ∀ (l m : List Nd), cellsOf (l ++ m) = cellsOf l ++ cellsOf m
  | [], m => rfl
  | n :: l, m => by simp only [List.cons_append, cellsOf, cellsOf_app2 l m, List.append_assoc]

/-- The row of the arguments. -/
theorem nds_load {H : LHeap} {a : LAddr} {l : List Nd} (h : NdsAt H l (some a) 0) (h0 : loadN H a 0 = some []) : loadN H a (l.length * 18) = some (cellsOf l) := by
  have := loadN_rows (s := 18) h0 l.length (fun i => match l[i]? with | some n => n.root.cs | none => []) fun i hi => by
    have := ndc_load h i l[i] (List.getElem?_eq_getElem hi)
    rw [Nat.zero_add] at this
    rw [List.getElem?_eq_getElem hi]
    exact this
  rw [this, cellsOf_range l _ fun j n hj => by simp only [hj]]

/-- A clone of a slice of nodes. -/
theorem s191 (l : List Nd) (a : Option LAddr) (q : Cap) (H : LHeap) (hA : NdsAt H l a 0) (h0 : ∀ ad, a = some ad → loadN H ad 0 = some []) (hid : ∀ ad, a = some ad → ad.id < H.next) (hl : l.length ≤ 1000000000) :
    CallL cfg 191 [.slice a l.length q] H (fun v H' => PresX [] H H' ∧ ∃ a' q', v = .slice a' l.length q' ∧ RowAt H' 72 18 a' l.length q' (cellsOf l) ∧ (∀ ad, a' = some ad → H.next ≤ ad.id) ∧ (0 < l.length → q' = .free 18)) := by
  refine e191t _ a l.length q H ⟨fun h hI => ⟨hI.pres, none, .exact 0, ?_, ?_, ?_, ?_⟩, fun h H4 e4 hI4 => ?_⟩
  · cases a with
    | some a => cases h
    | none => cases l with
      | nil => rfl
      | cons n l => unfold NdsAt at hA; cases hA.1.1
  · cases a with
    | some a => cases h
    | none => cases l with
      | nil => exact .nil
      | cons n l => unfold NdsAt at hA; cases hA.1.1
  · intro ad e; cases e
  · intro hp
    cases a with
    | some a => cases h
    | none => cases l with
      | nil => simp at hp
      | cons n l => unfold NdsAt at hA; cases hA.1.1
  · cases a with
    | none => cases h
    | some a =>
      have p4 : PresX [] H H4 := by rw [e4]; exact .push _ _ _
      have hr : RowAt H4 72 18 (some ⟨H.next, 0, 0⟩) 0 (.exact 0) [] := .full ⟨H.next, 0, 0⟩ 0 [] (by rw [e4]; exact Nat.lt_succ_self _) (by rw [e4]; unfold loadN; simp only [LHeap.get_push, if_true]; rfl) rfl rfl
      have hld := (p4.keep _ (hid a rfl) (by simp)).loads a _ _ rfl (nds_load hA (h0 a rfl))
      obtain ⟨Y, a', q', H8, g1, g2, g3, g4, g5, g6⟩ := hr.append2 rowT (x := .slice (some a) l.length q) (m := l.length) (new := cellsOf l) rfl (by simp only [firstCellsL, Nat.ble_eq, Nat.le_refl, if_true]; exact hld) (by rw [cellsOf_len]) (cellsOf_cells l) (by omega)
      rw [Nat.zero_add] at g1 g3
      refine ⟨Y, a', l.length, q', H8, ⟨g1, g2, fun i hi => ?_⟩, fun hI8 => ⟨hI8.pres, a', q', rfl, by simpa using g3, fun ad e => ?_, g6⟩⟩
      · obtain ⟨ad, e, rfl⟩ := g4 i hi
        cases e
        exact ⟨.inr (Nat.le_refl _), fun k s hs => by simp [nth] at hs⟩
      · rcases g5 ad e with ⟨ad', e1, e2⟩ | e2
        · cases e1; rw [← e2]; exact Nat.le_refl _
        · exact Nat.le_trans p4.next e2

mutual
theorem ndE_ids {H H1 : LHeap} {P : Nat → Prop} : ∀ {n : Nd}, NdE H P n → NdAt H1 n → NdIds P n
  | .mk x l, h, k => by
    unfold NdE at h
    unfold NdAt at k
    unfold NdIds
    refine ⟨?_, ndsE_ids h.2 k.2.2⟩
    cases l with
    | nil => exact .inl rfl
    | cons n l =>
      refine .inr ?_
      have k2 := k.2.2
      unfold NdsAt at k2
      have h1 := k2.1.1
      cases e : x.argsA with
      | none => rw [e] at h1; cases h1
      | some a => exact (h.1 a e).1
theorem ndsE_ids {H H1 : LHeap} {P : Nat → Prop} : ∀ {l : List Nd} {a : Option LAddr} {i : Nat}, NdsE H P l → NdsAt H1 l a i → NdsIds P l
  | [], _, _, _, _ => by unfold NdsIds; trivial
  | n :: l, a, i, h, k => by
    unfold NdsE at h
    unfold NdsAt at k
    unfold NdsIds
    exact ⟨ndE_ids h.1 k.2.1, ndsE_ids h.2 k.2.2⟩
end

/-- What a copy comes to. -/
def CopR (N : Nd) (H : LHeap) : LV → LHeap → Prop :=
  fun v H' => PresX [] H H' ∧ ∃ M : Nd, v = M.root.lv ∧ Cp N M ∧ NdAt H' M ∧ NdE H' (fun j => H.next ≤ j) M

theorem copR_sh {N : Nd} {H : LHeap} : ∀ v H', CopR N H v H' → PresX [] H H' ∧ hasSh (.cust NdC NdC.lv) v :=
  fun v H' ⟨h1, M, e, _⟩ => ⟨h1, ⟨M.root, e⟩⟩

theorem nds_row2 {H : LHeap} {a : Option LAddr} {q : Cap} (ms : List Nd) (hr : RowAt H 72 18 a ms.length q (cellsOf ms)) (hm : ∀ m ∈ ms, NdAt H m) : NdsAt H ms a 0 :=
  nds_row ms hr hm ms 0 fun j n h => by rwa [Nat.zero_add]

/-- A node is written into a row. -/
theorem node_store {H : LHeap} {a : Option LAddr} {n : Nat} {A B C : List LV} (h : RowAt H 72 18 a n (.free 18) (A ++ (B ++ C))) {i : Nat} (hA : A.length = i * 18) (hB : B.length = 18) (x : NdC) :
    ∃ H', storeT cfg.P H 72 ⟨(adr a).id, (adr a).ver, (adr a).off + i * 18⟩ x.lv = some H' ∧ RowAt H' 72 18 a n (.free 18) (A ++ (x.cs ++ C)) ∧ PresX [(adr a).id] H H' := by
  obtain ⟨H', h1, h2, h3⟩ := h.store hA (V := x.cs) (ndc_len x) hB (ndc_cells x) (by omega)
  refine ⟨H', ?_, h2, h3⟩
  unfold storeT
  rw [show sizeOfT cfg.P 72 = some 18 by kernel_rfl]
  exact h1

theorem loop106 : ∀ (l2 : List Nd) (_ : ∀ n ∈ l2, ∀ H, NdAt H n → NdE H (fun _ => True) n → CallL cfg 106 [n.root.lv] H (CopR n H)) (l1 ms : List Nd) (x x8 : NdC) (H0 : LHeap) (a : Option LAddr) (k : Nat) (q : Cap) (i5 i7 : Nat) (d : Nat → LV) (H : LHeap),
    k = (l1 ++ l2).length → k ≤ 1000000000 → (∀ n ∈ l2, NdAt H0 n) → (∀ n ∈ l2, NdE H0 (fun _ => True) n) → ms.length = l1.length → Cps l1 ms → RowAt H 72 18 a k q (cellsOf ms ++ cellsOf l2) → (0 < k → q = .free 18) →
    (∀ ad, a = some ad → H0.next ≤ ad.id ∧ ad.id ≠ i5 ∧ ad.id ≠ i7) → (∀ m ∈ ms, NdAt H m) → (∀ m ∈ ms, NdE H (fun j => H0.next ≤ j ∧ j ≠ i5 ∧ j ≠ i7 ∧ ∀ ad, a = some ad → j ≠ ad.id) m) → i5 < H.next → i7 < H.next →
    GoesT cfg 106 (CopR (.mk x (l1 ++ l2)) H0) [] H0 [⟨i5, x.cs, 72⟩, ⟨i7, x8.cs, 72⟩] (L106t_0 d (l1.length : Int) a k q (k : Int)) (loopAt cfg 106 0) H
  | [], _, l1, ms, x, x8, H0, a, k, q, i5, i7, d, H, hk, hbig, hN, hE, hml, hcp, hr, hq, ha, hmA, hmE, h5, h7 => by
    intro hin hI
    rw [List.append_nil] at hk
    refine g106t_0 _ H0 d l1.length a k q k i5 x i7 x8 H ⟨fun h => ?_, fun _ H18 p18 H19 p19 hI19 => ?_⟩ hin hI
    · simp at h; omega
    · have hkm : k = ms.length := by omega
      subst hkm
      rw [cellsOf, List.append_nil] at hr
      have hrn : ∀ ad, a = some ad → ad.id < H.next := fun ad e => by subst e; exact hr.id
      have pp : PresX [i5, i7] H H19 := (p18.mono (Y := [i5, i7]) (fun i hi => by simp at hi; simp [hi])).trans p19 (fun i hi => .inl (by simp at hi; simp [hi]))
      have out : ∀ ad, a = some ad → ad.id ∉ [i5, i7] := fun ad e => by have := ha ad e; simp [this.2.1, this.2.2]
      have r19 : RowAt H19 72 18 a ms.length q (cellsOf ms) := hr.on pp.next (fun ad e => pp.keep _ (hrn ad e) (out ad e)) (fun ad e _ => (pp.keep _ (hrn ad e) (out ad e)).get)
      have hA : ∀ m ∈ ms, NdAt H19 m := fun m hm => by
        have e1 := hmE m hm
        refine NdAt.onY pp ?_ (hmA m hm)
        exact ndE_ids (P := fun j => j ∉ [i5, i7]) (NdE.mono (fun j hj _ => by simp [hj.2.1, hj.2.2.1]) e1) (hmA m hm)
      refine ⟨hI19.pres, .mk { x with argsA := a, argsL := ms.length, argsQ := q } ms, rfl, ?_, ?_, ?_⟩
      · rw [List.append_nil]
        unfold Cp
        exact ⟨rfl, hcp⟩
      · unfold NdAt
        exact ⟨rfl, by show ms.length ≤ maxLen; unfold maxLen; omega, nds_row2 ms r19 hA⟩
      · unfold NdE
        refine ⟨fun ad e => ⟨(ha ad e).1, Nat.lt_of_lt_of_le (hrn ad e) pp.next, ?_⟩, NdsE.all fun m hm => NdE.onY pp (fun j hj _ => ⟨by simp [hj.2.1, hj.2.2.1], hj.1⟩) (hmE m hm)⟩
        subst e
        exact r19.zero
  | n :: l2, hs, l1, ms, x, x8, H0, a, k, q, i5, i7, d, H, hk, hbig, hN, hE, hml, hcp, hr, hq, ha, hmA, hmE, h5, h7 => by
    intro hin hI
    rw [List.length_append, List.length_cons] at hk
    have hq' := hq (by omega)
    subst hq'
    have hrn : ∀ ad, a = some ad → ad.id < H.next := fun ad e => by subst e; exact hr.id
    obtain ⟨g1, g2, g3⟩ := hr.load (i := l1.length) (by omega)
    have hcl : (cellsOf ms).length = l1.length * 18 := by rw [cellsOf_len, hml]
    have hld : ((cellsOf ms ++ cellsOf (n :: l2)).drop (l1.length * 18)).take 18 = n.root.cs := by
      rw [← hcl, List.drop_left, cellsOf, List.take_append_of_le_length (by rw [ndc_len]; omega), List.take_of_length_le (by rw [ndc_len]; omega)]
    rw [hld] at g3
    obtain ⟨ad, rfl⟩ : ∃ ad, a = some ad := by
      cases a with
      | none => cases g1
      | some ad => exact ⟨ad, rfl⟩
    have hall : l1 ++ n :: l2 = (l1 ++ [n]) ++ l2 := by simp
    refine g106t_0 _ H0 d l1.length (some ad) k (.free 18) k i5 x i7 x8 H ⟨fun h => ⟨⟨by omega, by omega, g1⟩, fun hI => ⟨n.root, ?ld, fun hI => ⟨_, hs n List.mem_cons_self H ((hN n List.mem_cons_self).on hI.pres) ((hE n List.mem_cons_self).on hI.pres), copR_sh, fun x13 H14 ⟨p14, M, eM, cM, aM, dM⟩ => ⟨⟨by omega, by omega, g1⟩, fun hI14 => ?st⟩⟩⟩⟩, fun h => ?ge⟩ hin hI
    case ge => simp at h; omega
    case ld =>
      simp only [Int.toNat_natCast]
      exact load_agg (by kernel_rfl) (by kernel_rfl) g3
    case st =>
      have r14 : RowAt H14 72 18 (some ad) k (.free 18) (cellsOf ms ++ (n.root.cs ++ cellsOf l2)) := hr.on p14.next (fun ad e => p14.keep _ (hrn ad e) (by simp)) (fun ad e _ => (p14.keep _ (hrn ad e) (by simp)).get)
      obtain ⟨H16, k1, k2, k3⟩ := node_store r14 hcl (ndc_len _) M.root
      have hadn := hrn ad rfl
      have had := ha ad rfl
      refine ⟨H16, ⟨by simp only [Int.toNat_natCast]; rw [eM]; exact k1, .inr had.1, fun m s hs => ?_⟩, fun d17 => ?_⟩
      · match m, hs with
        | 0, hs => cases hs; exact fun e => had.2.1 e.symm
        | 1, hs => cases hs; exact fun e => had.2.2 e.symm
        | m + 2, hs => simp [nth] at hs
      · have hk' : (l1.length : Int) + 1 = (((l1 ++ [n]).length : Nat) : Int) := by simp
        rw [lwrap_small (by omega) (by omega), hk', hall]
        have k3' : PresX [ad.id] H14 H16 := k3
        have step : ∀ {m : Nd} {P : Nat → Prop}, NdAt H14 m → NdE H14 P m → (∀ j, P j → j < H14.next → j ≠ ad.id ∧ H0.next ≤ j ∧ j ≠ i5 ∧ j ≠ i7) → NdAt H16 m ∧ NdE H16 (fun j => H0.next ≤ j ∧ j ≠ i5 ∧ j ≠ i7 ∧ ∀ ad', some ad = some ad' → j ≠ ad'.id) m := by
          intro m P hA hE' hP
          refine ⟨NdAt.onY k3' (ndE_ids (P := fun j => j ∉ [ad.id]) (NdE.mono (fun j hj hl => by have := hP j hj hl; simp [this.1]) hE') hA) hA, NdE.onY k3' (fun j hj hl => ?_) hE'⟩
          have := hP j hj hl
          exact ⟨by simp [this.1], this.2.1, this.2.2.1, this.2.2.2, fun ad' e => by cases e; exact this.1⟩
        have new := step aM dM (fun j hj hl => ⟨by omega, by have := hI.pres.next; omega, by omega, by omega⟩)
        have olds : ∀ m ∈ ms, NdAt H16 m ∧ NdE H16 (fun j => H0.next ≤ j ∧ j ≠ i5 ∧ j ≠ i7 ∧ ∀ ad', some ad = some ad' → j ≠ ad'.id) m := fun m hm =>
          step ((hmA m hm).on p14) ((hmE m hm).on p14) (fun j hj hl => ⟨hj.2.2.2 ad rfl, hj.1, hj.2.1, hj.2.2.1⟩)
        refine loop106 l2 (fun m hm => hs m (List.mem_cons_of_mem _ hm)) (l1 ++ [n]) (ms ++ [M]) x x8 H0 (some ad) k (.free 18) i5 i7 d17 H16 (by simp; omega) hbig (fun m hm => hN m (List.mem_cons_of_mem _ hm)) (fun m hm => hE m (List.mem_cons_of_mem _ hm)) (by simp [hml]) (hcp.snoc cM) ?_ (fun _ => rfl) ha ?_ ?_ (by have := p14.next; have := k3'.next; omega) (by have := p14.next; have := k3'.next; omega)
        · rw [cellsOf_app, List.append_assoc]; exact k2
        · intro m hm
          rcases List.mem_append.1 hm with hm | hm
          · exact (olds m hm).1
          · rw [List.mem_singleton.1 hm]; exact new.1
        · intro m hm
          rcases List.mem_append.1 hm with hm | hm
          · exact (olds m hm).2
          · rw [List.mem_singleton.1 hm]; exact new.2

theorem NdsAt.mem {H : LHeap} : ∀ {l : List Nd} {a : Option LAddr} {i : Nat}, NdsAt H l a i → ∀ n ∈ l, NdAt H n
  | [], _, _, _, n, hn => by cases hn
  | m :: l, a, i, h, n, hn => by
    unfold NdsAt at h
    rcases List.mem_cons.1 hn with rfl | hn
    · exact h.2.1
    · exact NdsAt.mem h.2.2 n hn

theorem NdsSm.mem : ∀ {l : List Nd}, NdsSm l → ∀ n ∈ l, NdSm n
  | [], _, n, hn => by cases hn
  | m :: l, h, n, hn => by
    unfold NdsSm at h
    rcases List.mem_cons.1 hn with rfl | hn
    · exact h.1
    · exact NdsSm.mem h.2 n hn

theorem s106 (N : Nd) (H : LHeap) (hN : NdAt H N) (hE : NdE H (fun _ => True) N) (hS : NdSm N) : CallL cfg 106 [N.root.lv] H (CopR N H) := by
  match N, hN, hE, hS with
  | .mk x l, hN, hE, hS =>
    have hN' := hN
    unfold NdAt at hN'
    have hE' := hE
    unfold NdE at hE'
    unfold NdSm at hS
    obtain ⟨n1, n2, n3⟩ := hN'
    refine e106t _ x H fun i1 H2 h2 p2 i3 H4 h4 p4 hI4 => ?_
    have p24 : PresX [] H H4 := hI4.pres
    have c191 := s191 l x.argsA x.argsQ H4 (n3.on p24) (fun ad e => (p24.keep _ (hE'.1 ad e).2.1 (by simp)).loads ad _ _ rfl (hE'.1 ad e).2.2) (fun ad e => Nat.lt_of_lt_of_le (hE'.1 ad e).2.1 p24.next) (by omega)
    rw [n1] at c191
    refine ⟨_, c191, fun v H' ⟨g1, a, q, e, _⟩ => ⟨g1, a, _, q, e⟩, fun a6 l7 c8 H9 ⟨p9, a, q, e, hr, hlow, hq⟩ d10 => ?_⟩
    cases e
    intro hin hI9
    have hi1 := (hI4.slot 0 _ rfl).1
    have hi3 := (hI4.slot 1 _ rfl).1
    have hi1' : i1 < H4.next := hi1
    have hi3' : i3 < H4.next := hi3
    refine loop106 l (fun n hn H' hA hE2 => s106 n H' hA hE2 (hS.2.mem n hn)) [] [] x ⟨0, [], 0, 0, [], [], [], 0, 0, false, false, [], [], 0, 0, false, false, none, 0, .exact 0⟩ H a6 x.argsL c8 i1 i3 d10 H9 (by simpa using n1.symm) hS.1 (n3.mem) (hE'.2.mem) rfl (by unfold Cps; trivial) hr hq (fun ad e => ?_) (fun m hm => by cases hm) (fun m hm => by cases hm) (by have := p9.next; omega) (by have := p9.next; omega) hin hI9
    have := hlow ad e
    have := p24.next
    exact ⟨by omega, by omega, by omega⟩
termination_by SizeOf.sizeOf N
decreasing_by
  have := List.sizeOf_lt_of_mem hn
  simp_wf
  omega
end Go.Proofs.YtjihhflffkoffaaGreatDoor.Z
