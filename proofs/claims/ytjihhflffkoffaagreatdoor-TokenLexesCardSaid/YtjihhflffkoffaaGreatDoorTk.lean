/- Contracts of functions of the program; no condition. -/
import Derived.Test.YtjihhflffkoffaaGreatDoorBd
import Derived.Test.YtjihhflffkoffaaGreatDoorT8
set_option linter.unusedSimpArgs false
set_option linter.unusedVariables false
set_option linter.unusedSectionVars false
set_option linter.unnecessarySimpa false
namespace Go.Proofs.YtjihhflffkoffaaGreatDoor.Z
open Go Go.Lm
set_option maxRecDepth 100000

/-! Texts in quotes -/
/-- The text up to the closing quote, and how long it is with that. -/
def qF : List UInt8 → Option (List UInt8 × Nat)
  | [] => none
  | [b] => if b == 34 then some ([], 1) else none
  | b :: c :: s => if b == 34 then (if c == 34 then (qF s).map fun r => (34 :: r.1, r.2 + 2) else some ([], 1)) else (qF (c :: s)).map fun r => (b :: r.1, r.2 + 1)
def strT (x : List UInt8) : TokC := ⟨2, 0, x, [], [], 0, 0, false, false⟩
def quotedF : List UInt8 → Option (TokC × Nat)
  | [] => none
  | _ :: t => (qF t).map fun r => (strT r.1, r.2 + 1)

theorem qF_no {b : UInt8} {s : List UInt8} (h : (b == 34) = false) : qF (b :: s) = (qF s).map fun r => (b :: r.1, r.2 + 1) := by
  cases s with
  | nil => unfold qF; rw [h]; rfl
  | cons c s => rw [qF, h]; rfl
theorem qF_two {s : List UInt8} : qF (34 :: 34 :: s) = (qF s).map fun r => (34 :: r.1, r.2 + 2) := by rw [qF]; rfl
theorem qF_end {s : List UInt8} (h : (s.take 1 == [34]) = false) : qF (34 :: s) = some ([], 1) := by
  cases s with
  | nil => rfl
  | cons c s =>
    have : (c == 34) = false := by
      rw [beq_eq_false_iff_ne] at h ⊢
      intro e; subst e; exact h rfl
    rw [qF, this]; rfl
theorem qF_cut : ∀ {s p r : List UInt8}, cutF 34 s = some (p, r) → qF s = (qF (34 :: r)).map fun x => (p ++ x.1, p.length + x.2)
  | [], p, r, h => by cases h
  | b :: s, p, r, h => by
    rw [cutF_cons] at h
    cases hb : (b == 34) with
    | true =>
      rw [hb, if_pos rfl] at h
      cases h
      rw [eq_of_beq hb]
      cases qF (34 :: s) <;> simp
    | false =>
      rw [hb, if_neg (by simp)] at h
      rw [qF_no hb]
      cases hc : cutF 34 s with
      | none => rw [hc] at h; cases h
      | some x =>
        obtain ⟨p', r'⟩ := x
        rw [hc] at h
        cases h
        rw [qF_cut hc, Option.map_map]
        cases qF (34 :: r) with
        | none => rfl
        | some x => simp; omega
theorem qF_nocut : ∀ {s : List UInt8}, cutF 34 s = none → qF s = none
  | [], h => rfl
  | b :: s, h => by
    rw [cutF_cons] at h
    cases hb : (b == 34) with
    | true => rw [hb, if_pos rfl] at h; cases h
    | false =>
      rw [hb, if_neg (by simp)] at h
      rw [qF_no hb, qF_nocut (s := s) (by
        cases hc : cutF 34 s with
        | none => rfl
        | some x => rw [hc] at h; cases h)]
      rfl

theorem BldW.elim {i : Nat} {a : Option LAddr} {t : List UInt8} {v : LV} {H : LHeap} {w : LV} {H' : LHeap} (h : BldW i a t v H w H') {p b : Option LAddr} {n : Nat} {q : Cap} (hg : H'.get i = some (Slot.obj ⟨i, [.ptr p, .slice b n q], 162⟩)) :
    Bld H' i p b n q t ∧ (∀ ad', b = some ad' → (∃ ad, a = some ad ∧ ad.id = ad'.id) ∨ H.next ≤ ad'.id) := by
  obtain ⟨_, _, a', n', q', hb, ha⟩ := h
  have h2 := hb.get
  rw [hg] at h2
  simp only [Option.some.injEq, Slot.obj, LObj.cells.injEq, List.cons.injEq, LV.ptr.injEq, LV.slice.injEq, and_true] at h2
  obtain ⟨⟨rfl, rfl, rfl, rfl⟩, _⟩ := h2
  exact ⟨hb, ha⟩

theorem idl_ok {X : List Nat} {H0 : LHeap} {a : Option LAddr} {i2 i4 : Nat} {c2 c4 : List LV} {e2 e4 : TypeId} (h : ∀ ad, a = some ad → H0.next ≤ ad.id ∧ ad.id ≠ i2) (h4 : ∀ ad, a = some ad → ad.id ≠ i4) : ∀ j ∈ idl a, okId X H0 [⟨i2, c2, e2⟩, ⟨i4, c4, e4⟩] j := by
  intro j hj
  cases a with
  | none => cases hj
  | some ad =>
    rw [List.mem_singleton.1 hj]
    refine ⟨.inr (h ad rfl).1, fun k s hs => ?_⟩
    cases k with
    | zero => cases hs; exact fun e => (h ad rfl).2 e.symm
    | succ k => cases k with
      | zero => cases hs; exact fun e => h4 ad rfl e.symm
      | succ k => simp [nth] at hs

def qL (B : List UInt8) (n : Nat) (o : Option (List UInt8 × Nat)) : LV := tokL (o.map fun r => (strT (B ++ r.1), n + r.2))

theorem loop148 (s : List UInt8) (hs : s.length ≤ 1000) (H0 : LHeap) (i2 i4 : Nat) : ∀ (m : Nat) (C A B : List UInt8) (p a : Option LAddr) (l : Nat) (c : Cap) (d : Nat → LV) (H : LHeap), C.length ≤ m → A ++ C = s → B.length + C.length ≤ 1000 →
    Bld H i4 p a l c B → (∀ ad, a = some ad → H0.next ≤ ad.id ∧ ad.id ≠ i2) → ∀ r : LV, r = qL B A.length (qF C) →
    GoesT cfg 148 (Ret r H0) [] H0 [⟨i2, zeroT.cs, 124⟩, ⟨i4, [.ptr p, .slice a l c], 162⟩] (L148t_0 d s (A.length : Int)) (loopAt cfg 148 0) H := by
  intro m
  induction m with
  | zero =>
    intro C A B p a l c d H hm hA hB hb ha r hr hin hI
    have hC : C = [] := List.eq_nil_of_length_eq_zero (by omega)
    subst hC
    rw [List.append_nil] at hA
    subst hA
    refine g148t_0 _ H0 d A A.length i2 zeroT i4 p a l c H ⟨fun h => (by simp at h), fun _ H39 _ hI => ⟨?_, hI.pres⟩⟩ hin hI
    rw [hr]; rfl
  | succ m ih =>
    intro C A B p a l c d H hm hA hB hb ha r hr hin hI
    have hlen : s.length = A.length + C.length := by rw [← hA]; simp
    have hd : subStr s (A.length : Int) ((s.length : Nat) : Int) = C := by rw [sub_drop, ← hA]; simp
    have hi2 : i2 < H.next := (hI.slot 0 _ rfl).1
    have c231 : CallL cfg 231 [.str (subStr s (A.length : Int) ((s.length : Nat) : Int)), .str [34]] H (Ret (cutL C 34) H) := by rw [hd]; exact s231 C 34 H (by omega)
    refine g148t_0 _ H0 d s A.length i2 zeroT i4 p a l c H ⟨fun h => ⟨by omega, fun _ => ⟨_, c231, Ret.use (cutL_sh _ _), fun s11 s12 b13 H14 ⟨e13, p14⟩ => ?_⟩⟩, fun h H39 _ hI => ⟨?_, hI.pres⟩⟩ hin hI
    · have q1 := cut_inv e13
      refine ⟨fun h13 H15 _ hI => ⟨?_, hI.pres⟩, fun h13 _ => ?_⟩
      · have : b13 = false := by simpa using h13
        rw [this] at q1
        rw [hr, qF_nocut q1]; rfl
      · have hb13 : b13 = true := by simpa using h13
        rw [hb13, if_pos rfl] at q1
        have hl1 := cutF_len q1
        have b14 : Bld H14 i4 p a l c B := hb.on p14 (by simp) (fun _ _ => by simp)
        have hq := qF_cut q1
        refine ⟨_, idl a, s161 i4 s11 H14 b14 (by omega), BldW.use ⟨_, _, rfl⟩, idl_ok ha hb.ne, fun n17 v18 p19 a20 l21 c22 H23 w23 g23 _ => ?_⟩
        obtain ⟨b23, n23⟩ := w23.elim g23
        have p23 := w23.2.1
        have ha23 : ∀ ad, a20 = some ad → H0.next ≤ ad.id ∧ ad.id ≠ i2 := by
          intro ad e
          rcases n23 ad e with ⟨ad', e1, e2⟩ | e1
          · rw [← e2]; exact ha ad' e1
          · have h0 := hI.pres.next
            have h1 := p14.next
            exact ⟨by omega, by omega⟩
        refine ⟨_, s232 s12 [34] H23, Ret.use ⟨_, rfl⟩, fun b25 H26 ⟨e25, p26⟩ => ?_⟩
        have b26 : Bld H26 i4 p19 a20 l21 c22 (B ++ s11) := b23.on p26 (by simp) (fun _ _ => by simp)
        have w1 : lwrap .i64 (((s.length : Nat) : Int) - ((s12.length : Nat) : Int)) = ((A.length + (s11.length + 1) : Nat) : Int) := by
          rw [lwrap_small (by omega) (by omega)]; omega
        rw [w1]
        refine ⟨fun h25 _ => ⟨_, idl a20, s112 i4 H26 b26 (by simp; omega), fun v H' ⟨k1, k2⟩ => ⟨k1, by rw [k2]; exact ⟨_, rfl⟩⟩, idl_ok ha23 b26.ne, fun s28 H29 ⟨_, e28⟩ H30 _ hI => ⟨?_, hI.pres⟩⟩, fun h25 _ => ⟨_, idl a20, s160 i4 34 H26 b26 (by simp; omega), BldW.use ⟨_, rfl⟩, idl_ok ha23 b26.ne, fun v32 p33 a34 l35 c36 H37 w37 g37 d38 => ?_⟩⟩
        · cases e28
          have hb25 : b25 = false := by simpa using h25
          have : (s12.take 1 == [34]) = false := by
            rw [hb25] at e25; exact (LV.bool.inj e25).symm
          rw [hr, hq, qF_end this]
          simp [qL, tokL, strT]
          rfl
        · have hb25 : b25 = true := by simpa using h25
          obtain ⟨b37, n37⟩ := w37.elim g37
          have : (s12.take 1 == [34]) = true := by
            rw [hb25] at e25; exact (LV.bool.inj e25).symm
          obtain ⟨C', hC'⟩ : ∃ C', s12 = 34 :: C' := by
            cases s12 with
            | nil => cases this
            | cons x y => simp at this; exact ⟨y, by rw [this]⟩
          subst hC'
          rw [lwrap_small (by omega) (by omega), show (((A.length + (s11.length + 1) : Nat) : Int)) + 1 = (((A ++ s11 ++ [34, 34]).length : Nat) : Int) by simp; omega]
          have hCe := cutF_eq q1
          refine ih C' (A ++ s11 ++ [34, 34]) (B ++ s11 ++ [34]) p33 a34 l35 c36 d38 H37 (by simp at hl1; omega) (by rw [← hA, hCe]; simp) (by simp at hl1 ⊢; omega) b37 ?_ r ?_
          · intro ad e
            rcases n37 ad e with ⟨ad', e1, e2⟩ | e1
            · rw [← e2]; exact ha23 ad' e1
            · have h0 := hI.pres.next
              have h1 := p14.next
              have h2 := p23.next
              have h3 := p26.next
              exact ⟨by omega, by omega⟩
          · rw [hr, hq, qF_two]
            cases qF C' with
            | none => rfl
            | some x =>
              simp [qL, tokL, strT]
              omega
    · have hC : C = [] := List.eq_nil_of_length_eq_zero (by simp at h; omega)
      rw [hr, hC]; rfl

theorem s148 (c : UInt8) (t : List UInt8) (hs : (c :: t).length ≤ 1000) (H : LHeap) : CallL cfg 148 [.str (c :: t)] H (Ret (tokL (quotedF (c :: t))) H) := by
  refine e148t _ (c :: t) H fun i1 H2 h2 p2 i3 H4 h4 p4 d5 hin hI => ?_
  have hs3 := hI.slot 1 _ rfl
  have hb : Bld H4 i3 none none 0 (.exact 0) [] := ⟨hs3.1, hs3.2.1, .nil, .inl rfl, (fun _ e => by cases e), (fun _ e => by cases e)⟩
  refine loop148 (c :: t) hs H i1 i3 t.length t [c] [] none none 0 (.exact 0) d5 H4 (Nat.le_refl _) rfl (by simp at hs ⊢; omega) hb (fun _ e => by cases e) _ ?_ hin hI
  rw [show quotedF (c :: t) = (qF t).map fun r => (strT r.1, r.2 + 1) from rfl]
  unfold qL
  cases qF t with
  | none => rfl
  | some x => simp [Nat.add_comm]

/-! The document's. -/
theorem loop155 (s : List UInt8) (hs : s.length ≤ 1000) (H0 : LHeap) (i3 : Nat) : ∀ (m : Nat) (C A B : List UInt8) (d : Nat → LV) (H : LHeap), C.length ≤ m → A ++ C = s → B.length + C.length ≤ 1000 →
    ∀ r : LV, r = qL B A.length (qF C) →
    GoesT cfg 155 (Ret r H0) [] H0 [⟨i3, zeroT.cs, 127⟩] (L155t_0 d (A.length : Int) B s) (loopAt cfg 155 0) H := by
  intro m
  induction m with
  | zero =>
    intro C A B d H hm hA hB r hr hin hI
    have hC : C = [] := List.eq_nil_of_length_eq_zero (by omega)
    subst hC
    rw [List.append_nil] at hA
    subst hA
    refine g155t_0 _ H0 d A.length B A i3 zeroT H ⟨fun h => (by simp at h), fun _ H39 _ hI => ⟨?_, hI.pres⟩⟩ hin hI
    rw [hr]; rfl
  | succ m ih =>
    intro C A B d H hm hA hB r hr hin hI
    cases C with
    | nil =>
      rw [List.append_nil] at hA
      subst hA
      refine g155t_0 _ H0 d A.length B A i3 zeroT H ⟨fun h => (by simp at h), fun _ H39 _ hI => ⟨?_, hI.pres⟩⟩ hin hI
      rw [hr]; rfl
    | cons b C =>
      have hlen : s.length = A.length + (C.length + 1) := by rw [← hA]; simp
      have hb : byteAt s (A.length : Int) = (b.toNat : Int) := by rw [← hA]; exact byteAt_app A b C
      have w1 : lwrap .i64 ((A.length : Int) + 1) = ((A.length + 1 : Nat) : Int) := by rw [lwrap_small (by omega) (by omega)]; simp
      have hsub : subStr s (A.length : Int) ((A.length + 1 : Nat) : Int) = [b] := by
        rw [sub_part, ← hA]; simp
      have hbe : (b == 34) = ((b.toNat : Int) == 34) := by
        rw [Bool.eq_iff_iff]
        simp only [beq_iff_eq]
        exact ⟨fun e => by rw [e]; rfl, fun e => UInt8.toNat_inj.1 (by show b.toNat = 34; omega)⟩
      refine g155t_0 _ H0 d A.length B s i3 zeroT H ⟨fun _ => ⟨by omega, fun hne => ?_, fun heq => ?_⟩, fun h => (by simp at h; omega)⟩ hin hI
      · rw [w1, hsub]
        rw [hb] at hne
        have hb34 : (b == 34) = false := by rw [hbe]; rw [bne_iff_ne] at hne; rw [beq_eq_false_iff_ne]; exact hne
        refine ⟨by omega, by simp at hB ⊢; omega, fun d8 => ?_⟩
        rw [show (((A.length + 1 : Nat) : Int)) = (((A ++ [b]).length : Nat) : Int) by simp]
        refine ih C (A ++ [b]) (B ++ [b]) d8 H (by simp at hm; omega) (by rw [← hA]; simp) (by simp at hB ⊢; omega) r ?_
        rw [hr, qF_no hb34]
        cases qF C with
        | none => rfl
        | some x => simp [qL, tokL, strT]; omega
      · rw [hb] at heq
        have hb34 : b = 34 := eq_of_beq (by rw [hbe]; simpa using heq)
        subst hb34
        rw [w1]
        refine ⟨fun hlt => ⟨by simp at hlt; omega, fun h2 => ?_, fun h2 H12 _ hI => ⟨?_, hI.pres⟩⟩, fun hge H13 _ hI => ⟨?_, hI.pres⟩⟩
        · cases C with
          | nil => simp at hlt; simp at hlen; omega
          | cons c C =>
            have hb2 : byteAt s ((A.length + 1 : Nat) : Int) = (c.toNat : Int) := by
              have := byteAt_app (A ++ [34]) c C
              rw [show A ++ [34] ++ c :: C = s by rw [← hA]; simp] at this
              rw [← this]; simp
            rw [hb2] at h2
            have hc34 : c = 34 := UInt8.toNat_inj.1 (by show c.toNat = 34; have := eq_of_beq h2; omega)
            subst hc34
            have w2 : lwrap .i64 (((A.length + 1 : Nat) : Int) + 1) = (((A ++ [34, 34]).length : Nat) : Int) := by rw [lwrap_small (by omega) (by omega)]; simp; omega
            rw [w2]
            refine ⟨by simp at hB ⊢; omega, fun d11 => ?_⟩
            refine ih C (A ++ [34, 34]) (B ++ [34]) d11 H (by simp at hm; omega) (by rw [← hA]; simp) (by simp at hB ⊢; omega) r ?_
            rw [hr, qF_two]
            cases qF C with
            | none => rfl
            | some x => simp [qL, tokL, strT]; omega
        · cases C with
          | nil => simp at hlt; simp at hlen; omega
          | cons c C =>
            have hb2 : byteAt s ((A.length + 1 : Nat) : Int) = (c.toNat : Int) := by
              have := byteAt_app (A ++ [34]) c C
              rw [show A ++ [34] ++ c :: C = s by rw [← hA]; simp] at this
              rw [← this]; simp
            rw [hb2] at h2
            have : ((c :: C).take 1 == [34]) = false := by
              rw [beq_eq_false_iff_ne] at h2 ⊢
              intro e
              simp at e
              subst e; exact h2 rfl
            rw [hr, qF_end this]
            simp [qL, tokL, strT]
            rfl
        · cases C with
          | nil =>
            rw [hr, qF_end rfl]
            simp [qL, tokL, strT]
            rfl
          | cons c C => simp at hge; simp at hlen; omega
theorem s155 (c : UInt8) (t : List UInt8) (hs : (c :: t).length ≤ 1000) (H : LHeap) : CallL cfg 155 [.str (c :: t)] H (Ret (tokL (quotedF (c :: t))) H) := by
  refine e155t _ (c :: t) H fun i1 H2 h2 p2 d3 => ?_
  refine loop155 (c :: t) hs H i1 t.length t [c] [] d3 H2 (Nat.le_refl _) rfl (by simp at hs ⊢; omega) _ ?_
  rw [show quotedF (c :: t) = (qF t).map fun r => (strT r.1, r.2 + 1) from rfl]
  unfold qL
  cases qF t with
  | none => rfl
  | some x => simp [Nat.add_comm]
end Go.Proofs.YtjihhflffkoffaaGreatDoor.Z
