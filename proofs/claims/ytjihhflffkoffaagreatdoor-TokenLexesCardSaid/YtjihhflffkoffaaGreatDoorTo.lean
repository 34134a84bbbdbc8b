/- Contracts of functions of the program; no condition. -/
import Derived.Test.YtjihhflffkoffaaGreatDoorTn
set_option linter.unusedSimpArgs false
set_option linter.unusedVariables false
set_option linter.unusedSectionVars false
set_option linter.unnecessarySimpa false
namespace Go.Proofs.YtjihhflffkoffaaGreatDoor.Z
open Go Go.Lm
set_option maxRecDepth 100000

theorem idl_mem {a : Option LAddr} {j : Nat} (h : ∃ ad, a = some ad ∧ ad.id = j) : j ∈ idl a := by
  obtain ⟨ad, rfl, rfl⟩ := h
  exact List.mem_singleton.2 rfl

theorem st_cases (c : UInt8) : stN c = 147 ∨ stN c = 148 ∨ stN c = 149 ∨ stN c = 151 ∨ stN c = 152 := by
  unfold stN stR
  split
  · exact .inl rfl
  · split
    · exact .inr (.inl rfl)
    · split
      · exact .inr (.inr (.inl rfl))
      · split
        · exact .inr (.inr (.inr (.inl rfl)))
        · exact .inr (.inr (.inr (.inr rfl)))

theorem lex_bad {ty : TypeId} {H0 H : LHeap} {o : List TokC × Int} (ho : o = ([], 10)) (p : PresX [] H0 H) : LexS ty o H0 (.tuple [.slice none 0 (.exact 0), .int .i64 10]) H := by
  subst ho
  exact ⟨p, none, .exact 0, rfl, .nil⟩

theorem push_load {H H' : LHeap} {x : TokC} {e : TypeId} (h : H' = H.push (.cells x.cs e 9 9 .none false true)) : firstCellsL H' 9 1 (.slice (some ⟨H.next, 9, 0⟩) 1 (.exact 1)) = some x.cs := by
  have : loadN H' ⟨H.next, 9, 0⟩ 9 = some x.cs := by
    unfold loadN
    rw [h]
    simp only [LHeap.get_push, if_true]
    rfl
  unfold firstCellsL
  exact this

/-! The program's -/
theorem loop18 (H0 : LHeap) (i3 : Nat) : ∀ (m : Nat) (s : List UInt8) (acc : List TokC) (a : Option LAddr) (q : Cap) (d : Nat → LV) (v : LV) (H : LHeap), s.length < m → s.length ≤ 255 → acc.length + s.length ≤ 1000 →
    RowAt H 124 9 a acc.length q (cellsT acc) → (∀ ad, a = some ad → H0.next ≤ ad.id ∧ ad.id ≠ i3) → ∀ o, o = resO acc (lexF s) →
    GoesT cfg 18 (LexS 124 o H0) [] H0 [⟨i3, [.str s, v], 121⟩] (L18a_0 d a acc.length q) (loopAt cfg 18 0) H := by
  intro m
  induction m with
  | zero => intro s acc a q d v H hm; omega
  | succ m ih =>
    intro s acc a q d v H hm h255 hacc hr ha o ho hin hI
    have hi3 : i3 < H.next := (hI.slot 0 _ rfl).1
    rw [lexF_drop] at ho
    have hdl := dropB_le s
    cases hd : dropB s with
    | nil =>
      rw [hd, lexF_nil] at ho
      refine g18a_0 _ H0 d a acc.length q i3 s v H (fun _ => ⟨_, s73 s H, Ret.use ⟨_, rfl⟩, fun s7 H8 ⟨e7, p8⟩ H9 p9 => ⟨fun h7 hI => ?_, fun h7 => ?_⟩⟩) hin hI
      · have p89 : PresX [i3] H H9 := p8.mono (fun i hi => by cases hi) |>.trans p9 (fun i hi => .inl hi)
        rw [ho]
        refine ⟨hI.pres, a, q, by simp [resO], ?_⟩
        simp only [resO, List.append_nil]
        exact hr.on p89.next (fun ad e => by subst e; exact p89.keep _ hr.id (by simpa using (ha _ rfl).2)) (fun ad e _ => by subst e; exact (p89.keep _ hr.id (by simpa using (ha _ rfl).2)).get)
      · rw [hd] at e7
        cases e7
        simp at h7
    | cons c t =>
      rw [hd] at ho hdl
      have hbl := dropB_head hd
      have hct : (c :: t).length ≤ 255 := by omega
      rcases st_cases c with hf | hf | hf | hf | hf
      · refine g18a_0 _ H0 d a acc.length q i3 s v H (fun _ => ⟨_, s73 s H, Ret.use ⟨_, rfl⟩, fun s7 H8 ⟨e7, p8⟩ H9 p9 => ⟨fun h7 => ?_, fun h7 hI9 => ?_⟩⟩) hin hI
        · rw [hd] at e7
          cases e7
          cases h7
        · rw [hd] at e7
          cases e7
          have p89 : PresX [i3] H H9 := p8.mono (fun i hi => by cases hi) |>.trans p9 (fun i hi => .inl hi)
          have c74 := s74 i3 c t v H9 (hI9.slot 0 _ rfl).1 (hI9.slot 0 _ rfl).2.1
          rw [hf] at c74
          refine ⟨_, c74, fun w H' ⟨k1, k2, k3⟩ => ⟨k1, by rw [k2]; exact rfl, _, ⟨c :: t, rfl⟩, rfl, k3⟩, fun y11 H12 ⟨p12, _, g12⟩ g12' i13 H14 h14 p14 => ?_⟩
          rw [g12'] at g12
          simp only [Option.some.injEq, Slot.obj, LObj.cells.injEq, List.cons.injEq, LV.str.injEq, and_true] at g12
          obtain ⟨rfl, _⟩ := g12
          have hcall := st_call c t (by omega) H14
          rw [hf] at hcall
          refine ⟨rfl, fun _ => ⟨_, hcall, Ret.use (tokL_sh _), fun x17 n18 H19 ⟨e17, p19⟩ H21 p21 => ⟨fun hn hI => lex_bad ?_ hI.pres, fun hn H23 e23 hI23 => ?_⟩⟩⟩
          · rw [ho]
            have h0 : n18 = 0 := by simpa using hn
            rcases tok_inv e17 with ⟨h, _⟩ | ⟨k, h, hk⟩
            · rw [lexF_none hbl h]; rfl
            · have : k = 0 := by omega
              subst this
              rw [lexF_zero hbl h]; rfl
          · have h0 : n18 ≠ 0 := by simpa using hn
            rcases tok_inv e17 with ⟨_, h⟩ | ⟨k, h, hk⟩
            · exact absurd h h0
            · subst hk
              have hk0 : k ≠ 0 := by omega
              have hkl := one_le h
              have p12' : PresX [i3] H H12 := p89.trans p12 (fun i hi => .inl hi)
              have p19' : PresX [i3] H H19 := (p12'.trans0 p14).trans0 p19
              have p21' : PresX [i3] H H21 := p19'.trans p21 (fun i hi => by rw [List.mem_singleton.1 hi]; exact .inr (Nat.le_trans p12'.next h14))
              have p23' : PresX [i3] H H23 := p21'.trans0 (by rw [e23]; exact .push _ _ _)
              have r23 : RowAt H23 124 9 a acc.length q (cellsT acc) := hr.on p23'.next (fun ad e => by subst e; exact p23'.keep _ hr.id (by simpa using (ha _ rfl).2)) (fun ad e _ => by subst e; exact (p23'.keep _ hr.id (by simpa using (ha _ rfl).2)).get)
              obtain ⟨Y, a', q', H27, e27, p27, r27, hY, ha'⟩ := r23.append rowTk (x := .slice (some ⟨H21.next, 9, 0⟩) 1 (.exact 1)) (m := 1) (new := x17.cs) rfl (push_load e23) rfl (tok_cells _) (by omega)
              have hid : ∀ ad, a' = some ad → H0.next ≤ ad.id ∧ ad.id ≠ i3 := by
                intro ad e
                rcases ha' ad e with ⟨ad', e1, e2⟩ | e1
                · rw [← e2]; exact ha ad' e1
                · have := p23'.next
                  have := hI.pres.next
                  exact ⟨by omega, by omega⟩
              refine ⟨Y, a', acc.length + 1, q', H27, ⟨e27, p27, fun j hj => idl_ok ha (fun ad e => ?_) j (idl_mem (hY j hj))⟩, by simp at hkl ⊢; omega, fun H29 p29 d30 => ?_⟩
              · subst e
                have := hr.id
                have := p12'.next
                exact fun e => by omega
              · rw [sub_drop]
                have r29 : RowAt H29 124 9 a' (acc ++ [x17]).length q' (cellsT (acc ++ [x17])) := by
                  rw [cellsT_app, List.length_append]
                  show RowAt H29 124 9 a' (acc.length + 1) q' (cellsT acc ++ (x17.cs ++ []))
                  rw [List.append_nil]
                  exact r27.on p29.next (fun ad e => by subst e; exact p29.keep _ r27.id (by simpa using (hid _ rfl).2)) (fun ad e _ => by subst e; exact (p29.keep _ r27.id (by simpa using (hid _ rfl).2)).get)
                have hlk : ((c :: t).drop k).length + k = (c :: t).length := by rw [List.length_drop]; omega
                have := ih ((c :: t).drop k) (acc ++ [x17]) a' q' d30 (.func (.func 147) [] []) H29 (by omega) (by omega) (by rw [List.length_append]; simp only [List.length_singleton]; omega) r29 hid o (by rw [ho, lexF_some hbl h hk0, resO_cons])
                rw [List.length_append] at this
                exact this
      · refine g18b_0 _ H0 d a acc.length q i3 s v H (fun _ => ⟨_, s73 s H, Ret.use ⟨_, rfl⟩, fun s7 H8 ⟨e7, p8⟩ H9 p9 => ⟨fun h7 => ?_, fun h7 hI9 => ?_⟩⟩) hin hI
        · rw [hd] at e7
          cases e7
          cases h7
        · rw [hd] at e7
          cases e7
          have p89 : PresX [i3] H H9 := p8.mono (fun i hi => by cases hi) |>.trans p9 (fun i hi => .inl hi)
          have c74 := s74 i3 c t v H9 (hI9.slot 0 _ rfl).1 (hI9.slot 0 _ rfl).2.1
          rw [hf] at c74
          refine ⟨_, c74, fun w H' ⟨k1, k2, k3⟩ => ⟨k1, by rw [k2]; exact rfl, _, ⟨c :: t, rfl⟩, rfl, k3⟩, fun y11 H12 ⟨p12, _, g12⟩ g12' i13 H14 h14 p14 => ?_⟩
          rw [g12'] at g12
          simp only [Option.some.injEq, Slot.obj, LObj.cells.injEq, List.cons.injEq, LV.str.injEq, and_true] at g12
          obtain ⟨rfl, _⟩ := g12
          have hcall := st_call c t (by omega) H14
          rw [hf] at hcall
          refine ⟨rfl, fun _ => ⟨_, hcall, Ret.use (tokL_sh _), fun x17 n18 H19 ⟨e17, p19⟩ H21 p21 => ⟨fun hn hI => lex_bad ?_ hI.pres, fun hn H23 e23 hI23 => ?_⟩⟩⟩
          · rw [ho]
            have h0 : n18 = 0 := by simpa using hn
            rcases tok_inv e17 with ⟨h, _⟩ | ⟨k, h, hk⟩
            · rw [lexF_none hbl h]; rfl
            · have : k = 0 := by omega
              subst this
              rw [lexF_zero hbl h]; rfl
          · have h0 : n18 ≠ 0 := by simpa using hn
            rcases tok_inv e17 with ⟨_, h⟩ | ⟨k, h, hk⟩
            · exact absurd h h0
            · subst hk
              have hk0 : k ≠ 0 := by omega
              have hkl := one_le h
              have p12' : PresX [i3] H H12 := p89.trans p12 (fun i hi => .inl hi)
              have p19' : PresX [i3] H H19 := (p12'.trans0 p14).trans0 p19
              have p21' : PresX [i3] H H21 := p19'.trans p21 (fun i hi => by rw [List.mem_singleton.1 hi]; exact .inr (Nat.le_trans p12'.next h14))
              have p23' : PresX [i3] H H23 := p21'.trans0 (by rw [e23]; exact .push _ _ _)
              have r23 : RowAt H23 124 9 a acc.length q (cellsT acc) := hr.on p23'.next (fun ad e => by subst e; exact p23'.keep _ hr.id (by simpa using (ha _ rfl).2)) (fun ad e _ => by subst e; exact (p23'.keep _ hr.id (by simpa using (ha _ rfl).2)).get)
              obtain ⟨Y, a', q', H27, e27, p27, r27, hY, ha'⟩ := r23.append rowTk (x := .slice (some ⟨H21.next, 9, 0⟩) 1 (.exact 1)) (m := 1) (new := x17.cs) rfl (push_load e23) rfl (tok_cells _) (by omega)
              have hid : ∀ ad, a' = some ad → H0.next ≤ ad.id ∧ ad.id ≠ i3 := by
                intro ad e
                rcases ha' ad e with ⟨ad', e1, e2⟩ | e1
                · rw [← e2]; exact ha ad' e1
                · have := p23'.next
                  have := hI.pres.next
                  exact ⟨by omega, by omega⟩
              refine ⟨Y, a', acc.length + 1, q', H27, ⟨e27, p27, fun j hj => idl_ok ha (fun ad e => ?_) j (idl_mem (hY j hj))⟩, by simp at hkl ⊢; omega, fun H29 p29 d30 => ?_⟩
              · subst e
                have := hr.id
                have := p12'.next
                exact fun e => by omega
              · rw [sub_drop]
                have r29 : RowAt H29 124 9 a' (acc ++ [x17]).length q' (cellsT (acc ++ [x17])) := by
                  rw [cellsT_app, List.length_append]
                  show RowAt H29 124 9 a' (acc.length + 1) q' (cellsT acc ++ (x17.cs ++ []))
                  rw [List.append_nil]
                  exact r27.on p29.next (fun ad e => by subst e; exact p29.keep _ r27.id (by simpa using (hid _ rfl).2)) (fun ad e _ => by subst e; exact (p29.keep _ r27.id (by simpa using (hid _ rfl).2)).get)
                have hlk : ((c :: t).drop k).length + k = (c :: t).length := by rw [List.length_drop]; omega
                have := ih ((c :: t).drop k) (acc ++ [x17]) a' q' d30 (.func (.func 148) [] []) H29 (by omega) (by omega) (by rw [List.length_append]; simp only [List.length_singleton]; omega) r29 hid o (by rw [ho, lexF_some hbl h hk0, resO_cons])
                rw [List.length_append] at this
                exact this
      · refine g18c_0 _ H0 d a acc.length q i3 s v H (fun _ => ⟨_, s73 s H, Ret.use ⟨_, rfl⟩, fun s7 H8 ⟨e7, p8⟩ H9 p9 => ⟨fun h7 => ?_, fun h7 hI9 => ?_⟩⟩) hin hI
        · rw [hd] at e7
          cases e7
          cases h7
        · rw [hd] at e7
          cases e7
          have p89 : PresX [i3] H H9 := p8.mono (fun i hi => by cases hi) |>.trans p9 (fun i hi => .inl hi)
          have c74 := s74 i3 c t v H9 (hI9.slot 0 _ rfl).1 (hI9.slot 0 _ rfl).2.1
          rw [hf] at c74
          refine ⟨_, c74, fun w H' ⟨k1, k2, k3⟩ => ⟨k1, by rw [k2]; exact rfl, _, ⟨c :: t, rfl⟩, rfl, k3⟩, fun y11 H12 ⟨p12, _, g12⟩ g12' i13 H14 h14 p14 => ?_⟩
          rw [g12'] at g12
          simp only [Option.some.injEq, Slot.obj, LObj.cells.injEq, List.cons.injEq, LV.str.injEq, and_true] at g12
          obtain ⟨rfl, _⟩ := g12
          have hcall := st_call c t (by omega) H14
          rw [hf] at hcall
          refine ⟨rfl, fun _ => ⟨_, hcall, Ret.use (tokL_sh _), fun x17 n18 H19 ⟨e17, p19⟩ H21 p21 => ⟨fun hn hI => lex_bad ?_ hI.pres, fun hn H23 e23 hI23 => ?_⟩⟩⟩
          · rw [ho]
            have h0 : n18 = 0 := by simpa using hn
            rcases tok_inv e17 with ⟨h, _⟩ | ⟨k, h, hk⟩
            · rw [lexF_none hbl h]; rfl
            · have : k = 0 := by omega
              subst this
              rw [lexF_zero hbl h]; rfl
          · have h0 : n18 ≠ 0 := by simpa using hn
            rcases tok_inv e17 with ⟨_, h⟩ | ⟨k, h, hk⟩
            · exact absurd h h0
            · subst hk
              have hk0 : k ≠ 0 := by omega
              have hkl := one_le h
              have p12' : PresX [i3] H H12 := p89.trans p12 (fun i hi => .inl hi)
              have p19' : PresX [i3] H H19 := (p12'.trans0 p14).trans0 p19
              have p21' : PresX [i3] H H21 := p19'.trans p21 (fun i hi => by rw [List.mem_singleton.1 hi]; exact .inr (Nat.le_trans p12'.next h14))
              have p23' : PresX [i3] H H23 := p21'.trans0 (by rw [e23]; exact .push _ _ _)
              have r23 : RowAt H23 124 9 a acc.length q (cellsT acc) := hr.on p23'.next (fun ad e => by subst e; exact p23'.keep _ hr.id (by simpa using (ha _ rfl).2)) (fun ad e _ => by subst e; exact (p23'.keep _ hr.id (by simpa using (ha _ rfl).2)).get)
              obtain ⟨Y, a', q', H27, e27, p27, r27, hY, ha'⟩ := r23.append rowTk (x := .slice (some ⟨H21.next, 9, 0⟩) 1 (.exact 1)) (m := 1) (new := x17.cs) rfl (push_load e23) rfl (tok_cells _) (by omega)
              have hid : ∀ ad, a' = some ad → H0.next ≤ ad.id ∧ ad.id ≠ i3 := by
                intro ad e
                rcases ha' ad e with ⟨ad', e1, e2⟩ | e1
                · rw [← e2]; exact ha ad' e1
                · have := p23'.next
                  have := hI.pres.next
                  exact ⟨by omega, by omega⟩
              refine ⟨Y, a', acc.length + 1, q', H27, ⟨e27, p27, fun j hj => idl_ok ha (fun ad e => ?_) j (idl_mem (hY j hj))⟩, by simp at hkl ⊢; omega, fun H29 p29 d30 => ?_⟩
              · subst e
                have := hr.id
                have := p12'.next
                exact fun e => by omega
              · rw [sub_drop]
                have r29 : RowAt H29 124 9 a' (acc ++ [x17]).length q' (cellsT (acc ++ [x17])) := by
                  rw [cellsT_app, List.length_append]
                  show RowAt H29 124 9 a' (acc.length + 1) q' (cellsT acc ++ (x17.cs ++ []))
                  rw [List.append_nil]
                  exact r27.on p29.next (fun ad e => by subst e; exact p29.keep _ r27.id (by simpa using (hid _ rfl).2)) (fun ad e _ => by subst e; exact (p29.keep _ r27.id (by simpa using (hid _ rfl).2)).get)
                have hlk : ((c :: t).drop k).length + k = (c :: t).length := by rw [List.length_drop]; omega
                have := ih ((c :: t).drop k) (acc ++ [x17]) a' q' d30 (.func (.func 149) [] []) H29 (by omega) (by omega) (by rw [List.length_append]; simp only [List.length_singleton]; omega) r29 hid o (by rw [ho, lexF_some hbl h hk0, resO_cons])
                rw [List.length_append] at this
                exact this
      · refine g18d_0 _ H0 d a acc.length q i3 s v H (fun _ => ⟨_, s73 s H, Ret.use ⟨_, rfl⟩, fun s7 H8 ⟨e7, p8⟩ H9 p9 => ⟨fun h7 => ?_, fun h7 hI9 => ?_⟩⟩) hin hI
        · rw [hd] at e7
          cases e7
          cases h7
        · rw [hd] at e7
          cases e7
          have p89 : PresX [i3] H H9 := p8.mono (fun i hi => by cases hi) |>.trans p9 (fun i hi => .inl hi)
          have c74 := s74 i3 c t v H9 (hI9.slot 0 _ rfl).1 (hI9.slot 0 _ rfl).2.1
          rw [hf] at c74
          refine ⟨_, c74, fun w H' ⟨k1, k2, k3⟩ => ⟨k1, by rw [k2]; exact rfl, _, ⟨c :: t, rfl⟩, rfl, k3⟩, fun y11 H12 ⟨p12, _, g12⟩ g12' i13 H14 h14 p14 => ?_⟩
          rw [g12'] at g12
          simp only [Option.some.injEq, Slot.obj, LObj.cells.injEq, List.cons.injEq, LV.str.injEq, and_true] at g12
          obtain ⟨rfl, _⟩ := g12
          have hcall := st_call c t (by omega) H14
          rw [hf] at hcall
          refine ⟨rfl, fun _ => ⟨_, hcall, Ret.use (tokL_sh _), fun x17 n18 H19 ⟨e17, p19⟩ H21 p21 => ⟨fun hn hI => lex_bad ?_ hI.pres, fun hn H23 e23 hI23 => ?_⟩⟩⟩
          · rw [ho]
            have h0 : n18 = 0 := by simpa using hn
            rcases tok_inv e17 with ⟨h, _⟩ | ⟨k, h, hk⟩
            · rw [lexF_none hbl h]; rfl
            · have : k = 0 := by omega
              subst this
              rw [lexF_zero hbl h]; rfl
          · have h0 : n18 ≠ 0 := by simpa using hn
            rcases tok_inv e17 with ⟨_, h⟩ | ⟨k, h, hk⟩
            · exact absurd h h0
            · subst hk
              have hk0 : k ≠ 0 := by omega
              have hkl := one_le h
              have p12' : PresX [i3] H H12 := p89.trans p12 (fun i hi => .inl hi)
              have p19' : PresX [i3] H H19 := (p12'.trans0 p14).trans0 p19
              have p21' : PresX [i3] H H21 := p19'.trans p21 (fun i hi => by rw [List.mem_singleton.1 hi]; exact .inr (Nat.le_trans p12'.next h14))
              have p23' : PresX [i3] H H23 := p21'.trans0 (by rw [e23]; exact .push _ _ _)
              have r23 : RowAt H23 124 9 a acc.length q (cellsT acc) := hr.on p23'.next (fun ad e => by subst e; exact p23'.keep _ hr.id (by simpa using (ha _ rfl).2)) (fun ad e _ => by subst e; exact (p23'.keep _ hr.id (by simpa using (ha _ rfl).2)).get)
              obtain ⟨Y, a', q', H27, e27, p27, r27, hY, ha'⟩ := r23.append rowTk (x := .slice (some ⟨H21.next, 9, 0⟩) 1 (.exact 1)) (m := 1) (new := x17.cs) rfl (push_load e23) rfl (tok_cells _) (by omega)
              have hid : ∀ ad, a' = some ad → H0.next ≤ ad.id ∧ ad.id ≠ i3 := by
                intro ad e
                rcases ha' ad e with ⟨ad', e1, e2⟩ | e1
                · rw [← e2]; exact ha ad' e1
                · have := p23'.next
                  have := hI.pres.next
                  exact ⟨by omega, by omega⟩
              refine ⟨Y, a', acc.length + 1, q', H27, ⟨e27, p27, fun j hj => idl_ok ha (fun ad e => ?_) j (idl_mem (hY j hj))⟩, by simp at hkl ⊢; omega, fun H29 p29 d30 => ?_⟩
              · subst e
                have := hr.id
                have := p12'.next
                exact fun e => by omega
              · rw [sub_drop]
                have r29 : RowAt H29 124 9 a' (acc ++ [x17]).length q' (cellsT (acc ++ [x17])) := by
                  rw [cellsT_app, List.length_append]
                  show RowAt H29 124 9 a' (acc.length + 1) q' (cellsT acc ++ (x17.cs ++ []))
                  rw [List.append_nil]
                  exact r27.on p29.next (fun ad e => by subst e; exact p29.keep _ r27.id (by simpa using (hid _ rfl).2)) (fun ad e _ => by subst e; exact (p29.keep _ r27.id (by simpa using (hid _ rfl).2)).get)
                have hlk : ((c :: t).drop k).length + k = (c :: t).length := by rw [List.length_drop]; omega
                have := ih ((c :: t).drop k) (acc ++ [x17]) a' q' d30 (.func (.func 151) [] []) H29 (by omega) (by omega) (by rw [List.length_append]; simp only [List.length_singleton]; omega) r29 hid o (by rw [ho, lexF_some hbl h hk0, resO_cons])
                rw [List.length_append] at this
                exact this
      · refine g18e_0 _ H0 d a acc.length q i3 s v H (fun _ => ⟨_, s73 s H, Ret.use ⟨_, rfl⟩, fun s7 H8 ⟨e7, p8⟩ H9 p9 => ⟨fun h7 => ?_, fun h7 hI9 => ?_⟩⟩) hin hI
        · rw [hd] at e7
          cases e7
          cases h7
        · rw [hd] at e7
          cases e7
          have p89 : PresX [i3] H H9 := p8.mono (fun i hi => by cases hi) |>.trans p9 (fun i hi => .inl hi)
          have c74 := s74 i3 c t v H9 (hI9.slot 0 _ rfl).1 (hI9.slot 0 _ rfl).2.1
          rw [hf] at c74
          refine ⟨_, c74, fun w H' ⟨k1, k2, k3⟩ => ⟨k1, by rw [k2]; exact rfl, _, ⟨c :: t, rfl⟩, rfl, k3⟩, fun y11 H12 ⟨p12, _, g12⟩ g12' i13 H14 h14 p14 => ?_⟩
          rw [g12'] at g12
          simp only [Option.some.injEq, Slot.obj, LObj.cells.injEq, List.cons.injEq, LV.str.injEq, and_true] at g12
          obtain ⟨rfl, _⟩ := g12
          have hcall := st_call c t (by omega) H14
          rw [hf] at hcall
          refine ⟨rfl, fun _ => ⟨_, hcall, Ret.use (tokL_sh _), fun x17 n18 H19 ⟨e17, p19⟩ H21 p21 => ⟨fun hn hI => lex_bad ?_ hI.pres, fun hn H23 e23 hI23 => ?_⟩⟩⟩
          · rw [ho]
            have h0 : n18 = 0 := by simpa using hn
            rcases tok_inv e17 with ⟨h, _⟩ | ⟨k, h, hk⟩
            · rw [lexF_none hbl h]; rfl
            · have : k = 0 := by omega
              subst this
              rw [lexF_zero hbl h]; rfl
          · have h0 : n18 ≠ 0 := by simpa using hn
            rcases tok_inv e17 with ⟨_, h⟩ | ⟨k, h, hk⟩
            · exact absurd h h0
            · subst hk
              have hk0 : k ≠ 0 := by omega
              have hkl := one_le h
              have p12' : PresX [i3] H H12 := p89.trans p12 (fun i hi => .inl hi)
              have p19' : PresX [i3] H H19 := (p12'.trans0 p14).trans0 p19
              have p21' : PresX [i3] H H21 := p19'.trans p21 (fun i hi => by rw [List.mem_singleton.1 hi]; exact .inr (Nat.le_trans p12'.next h14))
              have p23' : PresX [i3] H H23 := p21'.trans0 (by rw [e23]; exact .push _ _ _)
              have r23 : RowAt H23 124 9 a acc.length q (cellsT acc) := hr.on p23'.next (fun ad e => by subst e; exact p23'.keep _ hr.id (by simpa using (ha _ rfl).2)) (fun ad e _ => by subst e; exact (p23'.keep _ hr.id (by simpa using (ha _ rfl).2)).get)
              obtain ⟨Y, a', q', H27, e27, p27, r27, hY, ha'⟩ := r23.append rowTk (x := .slice (some ⟨H21.next, 9, 0⟩) 1 (.exact 1)) (m := 1) (new := x17.cs) rfl (push_load e23) rfl (tok_cells _) (by omega)
              have hid : ∀ ad, a' = some ad → H0.next ≤ ad.id ∧ ad.id ≠ i3 := by
                intro ad e
                rcases ha' ad e with ⟨ad', e1, e2⟩ | e1
                · rw [← e2]; exact ha ad' e1
                · have := p23'.next
                  have := hI.pres.next
                  exact ⟨by omega, by omega⟩
              refine ⟨Y, a', acc.length + 1, q', H27, ⟨e27, p27, fun j hj => idl_ok ha (fun ad e => ?_) j (idl_mem (hY j hj))⟩, by simp at hkl ⊢; omega, fun H29 p29 d30 => ?_⟩
              · subst e
                have := hr.id
                have := p12'.next
                exact fun e => by omega
              · rw [sub_drop]
                have r29 : RowAt H29 124 9 a' (acc ++ [x17]).length q' (cellsT (acc ++ [x17])) := by
                  rw [cellsT_app, List.length_append]
                  show RowAt H29 124 9 a' (acc.length + 1) q' (cellsT acc ++ (x17.cs ++ []))
                  rw [List.append_nil]
                  exact r27.on p29.next (fun ad e => by subst e; exact p29.keep _ r27.id (by simpa using (hid _ rfl).2)) (fun ad e _ => by subst e; exact (p29.keep _ r27.id (by simpa using (hid _ rfl).2)).get)
                have hlk : ((c :: t).drop k).length + k = (c :: t).length := by rw [List.length_drop]; omega
                have := ih ((c :: t).drop k) (acc ++ [x17]) a' q' d30 (.func (.func 152) [] []) H29 (by omega) (by omega) (by rw [List.length_append]; simp only [List.length_singleton]; omega) r29 hid o (by rw [ho, lexF_some hbl h hk0, resO_cons])
                rw [List.length_append] at this
                exact this

theorem s18 (s : List UInt8) (H : LHeap) : CallL cfg 18 [.str s] H (LexS 124 (lexO s) H) := by
  refine e18a _ s H ⟨fun h hI => ?_, fun h i1 H2 h1 p2 d3 => ?_⟩
  · have : s.length > 255 := by simp at h; omega
    have : lexO s = ([], 3) := by unfold lexO; rw [if_pos this]
    rw [this]
    exact ⟨hI.pres, none, .exact 0, rfl, .nil⟩
  · have hl : ¬ s.length > 255 := by simp at h; omega
    have : lexO s = resO [] (lexF s) := by unfold lexO; rw [if_neg hl]
    rw [this]
    exact loop18 H i1 (s.length + 1) s [] none (.exact 0) d3 .nilFunc H2 (by omega) (by omega) (by simp; omega) .nil (fun _ e => by cases e) _ rfl

/-! The document's -/
theorem loop19 (H0 : LHeap) : ∀ (m : Nat) (s : List UInt8) (acc : List TokC) (a : Option LAddr) (q : Cap) (d : Nat → LV) (H : LHeap), s.length < m → s.length ≤ 255 → acc.length + s.length ≤ 1000 →
    RowAt H 127 9 a acc.length q (cellsT acc) → (∀ ad, a = some ad → H0.next ≤ ad.id) → ∀ o, o = resO acc (lexF s) →
    GoesT cfg 19 (LexS 127 o H0) [] H0 [] (L19t_0 d s a acc.length q) (loopAt cfg 19 0) H := by
  intro m
  induction m with
  | zero => intro s acc a q d H hm; omega
  | succ m ih =>
    intro s acc a q d H hm h255 hacc hr ha o ho hin hI
    cases s with
    | nil =>
      rw [lexF_nil] at ho
      refine g19t_0 _ H0 d [] a acc.length q H ⟨fun h => (by cases h), fun _ hI => ?_⟩ hin hI
      rw [ho]
      exact ⟨hI.pres, a, q, by simp [resO], by simpa [resO] using hr⟩
    | cons c t =>
      have hb : byteAt (c :: t) 0 = (c.toNat : Int) := byteAt_app [] c t
      have c75 : CallL cfg 75 [.int .u8 (byteAt (c :: t) 0)] H (Ret (.bool (blankB c)) H) := by rw [hb]; exact s75 c H
      have hlen : (c :: t).length = t.length + 1 := rfl
      refine g19t_0 _ H0 d (c :: t) a acc.length q H ⟨fun _ => ⟨by omega, fun _ => ⟨_, c75, Ret.use ⟨_, rfl⟩, fun b6 H7 ⟨e6, p7⟩ => ⟨fun h6 => ⟨by omega, fun d9 => ?_⟩, fun h6 _ => ⟨_, s76 c t (by omega) H7, Ret.use (tokL_sh _), fun x17 n18 H13 ⟨e17, p13⟩ i14 H15 h14 p15 H16 p16 => ⟨fun hn hI => lex_bad ?_ hI.pres, fun hn H23 e23 hI23 => ?_⟩⟩⟩⟩⟩, fun h => (by simp at h)⟩ hin hI
      · cases e6
        rw [sub_drop1]
        exact ih t acc a q d9 H7 (by omega) (by omega) (by omega) (hr.on p7.next (fun ad e => by subst e; exact p7.keep _ hr.id (by simp)) (fun ad e _ => by subst e; exact (p7.keep _ hr.id (by simp)).get)) ha o (by rw [ho, lexF_blank h6])
      · cases e6
        rw [ho]
        have h0 : n18 = 0 := by simpa using hn
        rcases tok_inv e17 with ⟨h, _⟩ | ⟨k, h, hk⟩
        · rw [lexF_none h6 h]; rfl
        · have : k = 0 := by omega
          subst this
          rw [lexF_zero h6 h]; rfl
      · cases e6
        have h0 : n18 ≠ 0 := by simpa using hn
        rcases tok_inv e17 with ⟨_, h⟩ | ⟨k, h, hk⟩
        · exact absurd h h0
        · subst hk
          have hk0 : k ≠ 0 := by omega
          have hkl := one_le h
          have p13' : PresX [] H H13 := p7.trans0 p13
          have p16' : PresX [] H H16 := (p13'.trans0 p15).trans p16 (fun i hi => by rw [List.mem_singleton.1 hi]; exact .inr (Nat.le_trans p13'.next h14))
          have p23' : PresX [] H H23 := p16'.trans0 (by rw [e23]; exact .push _ _ _)
          have r23 : RowAt H23 127 9 a acc.length q (cellsT acc) := hr.on p23'.next (fun ad e => by subst e; exact p23'.keep _ hr.id (by simp)) (fun ad e _ => by subst e; exact (p23'.keep _ hr.id (by simp)).get)
          obtain ⟨Y, a', q', H27, e27, p27, r27, hY, ha'⟩ := r23.append rowTd (x := .slice (some ⟨H16.next, 9, 0⟩) 1 (.exact 1)) (m := 1) (new := x17.cs) rfl (push_load e23) rfl (tok_cells _) (by omega)
          have hid : ∀ ad, a' = some ad → H0.next ≤ ad.id := by
            intro ad e
            rcases ha' ad e with ⟨ad', e1, e2⟩ | e1
            · rw [← e2]; exact ha ad' e1
            · have := p23'.next
              have := hI.pres.next
              omega
          refine ⟨Y, a', acc.length + 1, q', H27, ⟨e27, p27, fun j hj => ?_⟩, by simp at hkl ⊢; omega, fun d30 => ?_⟩
          · obtain ⟨ad, e1, e2⟩ := hY j hj
            subst e1
            rw [← e2]
            have := hr.id
            have := p13'.next
            exact okId_box (.inr (ha ad rfl)) (by omega)
          · rw [sub_drop]
            have r29 : RowAt H27 127 9 a' (acc ++ [x17]).length q' (cellsT (acc ++ [x17])) := by
              rw [cellsT_app, List.length_append]
              show RowAt H27 127 9 a' (acc.length + 1) q' (cellsT acc ++ (x17.cs ++ []))
              rw [List.append_nil]
              exact r27
            have hlk : ((c :: t).drop k).length + k = (c :: t).length := by rw [List.length_drop]; omega
            have := ih ((c :: t).drop k) (acc ++ [x17]) a' q' d30 H27 (by omega) (by omega) (by rw [List.length_append]; simp only [List.length_singleton]; omega) r29 hid o (by rw [ho, lexF_some h6 h hk0, resO_cons])
            rw [List.length_append] at this
            exact this

theorem s19 (s : List UInt8) (H : LHeap) : CallL cfg 19 [.str s] H (LexS 127 (lexO s) H) := by
  refine e19t _ s H ⟨fun h hI => ?_, fun h d1 => ?_⟩
  · have : s.length > 255 := by simp at h; omega
    have : lexO s = ([], 3) := by unfold lexO; rw [if_pos this]
    rw [this]
    exact ⟨hI.pres, none, .exact 0, rfl, .nil⟩
  · have hl : ¬ s.length > 255 := by simp at h; omega
    have : lexO s = resO [] (lexF s) := by unfold lexO; rw [if_neg hl]
    rw [this]
    exact loop19 H (s.length + 1) s [] none (.exact 0) d1 H (by omega) (by omega) (by simp; omega) .nil (fun _ e => by cases e) _ rfl

/-! The same tokens -/
theorem row_at {H : LHeap} {ty : TypeId} {a : Option LAddr} {q : Cap} {l : List TokC} (h : RowAt H ty 9 a l.length q (cellsT l)) (h1 : isAggT cfg.P ty = some true) (h2 : sizeOfT cfg.P ty = some 9) {i : Nat} {x : TokC} (hx : l[i]? = some x) :
    a.isSome = true ∧ loadT cfg.P H ty ⟨(adr a).id, (adr a).ver, (adr a).off + i * 9⟩ = some x.lv := by
  have hi := (List.getElem?_eq_some_iff.1 hx).1
  obtain ⟨g1, _, g3⟩ := h.load hi
  rw [cellsT_drop l i x hx] at g3
  exact ⟨g1, load_agg h1 h2 g3⟩

def PlainS (l : List TokC) (H : LHeap) : LV → LHeap → Prop := fun v H' => PresX [] H H' ∧ ∃ a q, v = .slice a l.length q ∧ RowAt H' 127 9 a l.length q (cellsT l)

theorem loop77 (l : List TokC) (hl : l.length ≤ 255) (a4 : Option LAddr) (c6 : Cap) (H0 : LHeap) : ∀ (C A : List TokC) (a : Option LAddr) (q : Cap) (d : Nat → LV) (H : LHeap), A ++ C = l → RowAt H 124 9 a4 l.length c6 (cellsT l) → RowAt H 127 9 a A.length q (cellsT A) → (∀ ad, a = some ad → H0.next ≤ ad.id) → (∀ ad, a4 = some ad → ad.id < H0.next) →
    GoesT cfg 77 (PlainS l H0) [] H0 [] (L77t_0 d (A.length : Int) a A.length q a4 l.length c6 ((l.length : Nat) : Int)) (loopAt cfg 77 0) H
  | [], A, a, q, d, H, hA, h4, hr, ha, ha4 => by
    intro hin hI
    rw [List.append_nil] at hA
    subst hA
    exact g77t_0 _ H0 d A.length a A.length q a4 A.length c6 A.length H ⟨fun h => (by simp at h), fun _ hI => ⟨hI.pres, a, q, rfl, hr⟩⟩ hin hI
  | x :: C, A, a, q, d, H, hA, h4, hr, ha, ha4 => by
    intro hin hI
    have hll : A.length + (C.length + 1) = l.length := by rw [← hA]; simp
    have hx : l[A.length]? = some x := by rw [← hA, List.getElem?_append_right (Nat.le_refl _)]; simp
    obtain ⟨s4, ld⟩ := row_at h4 (by kernel_rfl) (by kernel_rfl) hx
    refine g77t_0 _ H0 d A.length a A.length q a4 l.length c6 l.length H ⟨fun _ => ⟨⟨by omega, by omega, s4⟩, fun _ => ⟨x, by simpa using ld, fun i11 H12 h12 p12 H13 p13 H14 e14 _ => ?_⟩⟩, fun h => (by simp at h; omega)⟩ hin hI
    have p13' : PresX [] H H13 := p12.trans p13 (fun i hi => by rw [List.mem_singleton.1 hi]; exact .inr h12)
    have p14' : PresX [] H H14 := p13'.trans0 (by rw [e14]; exact .push _ _ _)
    have r14 : RowAt H14 127 9 a A.length q (cellsT A) := hr.on p14'.next (fun ad e => by subst e; exact p14'.keep _ hr.id (by simp)) (fun ad e _ => by subst e; exact (p14'.keep _ hr.id (by simp)).get)
    obtain ⟨Y, a', q', H27, e27, p27, r27, hY, ha'⟩ := r14.append rowTd (x := .slice (some ⟨H13.next, 9, 0⟩) 1 (.exact 1)) (m := 1) (new := x.cs) rfl (push_load e14) rfl (tok_cells _) (by omega)
    refine ⟨Y, a', A.length + 1, q', H27, ⟨e27, p27, fun j hj => ?_⟩, fun d19 => ?_⟩
    · obtain ⟨ad, e1, e2⟩ := hY j hj
      subst e1
      rw [← e2]
      have := hr.id
      exact okId_box (.inr (ha ad rfl)) (by omega)
    · rw [lwrap_small (by omega) (by omega)]
      have r29 : RowAt H27 127 9 a' (A ++ [x]).length q' (cellsT (A ++ [x])) := by
        rw [cellsT_app, List.length_append]
        show RowAt H27 127 9 a' (A.length + 1) q' (cellsT A ++ (x.cs ++ []))
        rw [List.append_nil]
        exact r27
      have h4' : RowAt H27 124 9 a4 l.length c6 (cellsT l) := by
        have k : ∀ ad, a4 = some ad → Keep H H27 ad.id := by
          intro ad e
          subst e
          have h1 := h4.id
          have h2 := ha4 ad rfl
          exact (p14'.keep _ h1 (by simp)).trans (p27.keep _ (Nat.lt_of_lt_of_le h1 p14'.next) (fun hm => by
            obtain ⟨ad', e1, e2⟩ := hY _ hm
            have := ha ad' e1
            omega))
        exact h4.on (Nat.le_trans p14'.next p27.next) k (fun ad e _ => (k ad e).get)
      have := loop77 l hl a4 c6 H0 C (A ++ [x]) a' q' d19 H27 (by rw [← hA]; simp) h4' r29 (fun ad e => by
        rcases ha' ad e with ⟨ad', e1, e2⟩ | e1
        · rw [← e2]; exact ha ad' e1
        · have := p14'.next
          have := hI.pres.next
          omega) ha4
      rw [List.length_append] at this
      exact this

theorem s77 (l : List TokC) (hl : l.length ≤ 255) (a : Option LAddr) (q : Cap) (H : LHeap) (h : RowAt H 124 9 a l.length q (cellsT l)) : CallL cfg 77 [.slice a l.length q] H (PlainS l H) :=
  e77t _ a l.length q H fun d => loop77 l hl a q H l [] none (.exact 0) d H rfl h .nil (fun _ e => by cases e) (fun ad e => by subst e; exact h.id)

theorem loop20 (l : List TokC) (hl : l.length ≤ 255) (a1 a4 : Option LAddr) (c3 c6 : Cap) (H0 : LHeap) : ∀ (C A : List TokC) (d : Nat → LV) (H : LHeap), A ++ C = l → RowAt H 127 9 a1 l.length c3 (cellsT l) → RowAt H 127 9 a4 l.length c6 (cellsT l) →
    GoesT cfg 20 (Ret (.bool true) H0) [] H0 [] (L20t_0 d (A.length : Int) a1 l.length c3 a4 l.length c6 ((l.length : Nat) : Int)) (loopAt cfg 20 0) H
  | [], A, d, H, hA, h1, h4 => by
    intro hin hI
    rw [List.append_nil] at hA
    subst hA
    exact g20t_0 _ H0 d A.length a1 A.length c3 a4 A.length c6 A.length H ⟨fun h => (by simp at h), fun _ hI => ⟨rfl, hI.pres⟩⟩ hin hI
  | x :: C, A, d, H, hA, h1, h4 => by
    intro hin hI
    have hll : A.length + (C.length + 1) = l.length := by rw [← hA]; simp
    have hx : l[A.length]? = some x := by rw [← hA, List.getElem?_append_right (Nat.le_refl _)]; simp
    obtain ⟨s4, ld4⟩ := row_at h4 (by kernel_rfl) (by kernel_rfl) hx
    have on : ∀ {a : Option LAddr} {c : Cap} {H' : LHeap}, RowAt H 127 9 a l.length c (cellsT l) → PresX [] H H' → RowAt H' 127 9 a l.length c (cellsT l) := fun hr p => hr.on p.next (fun ad e => by subst e; exact p.keep _ hr.id (by simp)) (fun ad e _ => by subst e; exact (p.keep _ hr.id (by simp)).get)
    refine g20t_0 _ H0 d A.length a1 l.length c3 a4 l.length c6 l.length H ⟨fun _ => ⟨⟨by omega, by omega, s4⟩, fun _ => ⟨x, by simpa using ld4, fun i11 H12 h12 p12 H13 p13 => ?_⟩⟩, fun h => (by simp at h; omega)⟩ hin hI
    have p13' : PresX [] H H13 := p12.trans p13 (fun i hi => by rw [List.mem_singleton.1 hi]; exact .inr h12)
    obtain ⟨s1, ld1⟩ := row_at (on h1 p13') (by kernel_rfl) (by kernel_rfl) hx
    have ld1' : loadT cfg.P H13 127 ⟨(adr a1).id, (adr a1).ver, (adr a1).off + (A.length : Int).toNat * 9⟩ = some x.lv := by simpa using ld1
    refine ⟨⟨by omega, by omega, s1⟩, fun _ => ⟨x, ld1', fun _ => ⟨ld1', rfl, fun h => ?_, fun _ d19 => ?_⟩⟩⟩
    · simp at h
    · rw [lwrap_small (by omega) (by omega), show (A.length : Int) + 1 = (((A ++ [x]).length : Nat) : Int) by simp]
      exact loop20 l hl a1 a4 c3 c6 H0 C (A ++ [x]) d19 H13 (by rw [← hA]; simp) (on h1 p13') (on h4 p13')

theorem s20 (l : List TokC) (hl : l.length ≤ 255) (a b : Option LAddr) (p q : Cap) (H : LHeap) (h : RowAt H 124 9 a l.length p (cellsT l)) (k : RowAt H 127 9 b l.length q (cellsT l)) : CallL cfg 20 [.slice a l.length p, .slice b l.length q] H (Ret (.bool true) H) := by
  refine e20t _ a l.length p b l.length q H ⟨fun h => (by simp at h), fun _ _ => ⟨_, s77 l hl a p H h, fun v H' ⟨h1, a, q, e, _⟩ => ⟨h1, by rw [e]; exact ⟨_, _, _, rfl⟩⟩, fun a7 l8 c9 H10 ⟨p10, a', q', e, r⟩ d11 => ?_⟩⟩
  cases e
  exact loop20 l hl b a7 q c9 H l [] d11 H10 rfl (k.on p10.next (fun ad e => by subst e; exact p10.keep _ k.id (by simp)) (fun ad e _ => by subst e; exact (p10.keep _ k.id (by simp)).get)) r

theorem lexF_len : ∀ (m : Nat) (s : List UInt8) (l : List TokC), s.length < m → lexF s = some l → l.length ≤ s.length
  | 0, s, l, h, _ => by omega
  | m + 1, [], l, h, e => by rw [lexF_nil] at e; cases e; simp
  | m + 1, c :: t, l, h, e => by
    have hl : (c :: t).length = t.length + 1 := rfl
    cases hb : blankB c with
    | true =>
      rw [lexF_blank hb] at e
      have := lexF_len m t l (by omega) e
      omega
    | false =>
      cases ho : oneF (c :: t) with
      | none => rw [lexF_none hb ho] at e; cases e
      | some r =>
        obtain ⟨x, k⟩ := r
        by_cases hk : k = 0
        · subst hk
          rw [lexF_zero hb ho] at e; cases e
        · rw [lexF_some hb ho hk] at e
          cases hd : lexF ((c :: t).drop k) with
          | none => rw [hd] at e; cases e
          | some l' =>
            rw [hd] at e; cases e
            have hlk : ((c :: t).drop k).length = (c :: t).length - k := List.length_drop ..
            have := lexF_len m ((c :: t).drop k) l' (by omega) hd
            simp only [List.length_cons] at this hlk ⊢
            omega
theorem lexO_len (s : List UInt8) : (lexO s).1.length ≤ 255 := by
  unfold lexO
  split
  · simp
  · cases h : lexF s with
    | none => simp [resO]
    | some l =>
      have := lexF_len _ s l (Nat.lt_succ_self _) h
      simp [resO]; omega

/-- The law. -/
theorem s3 (s : List UInt8) (H : LHeap) : CallL cfg 3 [.str s] H (Ret (.bool true) H) := by
  refine e3t _ s H fun _ => ⟨_, s18 s H, fun v H' ⟨h1, a, q, e, _⟩ => ⟨h1, by rw [e]; exact ⟨_, _, _, _, rfl⟩⟩, fun a2 l3 c4 n5 H6 ⟨p6, a, q, e, r6⟩ _ => ?_⟩
  cases e
  refine ⟨_, s19 s H6, fun v H' ⟨h1, a, q, e, _⟩ => ⟨h1, by rw [e]; exact ⟨_, _, _, _, rfl⟩⟩, fun a8 l9 c10 n11 H12 ⟨p12, a', q', e, r12⟩ _ => ?_⟩
  cases e
  have r6' := r6.on p12.next (fun ad e => by subst e; exact p12.keep _ r6.id (by simp)) (fun ad e _ => by subst e; exact (p12.keep _ r6.id (by simp)).get)
  refine ⟨_, s20 _ (lexO_len s) a2 a8 c4 c10 H12 r6' r12, Ret.use ⟨_, rfl⟩, fun b14 H15 ⟨e14, _⟩ => ⟨fun _ => ⟨fun _ hI => ⟨rfl, hI.pres⟩, fun h => (by simp at h)⟩, fun h => ?_⟩⟩
  cases e14
  cases h
end Go.Proofs.YtjihhflffkoffaaGreatDoor.Z
