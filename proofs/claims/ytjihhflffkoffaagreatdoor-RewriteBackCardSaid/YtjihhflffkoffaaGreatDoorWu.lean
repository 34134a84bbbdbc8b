/- Contracts of functions of the program; no condition. -/
import Derived.Test.YtjihhflffkoffaaGreatDoorWt
import Derived.Test.YtjihhflffkoffaaGreatDoorW9
set_option linter.unusedSimpArgs false
set_option linter.unusedVariables false
set_option linter.unusedSectionVars false
set_option linter.unnecessarySimpa false
namespace Go.Proofs.YtjihhflffkoffaaGreatDoor.Z
open Go Go.Lm
set_option maxRecDepth 100000

theorem s44 (N : Nd) (H : LHeap) (hN : NdAt H N) (hS : NdSm N) (hsz : (preT N).length ≤ 1000000) : CallL cfg 44 [N.root.lv] H (ListR N H) := by
  match N, hN, hS, hsz with
  | .mk x l, hN, hS, hsz =>
    have hN' := hN
    unfold NdAt at hN'
    unfold NdSm at hS
    have hmem : ∀ l : List Nd, NdsSm l → ∀ n ∈ l, NdSm n := by
      intro l
      induction l with
      | nil => intro _ n hn; cases hn
      | cons a l ih =>
        intro h n hn
        unfold NdsSm at h
        rcases List.mem_cons.1 hn with rfl | hn
        · exact h.1
        · exact ih h.2 n hn
    refine e44t _ x H fun i1 H2 h2 p2 H3 e3 d => fun hin hI => ?_
    exact loop44 l (fun n hn H' hA hz => s44 n H' hA (hmem l hS.2 n hn) hz) [] x H (some ⟨H2.next, 18, 0⟩) 1 (.exact 1) d H3 hN hN'.2.2 hsz hS.1 rfl
      (.full ⟨H2.next, 18, 0⟩ 1 _ (by rw [e3]; exact Nat.lt_succ_self _) (by rw [e3]; unfold loadN; simp only [LHeap.get_push, if_true]; simp only [preT, preTs, cellsC, List.append_nil]; rfl) (by simp only [preT, preTs, cellsC, List.append_nil]; rfl) (by simp only [preT, preTs, cellsC, List.append_nil]; rfl))
      (fun ad e => by cases e; exact p2.next) hin hI
termination_by SizeOf.sizeOf N
decreasing_by
  have := List.sizeOf_lt_of_mem hn
  simp_wf
  omega

theorem cellsC_drop : ∀ (l : List NdC) (i : Nat) (n : NdC), l[i]? = some n → ((cellsC l).drop (i * 18)).take 18 = n.cs
  | [], i, n, h => by simp at h
  | m :: l, 0, n, h => by
    simp only [List.getElem?_cons_zero, Option.some.injEq] at h
    subst h
    rw [Nat.zero_mul, List.drop_zero, cellsC, List.take_append_of_le_length (by rw [ndc_len]; omega), List.take_of_length_le (by rw [ndc_len]; omega)]
  | m :: l, i + 1, n, h => by
    rw [cellsC, show (i + 1) * 18 = 18 + i * 18 by omega, ← List.drop_drop]
    rw [show (m.cs ++ cellsC l).drop 18 = cellsC l by rw [List.drop_append_of_le_length (by rw [ndc_len]; omega), List.drop_of_length_le (by rw [ndc_len]; omega)]; rfl]
    exact cellsC_drop l i n (by simpa using h)

/-- Does a node name the sheet? -/
def namesX (p : PlaceC) (c : ChangeC) (x : NdC) : Bool := (x.kind == 2 || x.kind == 3) && ofP (refOf x) p c

theorem loop71 (p : PlaceC) (c : ChangeC) (x6 : NdC) (H0 : LHeap) (i5 i7 i9 : Nat) (xs : List NdC) (hbig : xs.length ≤ 1000000) (a : Option LAddr) (q : Cap) : ∀ (m i : Nat), i + m = xs.length → ∀ (d : Nat → LV) (H : LHeap), RowAt H 72 18 a xs.length q (cellsC xs) →
    GoesT cfg 71 (Ret (.bool ((xs.drop i).any (namesX p c))) H0) [] H0 [⟨i5, x6.cs, 72⟩, ⟨i7, p.cs, 94⟩, ⟨i9, c.cs, 105⟩] (L71t_0 d (i : Int) a xs.length q (xs.length : Int)) (loopAt cfg 71 0) H
  | 0, i, hi, d, H, hr => by
    intro hin hI
    refine g71t_0 _ H0 d i a xs.length q xs.length i5 x6 i7 p i9 c H ⟨fun h => ?_, fun _ hI => ⟨?_, hI.pres⟩⟩ hin hI
    · simp at h; omega
    · rw [List.drop_eq_nil_of_le (by omega)]; rfl
  | m + 1, i, hi, d, H, hr => by
    intro hin hI
    have hil : i < xs.length := by omega
    obtain ⟨h1, h2, h3⟩ := hr.load hil
    rw [cellsC_drop xs i xs[i] (List.getElem?_eq_getElem hil)] at h3
    have hdrop : xs.drop i = xs[i] :: xs.drop (i + 1) := List.drop_eq_getElem_cons hil
    have next := fun (d' : Nat → LV) (H' : LHeap) (hr' : RowAt H' 72 18 a xs.length q (cellsC xs)) => loop71 p c x6 H0 i5 i7 i9 xs hbig a q m (i + 1) (by omega) d' H' hr'
    have keep : ∀ {H'}, PresX [] H H' → RowAt H' 72 18 a xs.length q (cellsC xs) := fun pr => hr.on pr.next (fun ad e => by subst e; exact pr.keep _ hr.id (by simp)) (fun ad e _ => by subst e; exact (pr.keep _ hr.id (by simp)).get)
    have hk' : (i : Int) + 1 = ((i + 1 : Nat) : Int) := by simp
    have hw : lwrap .i64 ((i : Int) + 1) = ((i + 1 : Nat) : Int) := by rw [lwrap_small (by omega) (by omega), hk']
    rw [hdrop, List.any_cons]
    refine g71t_0 _ H0 d i a xs.length q xs.length i5 x6 i7 p i9 c H ⟨fun h => ⟨⟨by omega, by omega, h1⟩, fun hI => ⟨xs[i], ?ld, fun i14 H15 h15 p15 H16 p16 => ⟨fun k2 hI => ⟨_, s135 (refOf xs[i]) p c H16, Ret.use ⟨_, rfl⟩, fun b H19 ⟨e, p19⟩ => ⟨fun hb hI => ⟨?y2, hI.pres⟩, fun hb d' => ?n2⟩⟩, fun k2 => ⟨fun k3 hI => ⟨_, s135 (refOf xs[i]) p c H16, Ret.use ⟨_, rfl⟩, fun b H19 ⟨e, p19⟩ => ⟨fun hb hI => ⟨?y3, hI.pres⟩, fun hb d' => ?n3⟩⟩, fun k3 d' => ?n⟩⟩⟩⟩, fun h => ?ge⟩ hin hI
    case ge => simp at h; omega
    case ld =>
      simp only [Int.toNat_natCast]
      exact load_agg (by kernel_rfl) (by kernel_rfl) h3
    case y2 => cases e; simp [namesX, k2, hb]
    case y3 => cases e; simp [namesX, k3, hb]
    case n2 =>
      have p16' : PresX [] H H16 := p15.trans p16 (fun j hj => .inr (by rw [List.mem_singleton.1 hj]; exact h15))
      have : namesX p c xs[i] = false := by cases e; simp [namesX, hb]
      rw [this, Bool.false_or, hw]
      exact next d' H19 (keep (p16'.trans0 p19))
    case n3 =>
      have p16' : PresX [] H H16 := p15.trans p16 (fun j hj => .inr (by rw [List.mem_singleton.1 hj]; exact h15))
      have : namesX p c xs[i] = false := by cases e; simp [namesX, hb]
      rw [this, Bool.false_or, hw]
      exact next d' H19 (keep (p16'.trans0 p19))
    case n =>
      have p16' : PresX [] H H16 := p15.trans p16 (fun j hj => .inr (by rw [List.mem_singleton.1 hj]; exact h15))
      have : namesX p c xs[i] = false := by simp at k2 k3; simp [namesX, k2, k3]
      rw [this, Bool.false_or, hw]
      exact next d' H16 (keep p16')

theorem s71 (p : PlaceC) (c : ChangeC) (N : Nd) (H : LHeap) (hN : NdAt H N) (hS : NdSm N) (hsz : (preT N).length ≤ 1000000) : CallL cfg 71 [N.root.lv, p.lv, c.lv] H (Ret (.bool ((preT N).any (namesX p c))) H) := by
  refine e71t _ N.root p c H fun i3 H4 _ _ i5 H6 _ _ i7 H8 _ _ hI => ⟨_, s44 N H8 (hN.on hI.pres) hS hsz, ?_, fun a n q H13 ⟨p13, b, qb, e, rb, _⟩ d => ?_⟩
  · rintro v H' ⟨h1, a, q, e, _⟩
    exact ⟨h1, a, _, q, e⟩
  · cases e
    have := loop71 p c N.root H i3 i5 i7 (preT N) hsz a q (preT N).length 0 (by omega) d H13 rb
    simpa using this
end Go.Proofs.YtjihhflffkoffaaGreatDoor.Z
