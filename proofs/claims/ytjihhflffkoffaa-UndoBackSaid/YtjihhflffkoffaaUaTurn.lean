/- Walk of undo.Turned inside a fence: what is turned reads as each part with its two lists changed about; for at most a milliard parts. -/
import Derived.Test.YtjihhflffkoffaaUaIt
import Derived.Deep.Slices
namespace Go.Proofs.Ytjihhflffkoffaa
open Go.RowKit Go.Shelf Go.Proofs.YtjihhflffkoffaaW.PrintWords Go.Proofs.Ytjihhflffkoffaa.PUndoCloses
attribute [local go_sem] Oper.semAt_some

/-- Of part x of a row that is read: its three cells. -/
def Cells36 (w : World) (A : Option Addr) (g : List S36) (x : Nat) (q : (Option Addr × Nat) × (Option Addr × Nat)) : Prop :=
  ∃ ad, A = some ad ∧ w.cell? (ad.add (x * 3)) = some (.string (rd_T36 g x).f0) ∧ w.cell? ⟨(ad.add (x * 3)).block, (ad.add (x * 3)).off + 1, none⟩ = some (.slice q.1.1 (rd_T36 g x).f1.length q.1.2) ∧ w.cell? ⟨(ad.add (x * 3)).block, (ad.add (x * 3)).off + 2, none⟩ = some (.slice q.2.1 (rd_T36 g x).f2.length q.2.2)
def Reads36 (w : World) (ok : Nat → Prop) (g : List S36) (x : Nat) (q : (Option Addr × Nat) × (Option Addr × Nat)) : Prop :=
  (rd_T36 g x).f1.length ≤ q.1.2 ∧ Kd.F k59 w ok q.1.1 (rd_T36 g x).f1.length (rd_T36 g x).f1 ∧ (rd_T36 g x).f2.length ≤ q.2.2 ∧ Kd.F k59 w ok q.2.1 (rd_T36 g x).f2.length (rd_T36 g x).f2
theorem F36 {w : World} {ok : Nat → Prop} {A : Option Addr} {n : Nat} {g : List S36} (h : Kd.F k36 w ok A n g) :
    ∃ q : Nat → (Option Addr × Nat) × (Option Addr × Nat), ∀ x, x < n → Cells36 w A g x (q x) ∧ Reads36 w ok g x (q x) := by
  refine Go.Deep.choose_lt (α := (Option Addr × Nat) × (Option Addr × Nat)) (p := fun x y => Cells36 w A g x y ∧ Reads36 w ok g x y) (fun x hx => ?_)
  obtain ⟨ad, cs, hA, hlen, hK, hcell⟩ := (Kd.F_rows h).get_ z36 (x : Int) (by omega) (by omega)
  obtain ⟨A1, c1, A2, c2, rfl, l1, f1, l2, f2⟩ := k36_openF hK
  rw [Int.toNat_natCast] at hcell
  exact ⟨((A1, c1), (A2, c2)), ⟨ad, hA, hcell 0 _ rfl, by rw [← add_field _ _ 1 (by omega)]; exact hcell 1 _ rfl, by rw [← add_field _ _ 2 (by omega)]; exact hcell 2 _ rfl⟩, l1, f1, l2, f2⟩

def turn1 (p : S36) : S36 := ⟨p.f0, p.f2, p.f1⟩
def turned (g : List S36) : List S36 := (dn g.length g.length).map (fun (x : Nat) => turn1 (rd_T36 g x))
theorem turned_length (g : List S36) : (turned g).length = g.length := by simp [turned, dn]
theorem info36' : (Try.prog.info? 36).map (fun i => (i.zero, i.size, i.bytes)) = some (some (.agg #[(.string ⟨#[]⟩), (.slice none 0 0), (.slice none 0 0)]), 3, 64) := by kernel_rfl
/-- The cells of what has been turned. -/
def tcells (g : List S36) (q : Nat → (Option Addr × Nat) × (Option Addr × Nat)) (x : Nat) : List Value := [.string (rd_T36 g x).f0, .slice (q x).2.1 (rd_T36 g x).f2.length (q x).2.2, .slice (q x).1.1 (rd_T36 g x).f1.length (q x).1.2]
def tall (g : List S36) (q : Nat → (Option Addr × Nat) × (Option Addr × Nat)) (pre : List Nat) : List Value := pre.flatMap (tcells g q)
theorem tall_snoc (g : List S36) (q) (pre : List Nat) (x : Nat) : tall g q (pre ++ [x]) = tall g q pre ++ tcells g q x := by simp [tall]

theorem new_cells (W : World) (cs : List Value) (t : TypeId) : ∀ j u, cs[j]? = some u → (W.alloc (.cells cs.toArray t)).cell? ((⟨W.heap.size, 0, none⟩ : Addr).add j) = some u := by
  intro j u hu
  rw [Addr.add_lit]
  unfold World.cell?
  rw [show (W.alloc (.cells cs.toArray t)).heap[W.heap.size]? = some _ from heap_alloc_new W _]
  simpa using hu
theorem tcells_one (g : List S36) (q) (x : Nat) : ∀ u ∈ tcells g q x, u.oneCell' = true := by
  intro u hu
  simp only [tcells, List.mem_cons, List.not_mem_nil, or_false] at hu
  rcases hu with rfl | rfl | rfl <;> rfl
theorem kpB_b {n₀ Bs : Nat} {w : World} (hn : n₀ ≤ w.heap.size) (hB : Bs < w.heap.size) (W : World) (l : Nat) (o o' : Obj) (hl : w.heap.size ≤ l) (h : W.heap[l]? = some o) (h1 : o.isCells = false) (h2 : o.isWalk = false) : KpB n₀ Bs W (W.putObj l o') :=
  ⟨belowK_b hn W l o o' hl h h1 h2, World.putObj_heap_other (by omega)⟩

set_option maxRecDepth 100000 in
set_option maxHeartbeats 4000000 in
theorem turned_in (F : Fence) (n : Nat) (h16 : F.fn 16) (h20 : F.fn 20) (h29 : F.fn 29) (hro : F.round = none) (hn : 3 ≤ n) (A : Option Addr) (len cap : Nat) (g : List S36) (q : Nat → (Option Addr × Nat) × (Option Addr × Nat)) (w : World) (hlen : len ≤ 1000000000)
    (hq : ∀ x, x < len → Cells36 w A g x (q x)) :
    CallsIn F n Try.prog 16 #[.slice A len cap] w fun e W' => ∃ v, e = .returned v ∧ W'.ownsRow w.heap.size 36 3 v len (tall g q (dn len len)) ∧ Below w.heap.size w W' := by
  have h1 : 1 ≤ n := by omega
  obtain ⟨i0, hi, hz0, hz1, hz2⟩ := info_parts info36'
  refine callsIn_of_wp_marks Try.func16 rfl h16 ?_ hro
  simp only [Try.ntmps16, List.size_toArray, List.length_cons, List.length_nil, Nat.reduceAdd, Nat.reduceSub, Array.replicate_succ, Array.replicate_zero, List.push_toArray, List.append_toArray, List.nil_append, List.cons_append]
  gi_wp2_with (gi_at_call 20; refine (bw20_in F (n - 1) h20 hro _ _ _ _).mono ?_; rintro e w' ⟨rfl, rfl⟩)
  have bO := Boxed.new w 29 (.slice none 0 0)
  have bN := Boxed.new (w.alloc (.cells #[.slice none 0 0] 29)) 29 (.slice A len cap)
  rw [World.size_alloc] at bN
  have hB0 : Below w.heap.size w ((w.alloc (.cells #[.slice none 0 0] 29)).alloc (.cells #[.slice A len cap] 29)) := ((Below.refl _ w).alloc (Nat.le_refl _) _).alloc (by simp) _
  refine wpIn_rangeFunc_ownH hro h1 (gf := 29) (lb := #[.pointer (some ⟨w.heap.size + 1, 0, none⟩)]) rfl h29 (enters_of Try.func29 (by kernel_rfl) rfl)
    (α := Nat) (encs := fun x => #[.int .i64 (x : Int), .agg #[.string (rd_T36 g x).f0, .slice (q x).1.1 (rd_T36 g x).f1.length (q x).1.2, .slice (q x).2.1 (rd_T36 g x).f2.length (q x).2.2]]) (Kp := KpB w.heap.size (w.heap.size + 1)) (S := fun ys => ys = dn len len) (Sp := fun pre => ∃ k, k ≤ len ∧ pre = dn len k) (N := len) (w0 := (w.alloc (.cells #[.slice none 0 0] 29)).alloc (.cells #[.slice A len cap] 29))
    (fun l J Jx W hW _ _ hY h0 => bw29_in F (n - 1) h29 hro (by omega) l (w.heap.size + 1) w.heap.size len cap A (fun x => .string (rd_T36 g x).f0) (fun x => .slice (q x).1.1 (rd_T36 g x).f1.length (q x).1.2) (fun x => .slice (q x).2.1 (rd_T36 g x).f2.length (q x).2.2) hlen J Jx (fun pre x W hj hl _ => hY pre x W hj hl) W ((hW.block _ (by simp)).trans bN) (fun i hi => ?elems) h0)
    (fun h k => h.trans k) (kpB_b (by simp; omega) (by simp)) (Below.refl _ _) (fun _ => rfl)
    (fun pre W => ((∃ v, Boxed W w.heap.size 29 v ∧ W.ownsRow w.heap.size 36 3 v pre.length (tall g q pre) ∧ True) ∧ Boxed W (w.heap.size + 1) 29 (.slice A len cap)) ∧ Below w.heap.size w W)
    (fun _ _ _ => False)
    (OwnFrom.and (OwnFrom.and (Own.from (holdsRow_own w.heap.size w.heap.size 29 36 3 (fun pre => pre.length) (fun pre => tall g q pre) (fun _ _ => True)) _) (Own.from (boxed_own _ _ _) _)) (ownFrom_below (Nat.le_refl _) (by simp; omega)))
    (fun _ _ _ _ _ hs _ _ => hs)
    ⟨⟨⟨_, bO.alloc _, World.ownsRow_nil _ _ _ _, trivial⟩, bN⟩, hB0⟩
    (fun x a' W => ∃ Bx, w.heap.size + 1 < Bx ∧ W.heap[Bx]? = some (.cells #[.string (rd_T36 g x).f0, .slice (q x).1.1 (rd_T36 g x).f1.length (q x).1.2, .slice (q x).2.1 (rd_T36 g x).f2.length (q x).2.2] 36 (0, 0)) ∧ a' = { tmps := #[.slice A len cap, undef, .slice none 0 0, .pointer (some ⟨w.heap.size, 0, none⟩), undef, .pointer (some ⟨Bx, 0, none⟩), .slice A len cap, .func (.func 29) #[] #[.pointer (some ⟨w.heap.size + 1, 0, none⟩)], .int .i64 (x : Int), .agg #[.string (rd_T36 g x).f0, .slice (q x).1.1 (rd_T36 g x).f1.length (q x).1.2, .slice (q x).2.1 (rd_T36 g x).f2.length (q x).2.2], undef, undef, undef, undef, undef, undef, undef, undef, undef, undef, undef], defers := [] })
    ?hAx ?assign ?body ?done ?stop
  case elems =>
    obtain ⟨ad, hA, e0, e1, e2⟩ := hq i hi
    have hb : Below w.heap.size w W := hB0.trans (hW.mono hB0.size)
    have hab : ad.block < w.heap.size := by have := World.block_lt_of_cell? w _ e0; rwa [add_block] at this
    exact ⟨ad, hA, hab, pw_cell_below hb e0, pw_cell_below hb e1, pw_cell_below hb e2⟩
  case hAx =>
    rintro x a' _ X Y row ⟨Bx, h1, h2, h3⟩ hg hr
    refine ⟨Bx, h1, (hg.block Bx (Array.getElem?_eq_some_iff.1 h2).1 ?_).trans h2, h3⟩
    intro e
    obtain ⟨_, o, ho, hc⟩ := hr Bx e.symm
    rw [h2] at ho; cases ho; cases hc
  case assign =>
    rintro l pre x W K ⟨⟨⟨v, hv, hrow, _⟩, hb1⟩, hB1⟩ hK
    gi_wp2
    refine hK _ _ ((KeepsOthers.alloc _ _).from _) ⟨(Below.refl _ W).alloc hB1.size _, Below.heap_alloc W _ _ hb1.lt⟩ ⟨⟨⟨v, hv.alloc _, hrow.alloc _, trivial⟩, hb1.alloc _⟩, hB1.alloc hB1.size _⟩ ⟨W.heap.size, hb1.lt, heap_alloc_new W _, rfl⟩
  case body =>
    rintro l pre x a' W hl hr ⟨⟨⟨v, hv, hrow, _⟩, hb1⟩, hB1⟩ ⟨Bx, hBx, hcx, rfl⟩ hlt
    have hc := hv.cell
    have hp0 : W.cell? ⟨Bx, 0, none⟩ = some (.string (rd_T36 g x).f0) := by simp [World.cell?, hcx]
    have hp1 : W.cell? ⟨Bx, 1, none⟩ = some (.slice (q x).1.1 (rd_T36 g x).f1.length (q x).1.2) := by simp [World.cell?, hcx]
    have hp2 : W.cell? ⟨Bx, 2, none⟩ = some (.slice (q x).2.1 (rd_T36 g x).f2.length (q x).2.2) := by simp [World.cell?, hcx]
    have hne := hb1.not_row (by decide) hrow
    gi_wp2_with (gi_at_builtin; go_must (refine wpListIn_append_own _ rfl _ _ 29 rfl w.heap.size 36 i0 (.agg #[.string ⟨#[]⟩, .slice none 0 0, .slice none 0 0]) 3 64 Try.underlying29 hi hz0 hz1 hz2 rfl (by decide) _ _ _ rfl (hrow.alloc _) ⟨W.heap.size, 0, none⟩ 1 1 (tcells g q x) rfl rfl (new_cells W (tcells g q x) 36) (tcells_one g q x) (by unfold maxLen; omega) (by omega) (by have := hB1.size; simp; omega) ?_); intro v' w1 hown' hgrow _; obtain ⟨g', cap', rfl⟩ := ownsRow_succ hown'; obtain ⟨hv1, hv2, hr2, hk2, hb2⟩ := hv.appended (by decide) hrow hB1.size (Nat.le_refl _) hown' hgrow; have hc1 := hv1.cell; have hf1 := hv1.frozen)
    have hx1 : Boxed w1 (w.heap.size + 1) 29 (.slice A len cap) := (hb1.alloc _).kept hgrow hne
    have hx2 : Boxed (w1.setCell ⟨w.heap.size, 0, none⟩ (.slice (some ⟨g', 0, none⟩) (pre.length + 1) cap')) (w.heap.size + 1) 29 (.slice A len cap) := (Below.heap_setCell w1 ⟨w.heap.size, 0, none⟩ _ _ (by simp)).trans hx1
    exact ⟨hk2.from _, ⟨hb2, hx2.trans hb1.symm⟩, ⟨⟨⟨_, hv2, by rw [tall_snoc, List.length_append]; exact hr2, trivial⟩, hx2⟩, hB1.trans hb2⟩⟩
  case done =>
    rintro D ys W hD rfl ⟨⟨⟨v, hv, hrow, _⟩, hb1⟩, hB1⟩ hK
    have hc := hv.cell
    gi_wp2
    refine ⟨by simp, .inl ⟨_, _, rfl, run_takeDeferred hK, ?_⟩⟩
    refine ⟨_, results_tmp rfl _ _ _, v, rfl, by simpa [dn_length] using ownsRow_putObj hrow _ hK rfl, hB1.trans (belowK_b (w := w) (Nat.le_refl _) W D _ _ (by simp at hD; omega) hK rfl rfl)⟩
  case stop =>
    rintro D c pre W _ _ h _
    exact h.elim
end Go.Proofs.Ytjihhflffkoffaa
