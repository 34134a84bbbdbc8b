/- Contracts of functions of the program; no condition. -/
import Derived.Test.YtjihhflffkoffaaGreatDoorFa
import Derived.Test.YtjihhflffkoffaaGreatDoorFk
import Derived.Test.YtjihhflffkoffaaGreatDoorW15
set_option linter.unusedSimpArgs false
set_option linter.unusedVariables false
set_option linter.unusedSectionVars false
set_option linter.unnecessarySimpa false
namespace Go.Proofs.YtjihhflffkoffaaGreatDoor.Z
open Go Go.Lm
set_option maxRecDepth 100000

theorem s287 (n : Int) (H : LHeap) (h : 0 ≤ n) (h' : n ≤ 9223372036854775807) : CallL cfg 287 [.int .i64 n] H (Ret (.int .u64 n) H) := by
  refine e287t _ n H ⟨fun h => ?_, fun _ hI => ⟨?_, hI.pres⟩⟩
  · simp at h; omega
  · congr 1
    rw [lwrap_eq]
    simp only [IntKind.wrap, IntKind.signed, IntKind.bits, Bool.false_and, Bool.false_eq_true, if_false]
    omega

theorem s295 (n : Int) (h : 1 ≤ n ∧ n ≤ 64) (H : LHeap) : CallL cfg 295 [.int .i64 n] H (GoodS (fun s => s.length ≤ 3) H) := by
  have hw : lwrap .i64 (n * 10000) = n * 10000 := lwrap_small (by omega) (by omega)
  have hd : Int.tdiv (n * 10000) 10000 = n := by rw [Int.tdiv_eq_ediv_of_nonneg (by omega)]; omega
  have hm : Int.tmod (n * 10000) 10000 = 0 := by rw [Int.tmod_eq_emod_of_nonneg (by omega)]; omega
  have hu : lwrap .u64 n = n := by
    rw [lwrap_eq]
    simp only [IntKind.wrap, IntKind.signed, IntKind.bits, Bool.false_and, Bool.false_eq_true, if_false]
    omega
  have s245 : ∀ H, CallL cfg 245 [.int .i64 (n * 10000)] H (GoodS (fun s => s.length ≤ 3) H) := by
    intro H
    refine e245t _ (n * 10000) H fun hI => ⟨_, s287 (n * 10000) H (by omega) (by omega), Ret.use ⟨_, rfl⟩, fun n2 H3 ⟨e, _⟩ hI => ?_⟩
    cases e
    rw [hd, hm, hu]
    refine ⟨_, s288 n h H3, GoodS.sh, fun s5 H6 ⟨_, t, e, ht⟩ => ⟨fun h0 => ?_, fun _ => ⟨fun h0 => ?_, fun _ hI => .mk hI.pres ?_⟩⟩⟩
    · simp at h0
    · simp at h0; omega
    · cases e; exact ht
  refine e295t _ n H fun hI => ?_
  rw [hw]
  refine ⟨_, s245 H, GoodS.sh, fun s2 H3 ⟨_, t, e, ht⟩ hI => .mk hI.pres ?_⟩
  cases e; exact ht

theorem encode_len (i : Int) : (Array.toList (ByteArray.data (Utf8.encode i))).length ≤ 4 := by
  have h : (Utf8.encode i).size ≤ 4 := by
    unfold Utf8.encode
    simp only
    repeat' split
    all_goals simp [ByteArray.size]
  rw [Array.length_toList]
  exact h

theorem s262 (r : RefC) (H : LHeap) (h : 1 ≤ r.row ∧ r.row ≤ 64) : CallL cfg 262 [r.lv] H (GoodS (fun s => s.length ≤ 20) H) := by
  have he := encode_len (lwrap .i32 (lwrap .i64 ((lwrap .i64 ((65 : Int) + r.col)) - (1 : Int))))
  have c := fun H => s295 r.row h H
  refine e262t _ r H fun i1 H2 _ _ => ⟨fun _ => ⟨fun _ => ⟨by omega, by simp only [List.length_append, List.length_cons, List.length_nil]; omega, rfl, fun hI => ⟨_, c H2, GoodS.sh, fun s7 H8 ⟨_, t, e, ht⟩ => ?_⟩⟩, fun _ => ⟨by omega, by simp only [List.length_append, List.length_cons, List.length_nil]; omega, rfl, fun hI => ⟨_, c H2, GoodS.sh, fun s7 H8 ⟨_, t, e, ht⟩ => ?_⟩⟩⟩, fun _ => ⟨fun _ => ⟨by omega, by simp only [List.length_append, List.length_cons, List.length_nil]; omega, rfl, fun hI => ⟨_, c H2, GoodS.sh, fun s7 H8 ⟨_, t, e, ht⟩ => ?_⟩⟩, fun _ => ⟨by omega, by simp only [List.length_append, List.length_cons, List.length_nil]; omega, rfl, fun hI => ⟨_, c H2, GoodS.sh, fun s7 H8 ⟨_, t, e, ht⟩ => ?_⟩⟩⟩⟩
  all_goals
    cases e
    exact ⟨by simp only [List.length_append, List.length_cons, List.length_nil]; omega, rfl, fun hI => .mk hI.pres (by simp only [List.length_append, List.length_cons, List.length_nil]; omega)⟩

theorem nameF_len {s : List UInt8} (h : nameF s = true) : s.length ≤ 16 := by
  cases s with
  | nil => simp
  | cons b t =>
    unfold nameF at h
    simp only at h
    split at h
    · cases h
    · omega

theorem refF_ok {r : RefC} (h : refF r = true) : (1 ≤ r.row ∧ r.row ≤ 64) ∧ r.sheet.length ≤ 16 ∧ r.book.length ≤ 16 := by
  unfold refF inF at h
  simp only [Bool.and_eq_true, decide_eq_true_eq, Bool.or_eq_true] at h
  obtain ⟨⟨⟨h1, _⟩, h3⟩, h4⟩ := h
  refine ⟨⟨h1.1, h1.2.1⟩, ?_, ?_⟩
  · rcases h3 with h | h
    · have : r.sheet = [] := by simpa using h
      rw [this]; simp
    · exact nameF_len h
  · rcases h4 with h | h
    · have : r.book = [] := by simpa using h
      rw [this]; simp
    · exact nameF_len h

theorem s195 (r : RefC) (H : LHeap) : CallL cfg 195 [r.lv] H (GoodS (fun t => t.length ≤ 100) H) := by
  refine e195t _ r H fun i1 H2 _ _ hI => ⟨_, s256 r H2, Ret.use ⟨_, rfl⟩, fun b4 H5 ⟨e4, _⟩ => ⟨fun _ hI => .mk hI.pres (by simp), fun h4 hI => ?_⟩⟩
  have hr : refF r = true := by cases e4; simpa using h4
  obtain ⟨hrow, h1, h2⟩ := refF_ok hr
  refine ⟨_, s262 r H5 hrow, GoodS.sh, fun s7 H8 ⟨_, t, e, ht⟩ => ?_⟩
  cases e
  refine ⟨fun _ => ⟨by omega, by simp; omega, fun _ => ⟨by omega, by simp; omega, by simp; omega, fun hI => .mk hI.pres (by simp; omega)⟩, fun _ hI => .mk hI.pres (by simp; omega)⟩, fun _ => ⟨fun _ => ⟨by omega, by simp; omega, by simp; omega, fun hI => .mk hI.pres (by simp; omega)⟩, fun _ hI => .mk hI.pres (by omega)⟩⟩

def areaF (r t : RefC) : Bool := refF r && (refF t && ((t.book == []) && (t.sheet == [])))

theorem s196 (r t : RefC) (H : LHeap) : CallL cfg 196 [r.lv, t.lv] H (GoodS (fun s => (!(s == [])) = areaF r t) H) := by
  refine e196t _ r t H fun i2 H3 _ _ i4 H5 _ _ i6 H7 _ _ H8 _ H9 _ H10 _ hI => ⟨_, s256 r H10, Ret.use ⟨_, rfl⟩, fun b12 H13 ⟨e12, _⟩ => ⟨fun h hI => .mk hI.pres ?_, fun h12 hI => ⟨_, s256 t H13, Ret.use ⟨_, rfl⟩, fun b15 H16 ⟨e15, _⟩ => ⟨fun h hI => .mk hI.pres ?_, fun h15 => ⟨fun h hI => .mk hI.pres ?_, fun h => ⟨rfl, fun hI => ?_⟩⟩⟩⟩⟩⟩
  · cases e12
    have : refF r = false := by simpa using h
    simp [areaF, this]
  · cases e12; cases e15
    have : refF t = false := by simpa using h
    simp [areaF, this]
  · have : ((t.book == []) && (t.sheet == [])) = false := by
      cases hb : (t.book == []) <;> cases hs : (t.sheet == []) <;> simp_all
    unfold areaF
    rw [this]
    simp
  · have hr : refF r = true := by cases e12; simpa using h12
    have ht : refF t = true := by cases e15; simpa using h15
    have hz : ((t.book == []) && (t.sheet == [])) = true := by simpa using h
    have ha : areaF r t = true := by unfold areaF; rw [hr, ht, hz]; rfl
    refine ⟨_, s195 r H16, GoodS.sh, fun s20 H21 ⟨_, u, e, hu⟩ => ?_⟩
    cases e
    refine ⟨by omega, rfl, fun hI => ⟨_, s262 t H21 (refF_ok ht).1, GoodS.sh, fun s25 H26 ⟨_, w, e, hw⟩ => ?_⟩⟩
    cases e
    exact ⟨by simp; omega, fun hI => .mk hI.pres (by rw [ha]; simp)⟩

/-! Values -/
def ownV (v : ValC) : LV :=
  if v.kind == 0 then .iface 297 (.agg []) else if v.kind == 1 then .iface 280 (.int .i64 v.n) else if v.kind == 2 then .iface 281 (.str v.s) else if v.kind == 3 then .iface 282 (.bool (v.n != 0)) else if v.kind == 4 then .iface 283 (.int .i64 v.n) else .nilIface

theorem s260 (v : ValC) (H : LHeap) : CallL cfg 260 [v.lv] H (Ret (ownV v) H) := by
  refine e260t _ v H fun i1 H2 _ _ => ⟨fun h0 hI => ⟨?_, hI.pres⟩, fun h0 => ⟨fun h1 hI => ⟨?_, hI.pres⟩, fun h1 => ⟨fun h2 hI => ⟨?_, hI.pres⟩, fun h2 => ⟨fun h3 hI => ⟨?_, hI.pres⟩, fun h3 => ⟨fun h4 hI => ⟨?_, hI.pres⟩, fun h4 hI => ⟨?_, hI.pres⟩⟩⟩⟩⟩⟩
  all_goals simp only [ownV, *, if_true, Bool.false_eq_true, if_false]

def numF (n : Int) : Bool := decide (n ≥ (-100000000000)) && decide (n ≤ 100000000000)
theorem s294 (n : Int) (H : LHeap) : CallL cfg 294 [.int .i64 n] H (Ret (.bool (numF n)) H) := by
  refine e294t _ n H ⟨fun h hI => ⟨?_, hI.pres⟩, fun h hI => ⟨?_, hI.pres⟩⟩
  all_goals simp only [numF, h, Bool.true_and, Bool.false_and]

def valF (v : ValC) : Bool :=
  if (v.kind != 2) = true ∧ (!(v.s == [])) = true then false
  else if v.kind == 0 then v.n == 0 else if v.kind == 1 then numF v.n else if v.kind == 2 then (v.n == 0) && decide (((v.s.length : Nat) : Int) ≤ 255) else if v.kind == 3 then (v.n == 0) || (v.n == 1) else if v.kind == 4 then decide (v.n ≥ 1) && decide (v.n ≤ 8) else false

theorem valF_no {v : ValC} (h : (v.kind != 2) = true) (k : (!(v.s == [])) = true) : valF v = false := by unfold valF; rw [if_pos ⟨h, k⟩]
theorem valF_s {v : ValC} (k : (!(v.s == [])) = false) : valF v = (if v.kind == 0 then v.n == 0 else if v.kind == 1 then numF v.n else if v.kind == 2 then (v.n == 0) && decide (((v.s.length : Nat) : Int) ≤ 255) else if v.kind == 3 then (v.n == 0) || (v.n == 1) else if v.kind == 4 then decide (v.n ≥ 1) && decide (v.n ≤ 8) else false) := by
  unfold valF; rw [if_neg (fun h => by rw [k] at h; cases h.2)]
theorem valF_k {v : ValC} (k : (v.kind != 2) = false) : valF v = ((v.n == 0) && decide (((v.s.length : Nat) : Int) ≤ 255)) := by
  have : v.kind = 2 := by simpa using k
  unfold valF; rw [if_neg (fun h => by rw [k] at h; cases h.1), this]; rfl

theorem s255 (v : ValC) (H : LHeap) : CallL cfg 255 [v.lv] H (Ret (.bool (valF v)) H) := by
  have own : ∀ {w : LV} (H : LHeap), ownV v = w → CallL cfg 260 [v.lv] H (Ret w H) := fun H e => e ▸ s260 v H
  by_cases k0 : v.kind = 0
  · have ho : ownV v = .iface 297 (.agg []) := by simp [ownV, k0]
    refine e255a _ v H fun i1 H2 _ _ => ⟨fun hk => ⟨fun hs hI => ⟨by rw [valF_no hk hs], hI.pres⟩, fun hs hI => ⟨_, own H2 ho, Ret.use ⟨(), rfl⟩, fun y H5 _ i6 H7 _ _ H8 _ hI => ⟨?_, hI.pres⟩⟩⟩, fun hk => ?_⟩
    · rw [valF_s hs, k0]; rfl
    · rw [k0] at hk; cases hk
  by_cases k1 : v.kind = 1
  · have ho : ownV v = .iface 280 (.int .i64 v.n) := by simp [ownV, k1]
    refine e255b _ v H fun i1 H2 _ _ => ⟨fun hk => ⟨fun hs hI => ⟨by rw [valF_no hk hs], hI.pres⟩, fun hs hI => ⟨_, own H2 ho, Ret.use ⟨v.n, rfl⟩, fun y H5 ⟨e, _⟩ hI => ⟨_, s294 y H5, Ret.use ⟨_, rfl⟩, fun b H8 ⟨e2, _⟩ hI => ⟨?_, hI.pres⟩⟩⟩⟩, fun hk => ?_⟩
    · cases e; cases e2; rw [valF_s hs, k1]; rfl
    · rw [k1] at hk; cases hk
  by_cases k2 : v.kind = 2
  · have ho : ownV v = .iface 281 (.str v.s) := by simp [ownV, k2]
    refine e255c _ v H fun i1 H2 _ _ => ⟨fun hk => ?_, fun hk hI => ⟨_, own H2 ho, Ret.use ⟨v.s, rfl⟩, fun y H5 ⟨e, _⟩ => ⟨fun hn hI => ⟨?_, hI.pres⟩, fun hn hI => ⟨?_, hI.pres⟩⟩⟩⟩
    · rw [k2] at hk; cases hk
    · cases e; rw [valF_k hk, hn]; rfl
    · cases e; rw [valF_k hk, hn]; rfl
  by_cases k3 : v.kind = 3
  · have ho : ownV v = .iface 282 (.bool (v.n != 0)) := by simp [ownV, k3]
    refine e255d _ v H fun i1 H2 _ _ => ⟨fun hk => ⟨fun hs hI => ⟨by rw [valF_no hk hs], hI.pres⟩, fun hs hI => ⟨_, own H2 ho, Ret.use ⟨_, rfl⟩, fun y H5 _ => ⟨fun hn hI => ⟨?_, hI.pres⟩, fun hn hI => ⟨?_, hI.pres⟩⟩⟩⟩, fun hk => ?_⟩
    · rw [valF_s hs, k3, hn]; rfl
    · rw [valF_s hs, k3, hn]; rfl
    · rw [k3] at hk; cases hk
  by_cases k4 : v.kind = 4
  · have ho : ownV v = .iface 283 (.int .i64 v.n) := by simp [ownV, k4]
    refine e255e _ v H fun i1 H2 _ _ => ⟨fun hk => ⟨fun hs hI => ⟨by rw [valF_no hk hs], hI.pres⟩, fun hs hI => ⟨_, own H2 ho, Ret.use ⟨v.n, rfl⟩, fun y H5 ⟨e, _⟩ => ⟨fun hn hI => ⟨?_, hI.pres⟩, fun hn hI => ⟨?_, hI.pres⟩⟩⟩⟩, fun hk => ?_⟩
    · cases e; rw [valF_s hs, k4, hn]; rfl
    · cases e; rw [valF_s hs, k4, hn]; rfl
    · rw [k4] at hk; cases hk
  · have f0 : (v.kind == 0) = false := by simpa using k0
    have f1 : (v.kind == 1) = false := by simpa using k1
    have f2 : (v.kind == 2) = false := by simpa using k2
    have f3 : (v.kind == 3) = false := by simpa using k3
    have f4 : (v.kind == 4) = false := by simpa using k4
    have ho : ownV v = .nilIface := by simp [ownV, f0, f1, f2, f3, f4]
    refine e255f _ v H fun i1 H2 _ _ => ⟨fun hk => ⟨fun hs hI => ⟨by rw [valF_no hk hs], hI.pres⟩, fun hs hI => ⟨_, own H2 ho, Ret.use ⟨(), rfl⟩, fun y H5 _ hI => ⟨?_, hI.pres⟩⟩⟩, fun hk => ?_⟩
    · rw [valF_s hs, f0, f1, f2, f3, f4]; rfl
    · simp at hk; omega

def bindsF (s : List UInt8) : Int :=
  if s == [61] then 1 else if s == [60, 62] then 1 else if s == [60] then 1 else if s == [60, 61] then 1 else if s == [62] then 1 else if s == [62, 61] then 1 else if s == [38] then 2 else if s == [43] then 3 else if s == [45] then 3 else if s == [42] then 4 else if s == [47] then 4 else if s == [94] then 5 else 0

theorem s198 (s : List UInt8) (H : LHeap) : CallL cfg 198 [.str s] H (Ret (.int .i64 (bindsF s)) H) := by
  refine e198t _ s H ⟨fun h1 hI => ⟨?_, hI.pres⟩, fun h1 => ⟨fun h2 hI => ⟨?_, hI.pres⟩, fun h2 => ⟨fun h3 hI => ⟨?_, hI.pres⟩, fun h3 => ⟨fun h4 hI => ⟨?_, hI.pres⟩, fun h4 => ⟨fun h5 hI => ⟨?_, hI.pres⟩, fun h5 => ⟨fun h6 hI => ⟨?_, hI.pres⟩, fun h6 => ⟨fun h7 hI => ⟨?_, hI.pres⟩, fun h7 => ⟨fun h8 hI => ⟨?_, hI.pres⟩, fun h8 => ⟨fun h9 hI => ⟨?_, hI.pres⟩, fun h9 => ⟨fun h10 hI => ⟨?_, hI.pres⟩, fun h10 => ⟨fun h11 hI => ⟨?_, hI.pres⟩, fun h11 => ⟨fun h12 hI => ⟨?_, hI.pres⟩, fun h12 hI => ⟨?_, hI.pres⟩⟩⟩⟩⟩⟩⟩⟩⟩⟩⟩⟩⟩
  all_goals simp only [bindsF, *, if_true, Bool.false_eq_true, if_false]
end Go.Proofs.YtjihhflffkoffaaGreatDoor.Z
