/- Contracts of functions of the program; no condition. -/
import Derived.Test.YtjihhflffkoffaaGreatDoorWt
set_option linter.unusedSimpArgs false
set_option linter.unusedVariables false
set_option linter.unusedSectionVars false
set_option linter.unnecessarySimpa false
namespace Go.Proofs.YtjihhflffkoffaaGreatDoor.Z
open Go Go.Lm
set_option maxRecDepth 100000

/-- The change that takes a change back. -/
def backC (c : ChangeC) : ChangeC := { c with shiftN := -c.shiftN }

/-- A node that comes back. -/
structure BackX (c : ChangeC) (x : NdC) : Prop where
  ref : x.kind = 2 → x.s = [] ∧ (x.valueKind = 0 ∧ x.valueN = 0 ∧ x.valueS = []) ∧ (x.toBook = [] ∧ x.toSheet = [] ∧ x.toRow = 0 ∧ x.toCol = 0 ∧ x.toFixRow = false ∧ x.toFixCol = false) ∧ 1 ≤ x.refRow ∧ 1 ≤ x.refCol ∧ (if c.cols then x.refCol else x.refRow) + c.shiftN ≤ c.shiftMost
  area : x.kind = 3 → x.s = [] ∧ (x.valueKind = 0 ∧ x.valueN = 0 ∧ x.valueS = []) ∧ 1 ≤ x.refRow ∧ 1 ≤ x.refCol ∧ x.refRow ≤ x.toRow ∧ x.refCol ≤ x.toCol ∧ (if c.cols then x.toCol else x.toRow) + c.shiftN ≤ c.shiftMost

mutual
def BackT (c : ChangeC) : Nd → Prop
  | .mk x l => BackX c x ∧ (x.kind = 2 ∨ x.kind = 3 → l = []) ∧ BackTs c l
def BackTs (c : ChangeC) : List Nd → Prop
  | [] => True
  | n :: l => BackT c n ∧ BackTs c l
end

theorem goodS_back {x : ShiftC} (h : goodS x = true) (hn : 1 ≤ x.n) : goodS ⟨x.at_, -x.n, x.most⟩ = true := by
  rw [goodS_iff] at h ⊢
  simp only
  omega

theorem posS_back {x : ShiftC} (h : goodS x = true) (hn : 1 ≤ x.n) {k : Int} (h1 : 1 ≤ k) (h2 : k + x.n ≤ x.most) : (posS x k).2 = true ∧ posS ⟨x.at_, -x.n, x.most⟩ (posS x k).1 = (k, true) := by
  have hb := goodS_back h hn
  have hg := goodS_iff.1 h
  unfold posS
  rw [h, hb]
  simp only [if_true]
  rw [if_pos (show 1 ≤ k ∧ k ≤ x.most by omega)]
  by_cases hk : k < x.at_
  · rw [if_pos hk]
    simp only
    rw [if_pos (show 1 ≤ k ∧ k ≤ x.most by omega), if_pos hk]
    exact ⟨trivial, rfl⟩
  · rw [if_neg hk, if_neg (by omega)]
    simp only
    rw [if_pos (by omega), if_neg (by omega), if_neg (by omega)]
    exact ⟨trivial, by rw [show k + x.n + -x.n = k by omega]⟩

theorem spanS_back {x : ShiftC} (h : goodS x = true) (hn : 1 ≤ x.n) {lo hi : Int} (h1 : 1 ≤ lo) (hl : lo ≤ hi) (h2 : hi + x.n ≤ x.most) : (spanS x lo hi).2.2 = true ∧ spanS ⟨x.at_, -x.n, x.most⟩ (spanS x lo hi).1 (spanS x lo hi).2.1 = (lo, hi, true) ∧ (spanS x lo hi).1 ≤ (spanS x lo hi).2.1 := by
  have hb := goodS_back h hn
  have hg := goodS_iff.1 h
  have e : spanS x lo hi = (if x.at_ ≤ lo then lo + x.n else lo, if x.at_ ≤ hi then hi + x.n else hi, true) := by
    unfold spanS
    rw [if_pos ⟨h, by omega, hl, by omega⟩, if_pos (by omega)]
    rw [if_neg (by split <;> omega)]
    rw [if_neg (show ¬ x.most < hi + x.n by omega)]
  rw [e]
  refine ⟨rfl, ?_, ?_⟩
  · simp only
    unfold spanS foldS
    simp only
    by_cases a : x.at_ ≤ lo <;> by_cases b : x.at_ ≤ hi
    · rw [if_pos a, if_pos b, if_pos ⟨hb, by omega, by omega, by omega⟩, if_neg (by omega), if_neg (by omega)]
      simp only [Prod.mk.injEq, and_true]
      constructor <;> (repeat' split) <;> omega
    · omega
    · rw [if_neg a, if_pos b, if_pos ⟨hb, by omega, by omega, by omega⟩, if_neg (by omega), if_neg (by omega)]
      simp only [Prod.mk.injEq, and_true]
      constructor <;> (repeat' split) <;> omega
    · rw [if_neg a, if_neg b, if_pos ⟨hb, by omega, by omega, by omega⟩, if_neg (by omega), if_neg (by omega)]
      simp only [Prod.mk.injEq, and_true]
      constructor <;> (repeat' split) <;> omega
  · simp only
    split <;> split <;> omega

theorem cellN_back {x : NdC} {c : ChangeC} (hd : c.drop = false) (hg : goodS (shiftOf c) = true) (hn : 1 ≤ c.shiftN) (hx : BackX c x) (hk : x.kind = 2) :
    ∃ r : RefC, cellN x c = refNd r ∧ r.book = x.refBook ∧ r.sheet = x.refSheet ∧ cellN (refNd r) (backC c) = refNd (refOf x) := by
  obtain ⟨_, _, _, h1, h2, h3⟩ := hx.ref hk
  have hd' : (backC c).drop = false := hd
  have hsh : shiftOf (backC c) = ⟨(shiftOf c).at_, -(shiftOf c).n, (shiftOf c).most⟩ := rfl
  cases hc : c.cols with
  | true =>
    have hc' : (backC c).cols = true := hc
    rw [hc] at h3
    obtain ⟨k1, k2⟩ := posS_back (k := x.refCol) hg hn h2 (by simp at h3; exact h3)
    have e1 : refR (refOf x) c = (⟨x.refBook, x.refSheet, x.refRow, (posS (shiftOf c) x.refCol).1, x.refFixRow, x.refFixCol⟩, true) := by
      unfold refR; rw [hd, hc]; simp only [refOf, if_true, Bool.false_eq_true, if_false, k1]
    refine ⟨⟨x.refBook, x.refSheet, x.refRow, (posS (shiftOf c) x.refCol).1, x.refFixRow, x.refFixCol⟩, by unfold cellN; rw [e1]; rfl, rfl, rfl, ?_⟩
    have e2 : refR (refOf (refNd ⟨x.refBook, x.refSheet, x.refRow, (posS (shiftOf c) x.refCol).1, x.refFixRow, x.refFixCol⟩)) (backC c) = (refOf x, true) := by
      unfold refR; rw [hd', hc', hsh]
      simp only [refOf, refNd, if_true, Bool.false_eq_true, if_false]
      rw [k2]
    unfold cellN; rw [e2]; rfl
  | false =>
    have hc' : (backC c).cols = false := hc
    rw [hc] at h3
    obtain ⟨k1, k2⟩ := posS_back (k := x.refRow) hg hn h1 (by simp at h3; exact h3)
    have e1 : refR (refOf x) c = (⟨x.refBook, x.refSheet, (posS (shiftOf c) x.refRow).1, x.refCol, x.refFixRow, x.refFixCol⟩, true) := by
      unfold refR; rw [hd, hc]; simp only [refOf, if_true, Bool.false_eq_true, if_false, k1]
    refine ⟨⟨x.refBook, x.refSheet, (posS (shiftOf c) x.refRow).1, x.refCol, x.refFixRow, x.refFixCol⟩, by unfold cellN; rw [e1]; rfl, rfl, rfl, ?_⟩
    have e2 : refR (refOf (refNd ⟨x.refBook, x.refSheet, (posS (shiftOf c) x.refRow).1, x.refCol, x.refFixRow, x.refFixCol⟩)) (backC c) = (refOf x, true) := by
      unfold refR; rw [hd', hc', hsh]
      simp only [refOf, refNd, if_true, Bool.false_eq_true, if_false]
      rw [k2]
    unfold cellN; rw [e2]; rfl

theorem corn_id {a b : RefC} (h1 : a.row ≤ b.row) (h2 : a.col ≤ b.col) : cornR a b = a ∧ cornT a b = b := by
  unfold cornR cornT
  rw [if_neg (show ¬ b.row < a.row by omega), if_neg (show ¬ b.col < a.col by omega), if_neg (show ¬ b.row < a.row by omega), if_neg (show ¬ b.col < a.col by omega), if_neg (show ¬ b.row < a.row by omega), if_neg (show ¬ b.col < a.col by omega), if_neg (show ¬ b.row < a.row by omega), if_neg (show ¬ b.col < a.col by omega)]
  exact ⟨rfl, rfl⟩

theorem areaN_back {x : NdC} {c : ChangeC} (hd : c.drop = false) (hg : goodS (shiftOf c) = true) (hn : 1 ≤ c.shiftN) (hx : BackX c x) (hk : x.kind = 3) :
    ∃ r t : RefC, areaN x c = areaNd r t ∧ r.book = x.refBook ∧ r.sheet = x.refSheet ∧ areaN (areaNd r t) (backC c) = areaNd (refOf x) (toOf x) := by
  obtain ⟨_, _, h1, h2, h3, h4, h5⟩ := hx.area hk
  have hd' : (backC c).drop = false := hd
  have hsh : shiftOf (backC c) = ⟨(shiftOf c).at_, -(shiftOf c).n, (shiftOf c).most⟩ := rfl
  obtain ⟨c1, c2⟩ := corn_id (a := refOf x) (b := toOf x) h3 h4
  cases hc : c.cols with
  | true =>
    have hc' : (backC c).cols = true := hc
    rw [hc] at h5
    obtain ⟨k1, k2, k3⟩ := spanS_back (lo := x.refCol) (hi := x.toCol) hg hn h2 h4 (by simp at h5; exact h5)
    have e1 : areaR x c = ({ refOf x with col := (spanS (shiftOf c) x.refCol x.toCol).1 }, { toOf x with col := (spanS (shiftOf c) x.refCol x.toCol).2.1 }, true) := by
      unfold areaR; rw [hd, hc, c1, c2]; simp only [refOf, toOf, if_true, Bool.false_eq_true, if_false, k1]
    refine ⟨{ refOf x with col := (spanS (shiftOf c) x.refCol x.toCol).1 }, { toOf x with col := (spanS (shiftOf c) x.refCol x.toCol).2.1 }, by unfold areaN; rw [e1]; rfl, rfl, rfl, ?_⟩
    obtain ⟨d1, d2⟩ := corn_id (a := { refOf x with col := (spanS (shiftOf c) x.refCol x.toCol).1 }) (b := { toOf x with col := (spanS (shiftOf c) x.refCol x.toCol).2.1 }) h3 k3
    have e2 : areaR (areaNd { refOf x with col := (spanS (shiftOf c) x.refCol x.toCol).1 } { toOf x with col := (spanS (shiftOf c) x.refCol x.toCol).2.1 }) (backC c) = (refOf x, toOf x, true) := by
      unfold areaR; rw [hd', hc', hsh]
      rw [show refOf (areaNd { refOf x with col := (spanS (shiftOf c) x.refCol x.toCol).1 } { toOf x with col := (spanS (shiftOf c) x.refCol x.toCol).2.1 }) = { refOf x with col := (spanS (shiftOf c) x.refCol x.toCol).1 } from rfl, show toOf (areaNd { refOf x with col := (spanS (shiftOf c) x.refCol x.toCol).1 } { toOf x with col := (spanS (shiftOf c) x.refCol x.toCol).2.1 }) = { toOf x with col := (spanS (shiftOf c) x.refCol x.toCol).2.1 } from rfl, d1, d2]
      simp only [if_true, Bool.false_eq_true, if_false]
      rw [k2]
      rfl
    unfold areaN; rw [e2]; rfl
  | false =>
    have hc' : (backC c).cols = false := hc
    rw [hc] at h5
    obtain ⟨k1, k2, k3⟩ := spanS_back (lo := x.refRow) (hi := x.toRow) hg hn h1 h3 (by simp at h5; exact h5)
    have e1 : areaR x c = ({ refOf x with row := (spanS (shiftOf c) x.refRow x.toRow).1 }, { toOf x with row := (spanS (shiftOf c) x.refRow x.toRow).2.1 }, true) := by
      unfold areaR; rw [hd, hc, c1, c2]; simp only [refOf, toOf, if_true, Bool.false_eq_true, if_false, k1]
    refine ⟨{ refOf x with row := (spanS (shiftOf c) x.refRow x.toRow).1 }, { toOf x with row := (spanS (shiftOf c) x.refRow x.toRow).2.1 }, by unfold areaN; rw [e1]; rfl, rfl, rfl, ?_⟩
    obtain ⟨d1, d2⟩ := corn_id (a := { refOf x with row := (spanS (shiftOf c) x.refRow x.toRow).1 }) (b := { toOf x with row := (spanS (shiftOf c) x.refRow x.toRow).2.1 }) k3 h4
    have e2 : areaR (areaNd { refOf x with row := (spanS (shiftOf c) x.refRow x.toRow).1 } { toOf x with row := (spanS (shiftOf c) x.refRow x.toRow).2.1 }) (backC c) = (refOf x, toOf x, true) := by
      unfold areaR; rw [hd', hc', hsh]
      rw [show refOf (areaNd { refOf x with row := (spanS (shiftOf c) x.refRow x.toRow).1 } { toOf x with row := (spanS (shiftOf c) x.refRow x.toRow).2.1 }) = { refOf x with row := (spanS (shiftOf c) x.refRow x.toRow).1 } from rfl, show toOf (areaNd { refOf x with row := (spanS (shiftOf c) x.refRow x.toRow).1 } { toOf x with row := (spanS (shiftOf c) x.refRow x.toRow).2.1 }) = { toOf x with row := (spanS (shiftOf c) x.refRow x.toRow).2.1 } from rfl, d1, d2]
      simp only [if_true, Bool.false_eq_true, if_false]
      rw [k2]
      rfl
    unfold areaN; rw [e2]; rfl

theorem ofP_eq {a b : RefC} {p : PlaceC} {c d : ChangeC} (h1 : a.book = b.book) (h2 : a.sheet = b.sheet) (h3 : d.book = c.book) (h4 : d.sheet = c.sheet) : ofP a p d = ofP b p c := by
  unfold ofP atP
  rw [h1, h2, h3, h4]

theorem bare_kind {x y : NdC} (h : y.bare = x.bare) : y.kind = x.kind ∧ refOf y = refOf x := by
  have h1 := congrArg NdC.kind h
  have h2 := congrArg refOf h
  exact ⟨h1, h2⟩

mutual
/-- There and back again. -/
theorem back_rw {p : PlaceC} {c : ChangeC} (hd : c.drop = false) (hg : goodS (shiftOf c) = true) (hn : 1 ≤ c.shiftN) : ∀ {N M K : Nd}, BackT c N → RwOf p c N M → RwOf p (backC c) M K → sameT K N = true
  | .mk x l, .mk y m, .mk z k, hB, h, h' => by
    unfold BackT at hB
    obtain ⟨hx, hl, hBs⟩ := hB
    unfold RwOf at h h'
    by_cases c2 : x.kind = 2 ∧ ofP (refOf x) p c = true
    · rw [if_pos c2] at h
      obtain ⟨rfl, rfl⟩ := h
      obtain ⟨r, e1, b1, b2, e2⟩ := cellN_back hd hg hn hx c2.1
      have ho : ofP (refOf (refNd r)) p (backC c) = true := by rw [← c2.2]; exact ofP_eq b1 b2 rfl rfl
      rw [e1, if_pos ⟨rfl, ho⟩, e2] at h'
      obtain ⟨rfl, rfl⟩ := h'
      obtain ⟨s1, ⟨s2, s3, s4⟩, ⟨t1, t2, t3, t4, t5, t6⟩, _⟩ := hx.ref c2.1
      rw [hl (.inl c2.1)]
      unfold sameT sameTs headEq eqV eqR eqT
      simp [refNd, refOf, c2.1, s1, s2, s3, s4, t1, t2, t3, t4, t5, t6]
    · rw [if_neg c2] at h
      by_cases c3 : x.kind = 3 ∧ ofP (refOf x) p c = true
      · rw [if_pos c3] at h
        obtain ⟨rfl, rfl⟩ := h
        obtain ⟨r, t, e1, b1, b2, e2⟩ := areaN_back hd hg hn hx c3.1
        have ho : ofP (refOf (areaNd r t)) p (backC c) = true := by rw [← c3.2]; exact ofP_eq b1 b2 rfl rfl
        rw [e1, if_neg (fun h => by have := h.1; simp [areaNd] at this), if_pos ⟨rfl, ho⟩, e2] at h'
        obtain ⟨rfl, rfl⟩ := h'
        obtain ⟨s1, ⟨s2, s3, s4⟩, _⟩ := hx.area c3.1
        rw [hl (.inr c3.1)]
        unfold sameT sameTs headEq eqV eqR eqT
        simp [areaNd, refOf, toOf, c3.1, s1, s2, s3, s4]
      · rw [if_neg c3] at h
        obtain ⟨hy, hm⟩ := h
        obtain ⟨k1, k2⟩ := bare_kind hy
        have ho : ofP (refOf y) p (backC c) = ofP (refOf x) p c := by rw [k2]; exact ofP_eq rfl rfl rfl rfl
        rw [k1, ho, if_neg c2, if_neg c3] at h'
        obtain ⟨hz, hk⟩ := h'
        unfold sameT
        rw [headEq_bare (hz.trans hy), backs_rw hd hg hn hBs hm hk]
        rfl
theorem backs_rw {p : PlaceC} {c : ChangeC} (hd : c.drop = false) (hg : goodS (shiftOf c) = true) (hn : 1 ≤ c.shiftN) : ∀ {l m k : List Nd}, BackTs c l → RwsOf p c l m → RwsOf p (backC c) m k → sameTs k l = true
  | [], [], [], _, _, _ => by unfold sameTs; rfl
  | n :: l, m :: ms, k :: ks, hB, h, h' => by
    unfold BackTs at hB
    unfold RwsOf at h h'
    unfold sameTs
    rw [back_rw hd hg hn hB.1 h.1 h'.1, backs_rw hd hg hn hB.2 h.2 h'.2]
    rfl
  | [], _ :: _, _, _, h, _ => by unfold RwsOf at h; exact h.elim
  | _ :: _, [], _, _, h, _ => by unfold RwsOf at h; exact h.elim
  | [], [], _ :: _, _, _, h => by unfold RwsOf at h; exact h.elim
  | _ :: _, _ :: _, [], _, _, h => by unfold RwsOf at h; exact h.elim
end
end Go.Proofs.YtjihhflffkoffaaGreatDoor.Z
