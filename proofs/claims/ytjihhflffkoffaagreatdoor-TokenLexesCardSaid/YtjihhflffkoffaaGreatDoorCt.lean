/- Contracts of functions of the program; no condition. -/
import Derived.Test.YtjihhflffkoffaaGreatDoorC1
import Derived.Test.YtjihhflffkoffaaGreatDoorLe
set_option linter.unusedSimpArgs false
set_option linter.unusedVariables false
set_option linter.unusedSectionVars false
set_option linter.unnecessarySimpa false
namespace Go.Proofs.YtjihhflffkoffaaGreatDoor.Z
open Go Go.Lm
set_option maxRecDepth 100000

/-- A formula's tree, with where its arguments lie. -/
inductive Nd where
  | mk (x : NdC) (args : List Nd)

def Nd.root : Nd → NdC
  | .mk x _ => x

mutual
/-- A tree that is read. -/
def NdAt (H : LHeap) : Nd → Prop
  | .mk x args => args.length = x.argsL ∧ x.argsL ≤ maxLen ∧ NdsAt H args x.argsA 0
def NdsAt (H : LHeap) : List Nd → Option LAddr → Nat → Prop
  | [], _, _ => True
  | n :: l, a, i => (a.isSome = true ∧ (adr a).id < H.next ∧ loadT cfg.P H 72 ⟨(adr a).id, (adr a).ver, (adr a).off + i * 18⟩ = some n.root.lv) ∧ NdAt H n ∧ NdsAt H l a (i + 1)
end

mutual
theorem NdAt.on {H H' : LHeap} (p : PresX [] H H') : ∀ {n : Nd}, NdAt H n → NdAt H' n
  | .mk x args, h => by
    unfold NdAt at h ⊢
    exact ⟨h.1, h.2.1, NdsAt.on p h.2.2⟩
theorem NdsAt.on {H H' : LHeap} (p : PresX [] H H') : ∀ {l : List Nd} {a : Option LAddr} {i : Nat}, NdsAt H l a i → NdsAt H' l a i
  | [], _, _, _ => by unfold NdsAt; trivial
  | n :: l, a, i, h => by
    unfold NdsAt at h ⊢
    obtain ⟨⟨h1, h2, h3⟩, h4, h5⟩ := h
    exact ⟨⟨h1, Nat.lt_of_lt_of_le h2 p.next, p.load0 (a := ⟨(adr a).id, (adr a).ver, (adr a).off + i * 18⟩) h2 h3⟩, NdAt.on p h4, NdsAt.on p h5⟩
end

/-- The rest of a list that is read. -/
theorem NdsAt.len {H : LHeap} : ∀ {l m : List Nd} {a : Option LAddr} {i : Nat}, NdsAt H (l ++ m) a i → NdsAt H m a (i + l.length)
  | [], m, a, i, h => h
  | n :: l, m, a, i, h => by
    rw [List.cons_append] at h
    unfold NdsAt at h
    have := NdsAt.len h.2.2
    rw [List.length_cons]
    rwa [show i + (l.length + 1) = i + 1 + l.length by omega]

mutual
def leftT : Nd → Int → Int
  | .mk _ l, b => leftTs l (b - 1)
def leftTs : List Nd → Int → Int
  | [], b => b
  | n :: l, b => if b ≤ 0 then 0 else leftTs l (leftT n b)
end

mutual
theorem leftT_range : ∀ (n : Nd) (b : Int), 1 ≤ b → 0 ≤ leftT n b ∧ leftT n b ≤ b - 1
  | .mk x l, b, h => by
    unfold leftT
    have := leftTs_range l (b - 1) (by omega)
    omega
theorem leftTs_range : ∀ (l : List Nd) (b : Int), 0 ≤ b → 0 ≤ leftTs l b ∧ leftTs l b ≤ b
  | [], b, h => by unfold leftTs; omega
  | n :: l, b, h => by
    unfold leftTs
    split
    · omega
    · have h1 := leftT_range n b (by omega)
      have h2 := leftTs_range l (leftT n b) h1.1
      omega
end

theorem toNat_mul (i : Nat) (k : Nat) : ((i : Int)).toNat * k = i * k := by simp

mutual
theorem s105 : ∀ (n : Nd) (b : Int) (H : LHeap), 1 ≤ b → b ≤ 1000 → NdAt H n → CallL cfg 105 [n.root.lv, .int .i64 b] H (Ret (.int .i64 (leftT n b)) H)
  | .mk x l, b, H, h1, h2, hN => by
    unfold NdAt at hN
    refine e105 _ x b H fun i H1 d => ?_
    rw [lwrap_small (by omega) (by omega)]
    unfold leftT
    have := loop105 l x.argsA x.argsQ x.argsL H hN.2.1 0 (by omega) hN.2.2 (b - 1) (by omega) (by omega) (leftTs l (b - 1)) rfl d H1
    simpa using this
theorem loop105 : ∀ (l : List Nd) (a : Option LAddr) (q : Cap) (k : Nat) (H0 : LHeap), k ≤ maxLen → ∀ (i : Nat), i + l.length = k → NdsAt H0 l a i → ∀ (b : Int), 0 ≤ b → b ≤ 1000 → ∀ (r : Int), leftTs l b = r → ∀ (d : Nat → LV) (H : LHeap),
    GoesT cfg 105 (Ret (.int .i64 r) H0) [] H0 [] (L105_0 d (i : Int) b a k q (k : Int)) (loopAt cfg 105 0) H
  | [], a, q, k, H0, hk, i, hi, hN, b, hb, hb', r, hr, d, H => by
    intro hin hI
    refine g105_0 _ H0 d i b a k q k H ⟨fun h => ?_, fun h hI => ?_⟩ hin hI
    · simp at h hi; omega
    · unfold leftTs at hr
      rw [hr]
      exact .mk hI.pres
  | n :: l, a, q, k, H0, hk, i, hi, hN, b, hb, hb', r, hr, d, H => by
    intro hin hI
    rw [List.length_cons] at hi
    unfold NdsAt at hN
    obtain ⟨⟨n1, n2, n3⟩, n4, n5⟩ := hN
    unfold maxLen at hk
    unfold leftTs at hr
    refine g105_0 _ H0 d i b a k q k H ⟨fun h => ⟨⟨by omega, by omega, n1⟩, fun hI => ⟨n.root, by rw [toNat_mul]; exact hI.pres.load0 (a := ⟨(adr a).id, (adr a).ver, (adr a).off + i * 18⟩) n2 n3, fun j H1 H2 => ⟨fun hc hI => ?z, fun hc hI => ⟨_, s105 n b H2 (by simp at hc; omega) hb' (n4.on hI.pres), Ret.use ⟨_, rfl⟩, fun m H3 ⟨e, p⟩ d1 => ?s⟩⟩⟩⟩, fun h => ?ge⟩ hin hI
    case ge => simp at h; omega
    case z =>
      have : b ≤ 0 := by simpa using hc
      rw [if_pos this] at hr
      rw [← hr]
      exact .mk hI.pres
    case s =>
      cases e
      have hc' : ¬ b ≤ 0 := by simpa using hc
      rw [if_neg hc'] at hr
      have hrg := leftT_range n b (by omega)
      rw [lwrap_small (by omega) (by omega)]
      exact loop105 l a q k H0 (by unfold maxLen; omega) (i + 1) (by omega) n5 (leftT n b) hrg.1 (by omega) r hr d1 H3
end

theorem s42 (n : Nd) (H : LHeap) (b : Int) (h1 : 1 ≤ b) (h2 : b ≤ 1000) (hN : NdAt H n) : CallL cfg 42 [n.root.lv, .int .i64 b] H (Ret (.bool (decide (leftT n b ≤ 0))) H) := by
  refine e42 _ n.root b H fun i H1 hI => ⟨_, s105 n b H1 h1 h2 (hN.on hI.pres), Ret.use ⟨_, rfl⟩, fun m H2 ⟨e, p⟩ hI => ?_⟩
  cases e
  exact .mk hI.pres
end Go.Proofs.YtjihhflffkoffaaGreatDoor.Z
