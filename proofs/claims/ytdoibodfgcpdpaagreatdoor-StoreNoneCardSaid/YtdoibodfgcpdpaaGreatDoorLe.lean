/- What is no more reached may be forgotten; contracts of functions by reckoning along hints; no condition. -/
import Derived.Test.YtdoibodfgcpdpaaGreatDoorLd
import GoSem.ClaimWide
set_option linter.unusedSimpArgs false
set_option linter.unusedVariables false
set_option linter.unusedSectionVars false
set_option linter.unnecessarySimpa false
/- What a program must be for this machine: by reckoning. -/
namespace Go.Lm
open Go.RowKit (Below)

def cfgAt (C : Cfg) (f : FuncId) (fn : Func) : Bool :=
  !(fn.name == "runtime.NumGoroutine") && (match C.orc f, C.ext f with
    | none, none => !fn.body.isNone
    | _, _ => true)

def cfgAll (C : Cfg) : List Func → Nat → Bool
  | [], _ => true
  | fn :: l, f => match cfgAt C f fn with
    | true => cfgAll C l (f + 1)
    | false => false

theorem cfgAll_spec {C : Cfg} : ∀ {l : List Func} {k : Nat}, cfgAll C l k = true → ∀ (i : Nat) (fn : Func), l[i]? = some fn → cfgAt C (k + i) fn = true
  | [], _, _, i, fn, h => by simp at h
  | g :: l, k, hc, i, fn, h => by
    unfold cfgAll at hc
    split at hc
    · rename_i hg
      cases i with
      | zero => simp at h; subst h; exact hg
      | succ i =>
        have := cfgAll_spec hc i fn (by simpa using h)
        rw [show k + (i + 1) = k + 1 + i by omega]
        exact this
    · cases hc

theorem cfg_ok {C : Cfg} {n0 : Nat} {Kw : World → Prop} (hk : ∀ W X : World, Kw W → Below n0 W X → Kw X) (h : cfgAll C C.P.funcs.toList 0 = true)
    (hext : ∀ (f : FuncId) (e : Ext), C.orc f = none → C.ext f = some e → e ≠ .sub64 → ∃ (fn : Func) (g : Array Value → Sem Value), C.P.funcs[f]? = some fn ∧ fn.body.isNone = true ∧ Extern.findNext fn = none ∧ Extern.find fn = some g ∧ ExtSem e g)
    (horc : ∀ (f : FuncId) (o : List LV → Option LV), C.orc f = some o → (∃ fn : Func, C.P.funcs[f]? = some fn ∧ fn.body.isNone = false) ∧ ∀ (ι : Gh) (H : LHeap) (W : World) (x : List LV) (a : Array Value) (r : LV), HRel ι H W n0 → Kw W → VRels ι x a.toList → o x = some r →
      Calls C.P f a W fun e X => ∃ v, e = .returned v ∧ VRel ι r v ∧ Go.RowKit.Below W.heap.size W X) : CfgOK C n0 Kw where
  keep := hk
  name := fun f fn hf => by
    have := cfgAll_spec h f fn (by simpa using hf)
    rw [Nat.zero_add] at this
    simp only [cfgAt, Bool.and_eq_true, Bool.not_eq_true'] at this
    exact this.1
  body := fun f fn ho he hf => by
    have := cfgAll_spec h f fn (by simpa using hf)
    rw [Nat.zero_add] at this
    simp only [cfgAt, ho, he, Bool.and_eq_true, Bool.not_eq_true'] at this
    exact this.2
  ext := hext
  orc := horc

/-- Nothing of the world is known. -/
def noGh : Gh := fun _ _ => none

theorem noGh_heap (H : LHeap) {W : World} {n0 : Nat} (h : n0 ≤ W.heap.size) : HRel noGh H W n0 :=
  ⟨(by intro _ _ _ h; cases h), (by intro _ _ _ _ _ _ h; cases h), (by intro _ _ _ h; cases h), h⟩

theorem noGlob {C : Cfg} (h : C.glob = fun _ => .lost) (ι : Gh) : GlobOK C ι := fun g => by rw [h]; exact .lost _

theorem Ends.mono {C : Cfg} {p q : LState → Prop} (hpq : ∀ s, p s → q s) {s : LState} (h : Ends C p s) : Ends C q s := by
  induction h with
  | done h => exact .done (hpq _ h)
  | step hs _ ih => exact .step hs ih

/-- A call without arguments that looks at nothing of the world hands back true. -/
def startL (C : Cfg) (f : FuncId) : Option LState := match enterF C f [] false with
  | some fr => some ⟨fr, [], ⟨0, .leaf⟩⟩
  | none => none

def isTrueL : Option LV → Bool
  | some (.bool b) => b
  | _ => false

theorem calls_true {C : Cfg} {n0 : Nat} {Kw : World → Prop} (hC : CfgOK C n0 Kw) (hmix : C.P.follows .mixedOrders = true) (hg : C.glob = fun _ => .lost) {f : FuncId} {s : LState} (hs : startL C f = some s) (h : Ends C (fun s => isTrueL (finalL C f s) = true) s) (W : World) (hKw : Kw W) (hn : n0 ≤ W.heap.size) :
    Calls C.P f #[] W fun e X => e = .returned (.bool true) ∧ Below n0 W X := by
  unfold startL at hs
  split at hs
  · rename_i fr he
    cases hs
    have hends : Ends C (fun s => ∃ v, finalL C f s = some v ∧ v = .bool true) ⟨fr, [], ⟨0, .leaf⟩⟩ := by
      refine Ends.mono (fun s hs => ?_) h
      unfold isTrueL at hs
      split at hs
      · rename_i b hb; subst hs; exact ⟨_, hb, rfl⟩
      · cases hs
    refine (calls_of_ends hC hmix (noGh_heap ⟨0, .leaf⟩ hn) hKw (noGlob hg noGh) (x := []) (a := #[]) .nil he hends).mono fun e X hq => ?_
    obtain ⟨v, u, κ, K, rfl, rfl, hv, _, hb⟩ := hq
    cases hv
    exact ⟨rfl, hb⟩
  · cases hs

end Go.Lm

/- The functions without a body, by a table. -/
namespace Go.Lm

def lookE : List (Nat × Nat × Ext) → Nat → Option Ext
  | [], _ => none
  | (a, b, e) :: l, f => if Nat.ble a f && Nat.ble f b then some e else lookE l f

theorem lookE_mem : ∀ {l : List (Nat × Nat × Ext)} {f : Nat} {e : Ext}, lookE l f = some e → ∃ a b, (a, b, e) ∈ l ∧ a ≤ f ∧ f ≤ b
  | [], _, _, h => by simp [lookE] at h
  | (a, b, x) :: l, f, e, h => by
    unfold lookE at h
    split at h
    · rename_i hc
      simp only [Bool.and_eq_true, Nat.ble_eq] at hc
      cases h
      exact ⟨a, b, List.mem_cons_self, hc.1, hc.2⟩
    · obtain ⟨a', b', h1, h2⟩ := lookE_mem h
      exact ⟨a', b', List.mem_cons_of_mem _ h1, h2⟩

def ExtFact (P : Program) (f : FuncId) (e : Ext) : Prop :=
  ∃ (fn : Func) (g : Array Value → Sem Value), P.funcs[f]? = some fn ∧ fn.body.isNone = true ∧ Extern.findNext fn = none ∧ Extern.find fn = some g ∧ ExtSem e g

def TabOK (P : Program) : List (Nat × Nat × Ext) → Prop
  | [] => True
  | (a, b, e) :: l => (e = .sub64 ∨ (a = b ∧ ExtFact P a e)) ∧ TabOK P l

theorem TabOK.mem {P : Program} : ∀ {l : List (Nat × Nat × Ext)}, TabOK P l → ∀ {a b : Nat} {e : Ext}, (a, b, e) ∈ l → e = .sub64 ∨ (a = b ∧ ExtFact P a e)
  | (a', b', e') :: l, h, a, b, e, hm => by
    rcases List.mem_cons.1 hm with hm | hm
    · cases hm; exact h.1
    · exact TabOK.mem h.2 hm

theorem tab_ext {P : Program} {l : List (Nat × Nat × Ext)} (h : TabOK P l) {f : FuncId} {e : Ext} (he : lookE l f = some e) (hne : e ≠ .sub64) : ExtFact P f e := by
  obtain ⟨a, b, hm, h1, h2⟩ := lookE_mem he
  rcases h.mem hm with h | ⟨rfl, h⟩
  · exact absurd h hne
  · have : f = a := Nat.le_antisymm h2 h1
    rw [this]; exact h

end Go.Lm

/- What is no more reached is forgotten: a run of this machine may drop it, and goes on beside the model. -/
namespace Go.Lm
open Go.RowKit (Below)

mutual
/-- Every object that a value names is kept. -/
def LV.inK (k : Nat → Bool) : LV → Bool
  | .ptr (some a) => k a.id
  | .slice (some a) _ _ => k a.id
  | .map (some i) => k i
  | .func (.yield i) x c => k i && (insK k x && insK k c)
  | .func (.func _) x c => insK k x && insK k c
  | .iface _ v => v.inK k
  | .agg l => insK k l
  | .tuple l => insK k l
  | _ => true
def insK (k : Nat → Bool) : List LV → Bool
  | [] => true
  | v :: l => v.inK k && insK k l
end

def Gh.cut (ι : Gh) (k : Nat → Bool) : Gh := fun i u => if k i = true then ι i u else none

theorem Gh.cut_le (ι : Gh) (k : Nat → Bool) : (ι.cut k).le ι := fun i u l h => by
  unfold Gh.cut at h
  split at h
  · exact h
  · cases h
theorem Gh.cut_of {ι : Gh} {k : Nat → Bool} {i u : Nat} {l : Loc} (hk : k i = true) (h : ι i u = some l) : ι.cut k i u = some l := by
  unfold Gh.cut; rw [if_pos hk]; exact h
theorem Gh.cut_eq {ι : Gh} {k : Nat → Bool} {i : Nat} (hk : k i = true) (u : Nat) : ι.cut k i u = ι i u := by
  unfold Gh.cut; rw [if_pos hk]
theorem Gh.cut_some {ι : Gh} {k : Nat → Bool} {i u : Nat} {l : Loc} (h : ι.cut k i u = some l) : k i = true ∧ ι i u = some l := by
  unfold Gh.cut at h
  split at h
  · rename_i hk; exact ⟨hk, h⟩
  · cases h

mutual
theorem VRel.cut {ι : Gh} {k : Nat → Bool} : ∀ {x : LV} {v : Value}, VRel ι x v → x.inK k = true → VRel (ι.cut k) x v
  | _, _, .junk e, _ => .junk e
  | _, _, .lost v, _ => .lost v
  | _, _, .bool b, _ => .bool b
  | _, _, .int k n, _ => .int k n
  | _, _, .str s e, _ => .str s e
  | _, _, .nilptr, _ => .nilptr
  | _, _, .ptr e, h => .ptr (by
      obtain ⟨l, h1, h2⟩ := e
      exact ⟨l, Gh.cut_of (by simpa [LV.inK] using h) h1, h2⟩)
  | _, _, .nilslice, _ => .nilslice
  | _, _, .slice e hd hn, h => .slice (fun hc => by
      obtain ⟨l, h1, h2⟩ := e hc
      exact ⟨l, Gh.cut_of (by simpa [LV.inK] using h) h1, h2⟩) (hd.imp fun _ x => Gh.cut_of (by simpa [LV.inK] using h) x) hn
  | _, _, .free e, h => .free (by
      obtain ⟨l, h1, h2⟩ := e
      exact ⟨l, Gh.cut_of (by simpa [LV.inK] using h) h1, h2⟩)
  | _, _, .nilmap, _ => .nilmap
  | _, _, .map e, h => .map (Gh.cut_of (by simpa [LV.inK] using h) e)
  | _, _, .func e hx hc, h => by
      cases e with
      | func f =>
        simp only [LV.inK, Bool.and_eq_true] at h
        exact .func (.func f) (VRels.cut hx h.1) (VRels.cut hc h.2)
      | yield e =>
        simp only [LV.inK, Bool.and_eq_true] at h
        exact .func (.yield (Gh.cut_of h.1 e)) (VRels.cut hx h.2.1) (VRels.cut hc h.2.2)
  | _, _, .nilFunc, _ => .nilFunc
  | _, _, .iface t e, h => by
      simp only [LV.inK] at h
      exact .iface t (VRel.cut e h)
  | _, _, .nilIface, _ => .nilIface
  | _, _, .agg e, h => by
      simp only [LV.inK] at h
      exact .agg (VRels.cut e h)
  | _, _, .tuple e, h => by
      simp only [LV.inK] at h
      exact .tuple (VRels.cut e h)
theorem VRels.cut {ι : Gh} {k : Nat → Bool} : ∀ {x : List LV} {v : List Value}, VRels ι x v → insK k x = true → VRels (ι.cut k) x v
  | _, _, .nil, _ => .nil
  | _, _, .cons e t, h => by
      simp only [insK, Bool.and_eq_true] at h
      exact .cons (VRel.cut e h.1) (VRels.cut t h.2)
end

theorem insK_mem {k : Nat → Bool} : ∀ {l : List LV}, insK k l = true → ∀ v ∈ l, v.inK k = true
  | [], _, v, h => by cases h
  | a :: l, h, v, hv => by
    simp only [insK, Bool.and_eq_true] at h
    rcases List.mem_cons.1 hv with rfl | hv
    · exact h.1
    · exact insK_mem h.2 v hv

def LTarget.inK (k : Nat → Bool) : LTarget → Bool
  | .fn (.func _) c => insK k c
  | .fn (.yield i) c => k i && insK k c
  | .fn _ _ => false
  | .collected i => k i

def LDef.inK (k : Nat → Bool) (d : LDef) : Bool := d.target.inK k && insK k d.args
def defsK (k : Nat → Bool) : List LDef → Bool
  | [] => true
  | d :: l => d.inK k && defsK k l
def entsK (k : Nat → Bool) : List LEntry → Bool
  | [] => true
  | e :: l => e.key.inK k && (e.val.inK k && entsK k l)

def LObj.inK (k : Nat → Bool) : LObj → Bool
  | .cells cs _ _ _ _ _ _ => insK k cs
  | .map es _ => entsK k es
  | .stringIter _ _ => true
  | .mapIter none _ _ _ => true
  | .mapIter (some i) _ _ _ => k i
  | .loop l => insK k l.tmps && k l.defers
  | .deferred none => true
  | .deferred (some ds) => defsK k ds

theorem DefRel.cut {ι : Gh} {k : Nat → Bool} {d : LDef} {e : Deferred} (h : d.inK k = true) (r : DefRel ι d e) : DefRel (ι.cut k) d e := by
  simp only [LDef.inK, Bool.and_eq_true] at h
  refine ⟨?_, r.args.cut h.2⟩
  have h1 := h.1
  have r1 := r.target
  generalize d.target = t at h1 r1 ⊢
  generalize e.target = u at r1 ⊢
  cases r1 with
  | fn hf hc =>
    cases hf with
    | func f => exact .fn (.func f) (hc.cut (by simpa [LTarget.inK] using h1))
    | yield e =>
      simp only [LTarget.inK, Bool.and_eq_true] at h1
      exact .fn (.yield (Gh.cut_of h1.1 e)) (hc.cut h1.2)
  | collected e => exact .collected (Gh.cut_of (by simpa [LTarget.inK] using h1) e)

theorem defs_cut {ι : Gh} {k : Nat → Bool} : ∀ {l : List LDef} {m : List Deferred}, defsK k l = true → Rels (DefRel ι) l m → Rels (DefRel (ι.cut k)) l m
  | _, _, _, .nil => .nil
  | _, _, h, .cons e t => by
    simp only [defsK, Bool.and_eq_true] at h
    exact .cons (e.cut h.1) (defs_cut h.2 t)
theorem ents_cut {ι : Gh} {k : Nat → Bool} : ∀ {l : List LEntry} {m : List MapEntry}, entsK k l = true → Rels (ERel ι) l m → Rels (ERel (ι.cut k)) l m
  | _, _, _, .nil => .nil
  | _, _, h, .cons e t => by
    simp only [entsK, Bool.and_eq_true] at h
    exact .cons ⟨e.key.cut h.1, e.val.cut h.2.1, e.born⟩ (ents_cut h.2.2 t)

theorem PlainRel.cut {ι : Gh} {k : Nat → Bool} {a : LObj} {b : Obj} (hk : a.inK k = true) (r : PlainRel ι a b) : PlainRel (ι.cut k) a b := by
  cases r with
  | map c e => exact .map c (ents_cut (by simpa [LObj.inK] using hk) e)
  | stringIter s p e => exact .stringIter s p e
  | mapIterNone a b c => exact .mapIterNone a b c
  | mapIter e a b c => exact .mapIter (Gh.cut_of (by simpa [LObj.inK] using hk) e) a b c
  | loop e =>
    simp only [LObj.inK, Bool.and_eq_true] at hk
    exact .loop ⟨e.state, e.pending, e.fn, e.tmps.cut hk.1, e.params, e.assign, e.body, e.defers.imp fun _ x => ⟨Gh.cut_of hk.2 x.1, x.2⟩⟩
  | deferredNone => exact .deferredNone
  | deferred e => exact .deferred (defs_cut (by simpa [LObj.inK] using hk) e)

theorem ORel.cut {ι : Gh} {k : Nat → Bool} {W : World} {i : Nat} {o : LObj} (hi : k i = true) (hk : o.inK k = true) (r : ORel ι W i o) : ORel (ι.cut k) W i o := by
  cases o with
  | cells cs e ver minv fz ro wh =>
    obtain ⟨h1, h2, h3, h4, h5, h6, h7⟩ := r
    have he := Gh.cut_eq (ι := ι) hi
    refine ⟨h1, h2, h3, h4.imp fun l x => (he _).trans x, fun hw => ⟨(h5 hw).1, fun l hl => (h5 hw).2 l ((he _).symm.trans hl)⟩, fun u l hu => ?_,
      fun u u' l l' hu hu' => h7 u u' l l' ((he u).symm.trans hu) ((he u').symm.trans hu')⟩
    have hu' : ι i u = some l := (he u).symm.trans hu
    refine ⟨(h6 u l hu').1, fun hm => ?_⟩
    obtain ⟨c, fr, hc⟩ := (h6 u l hu').2 hm
    have hin : insK k cs = true := by simpa [LObj.inK] using hk
    exact ⟨c, fr, hc.here, hc.tot, hc.fits, hc.fz, fun j x hx hj h0 => (hc.cell j x hx hj h0).imp fun v hv => ⟨hv.1, hv.2.cut (insK_mem hin x (List.mem_of_getElem? hx))⟩⟩
  | _ =>
    obtain ⟨l, b, h1, h2, h3, h4, h5⟩ := r
    exact ⟨l, b, Gh.cut_of hi h1, h2, fun u hu => by rw [Gh.cut_eq hi]; exact h3 u hu, h4, h5.cut hk⟩

theorem HRel.cut {ι : Gh} {H K : LHeap} {W : World} {n0 : Nat} {k : Nat → Bool} (h : HRel ι H W n0) (hn : K.next = H.next) (hk : ∀ i, k i = true → K.get i = H.get i)
    (hin : ∀ i o, k i = true → K.get i = some o → o.inK k = true) : HRel (ι.cut k) K W n0 := by
  have hro : ∀ i, k i = true → (isRo K i ↔ isRo H i) := fun i hi => by unfold isRo; rw [hk i hi]
  refine ⟨fun i u l hu => ?_, fun i u l j v m hu hv hb hne => ?_, fun i u l hu => ?_, h.size⟩
  · obtain ⟨hi, hu⟩ := Gh.cut_some hu
    obtain ⟨h1, h2, o, h3, h4⟩ := h.dom i u l hu
    exact ⟨by rw [hn]; exact h1, h2, o, (hk i hi).trans h3, h4.cut hi (hin i o hi ((hk i hi).trans h3))⟩
  · obtain ⟨hi, hu⟩ := Gh.cut_some hu
    obtain ⟨hj, hv⟩ := Gh.cut_some hv
    rw [hro i hi, hro j hj]
    exact h.sep i u l j v m hu hv hb hne
  · obtain ⟨hi, hu⟩ := Gh.cut_some hu
    rw [hro i hi]
    exact h.base i u l hu

/-! Frames -/
def itemK (k : Nat → Bool) : LItem → Bool
  | .inRangeFunc l => k l
  | .endRangeFunc l => k l
  | .drawn .. => false
  | _ => true
def itemsK (k : Nat → Bool) : List LItem → Bool
  | [] => true
  | i :: l => itemK k i && itemsK k l

/-- No operation that makes an object is done. -/
def noA (ops : Array Oper) : List Nat → Bool
  | [] => true
  | i :: l => (match ops[i]? with
    | some o => !(isA o.op)
    | none => true) && noA ops l

def todoK (k : Nat → Bool) (top : Bool) : List LItem → Bool
  | .drawn ops _ tm0 done _ _ :: l => !top && (insK k tm0 && (noA ops done && itemsK k l))
  | l => itemsK k l

def isRun : LMode → Bool
  | .run => true
  | _ => false

def frameK (k : Nat → Bool) (top : Bool) (f : LFrame) : Bool :=
  isRun f.mode && (insK k f.tmps && (todoK k top f.todo && (defsK k f.defers && (match f.roundOf with
    | none => true
    | some l => k l))))

def framesK (k : Nat → Bool) : List LFrame → Bool
  | [] => true
  | f :: l => frameK k false f && framesK k l

theorem item_cut {ι : Gh} {k : Nat → Bool} {a : LItem} {b : Item} (h : itemK k a = true) (r : ItemRel ι a b) : ItemRel (ι.cut k) a b := by
  cases r with
  | code c => exact .code c
  | inBlock i => exact .inBlock i
  | inLoop c => exact .inLoop c
  | inScope c => exact .inScope c
  | inRegion o l => exact .inRegion o l
  | inRangeFunc e => exact .inRangeFunc (Gh.cut_of h e)
  | endRangeFunc e => exact .endRangeFunc (Gh.cut_of h e)
  | beginRound => exact .beginRound

theorem items_cut {ι : Gh} {k : Nat → Bool} : ∀ {l : List LItem} {m : List Item}, itemsK k l = true → Rels (ItemRel ι) l m → Rels (ItemRel (ι.cut k)) l m
  | _, _, _, .nil => .nil
  | _, _, h, .cons e t => by
    simp only [itemsK, Bool.and_eq_true] at h
    exact .cons (item_cut h.1 e) (items_cut h.2 t)

theorem noA_mem {ops : Array Oper} : ∀ {l : List Nat}, noA ops l = true → ∀ i ∈ l, ∀ o, ops[i]? = some o → isA o.op = false
  | [], _, i, h, _, _ => by cases h
  | j :: l, h, i, hi, o, ho => by
    simp only [noA, Bool.and_eq_true] at h
    rcases List.mem_cons.1 hi with rfl | hi
    · have := h.1
      rw [ho] at this
      simpa using this
    · exact noA_mem h.2 i hi o ho

theorem vrel_at {ι : Gh} {k : Nat → Bool} {l : List LV} (h : insK k l = true) {t : Nat} {x : LV} {v : Value} (hx : l[t]? = some x) (r : VRel ι x v) : VRel (ι.cut k) x v :=
  r.cut (insK_mem h x (List.mem_of_getElem? hx))

theorem todo_cut {C : Cfg} {ι : Gh} {H K : LHeap} {us : List (Nat × Nat)} {top : Bool} {tmps : List LV} {td : List LItem} {ct : List Value} {td' : List Item} {k : Nat → Bool}
    (ht : insK k tmps = true) (hd : todoK k top td = true) (r : Todo C ι H us top tmps td ct td') : Todo C (ι.cut k) K [] top tmps td ct td' := by
  cases r with
  | plain h1 h2 =>
    refine .plain (h1.cut ht) (items_cut ?_ h2)
    cases h2 with
    | nil => rfl
    | cons e t =>
      cases e <;> exact hd
  | drawn d h2 hc hp =>
    simp only [todoK, Bool.and_eq_true] at hd
    obtain ⟨h3, h4, h5, h6⟩ := hd
    obtain rfl : top = false := by simpa using h3
    refine .drawn ?_ (items_cut h6 h2) (fun e => by cases e) hp
    exact { d with
      old := fun t x v q1 q2 q3 => vrel_at h4 q2 (d.old t x v q1 q2 q3)
      new := fun t j y v q1 q2 q3 q4 => vrel_at ht q3 (d.new t j y v q1 q2 q3 q4)
      waits := fun i q1 q2 o q3 q4 q5 => by
        rw [noA_mem h5 i q1 o q3] at q4; cases q4
      ids := List.nodup_nil }

theorem frame_cut {C : Cfg} {ι : Gh} {H K : LHeap} {us : List (Nat × Nat)} {top : Bool} {f : LFrame} {g : Frame} {k : Nat → Bool} (h : frameK k top f = true) (r : FRel C ι H us top f g) :
    FRel C (ι.cut k) K [] top f g := by
  simp only [frameK, Bool.and_eq_true] at h
  obtain ⟨h1, h2, h3, h4, h5⟩ := h
  refine ⟨r.fn, r.func, defs_cut h4 r.defers, r.kind, ?_, ?_⟩
  · have hr := r.round
    split at hr
    · exact hr
    · rename_i l hl
      rw [hl] at h5
      obtain ⟨lo, q1, q2⟩ := hr
      exact ⟨lo, Gh.cut_of h5 q1, q2⟩
  · cases r.mode with
    | run q1 q2 t => exact .run q1 q2 (todo_cut h2 h3 t)
    | returning q1 => rw [q1] at h1; cases h1
    | panicking q1 => rw [q1] at h1; cases h1

theorem stack_cut {C : Cfg} {ι : Gh} {H K : LHeap} {k : Nat → Bool} : ∀ {us : List (Nat × Nat)} {fs : List LFrame} {gs : List Frame}, framesK k fs = true → Stack C ι H us fs gs → Stack C (ι.cut k) K [] fs gs
  | _, _, _, _, .nil => .nil
  | _, _, _, h, .cons e t => by
    simp only [framesK, Bool.and_eq_true] at h
    exact .cons (us := []) (vs := []) (frame_cut h.1 e) (stack_cut h.2 t)

/-! What is forgotten of a frame's variables -/
def loseAt : List Nat → List LV → List LV
  | [], l => l
  | n :: ns, l => loseAt ns (setNth l n .lost)

theorem VRels.lose1 {ι : Gh} : ∀ {l : List LV} {m : List Value} (n : Nat), VRels ι l m → VRels ι (setNth l n .lost) m
  | _, _, _, .nil => by simp [setNth]; exact .nil
  | _, _, 0, .cons _ t => .cons (.lost _) t
  | _, _, n + 1, .cons e t => .cons e (VRels.lose1 n t)

theorem VRels.lose {ι : Gh} : ∀ (ns : List Nat) {l : List LV} {m : List Value}, VRels ι l m → VRels ι (loseAt ns l) m
  | [], _, _, h => h
  | n :: ns, _, _, h => VRels.lose ns (h.lose1 n)

def loseF (ns : List Nat) (f : LFrame) : LFrame :=
  match f.todo with
  | .drawn .. :: _ => f
  | _ => { f with tmps := loseAt ns f.tmps }

def loseFs : List (List Nat) → List LFrame → List LFrame
  | ns :: l, f :: fs => loseF ns f :: loseFs l fs
  | _, fs => fs

theorem loseF_rel {C : Cfg} {ι : Gh} {H : LHeap} {us : List (Nat × Nat)} {top : Bool} {f : LFrame} {g : Frame} (ns : List Nat) (r : FRel C ι H us top f g) : FRel C ι H us top (loseF ns f) g := by
  unfold loseF
  split
  · exact r
  · rename_i hd
    refine ⟨r.fn, r.func, r.defers, r.kind, r.round, ?_⟩
    cases r.mode with
    | run q1 q2 t =>
      refine .run q1 q2 ?_
      show Todo C ι H us top (loseAt ns f.tmps) f.todo g.tmps.toList g.todo
      generalize hft : f.todo = ft at t hd
      generalize f.tmps = tm at t
      generalize g.tmps.toList = gt at t
      generalize g.todo = gd at t
      cases t with
      | plain h1 h2 => exact .plain (h1.lose ns) h2
      | drawn d h2 hc hp => exact absurd rfl (hd _ _ _ _ _ _ _)
    | returning q1 q2 h hu => exact .returning q1 q2 (h.lose ns) hu
    | panicking q1 q2 hc h hu => exact .panicking q1 q2 hc (h.lose ns) hu

theorem loseFs_rel {C : Cfg} {ι : Gh} {H : LHeap} : ∀ {us : List (Nat × Nat)} (nss : List (List Nat)) {fs : List LFrame} {gs : List Frame}, Stack C ι H us fs gs → Stack C ι H us (loseFs nss fs) gs
  | _, [], _, _, h => by
    cases h with
    | nil => exact .nil
    | cons e t => exact .cons e t
  | _, _ :: _, _, _, .nil => .nil
  | _, ns :: l, _, _, .cons e t => .cons (loseF_rel ns e) (loseFs_rel l t)

/-! The step that forgets -/
def pickT (H : LHeap) : List Nat → Tree LObj → Tree LObj
  | [], t => t
  | i :: l, t => match H.get i with
    | some o => pickT H l (Tree.set (i + 1) t i o)
    | none => pickT H l t

theorem pickT_get {H : LHeap} : ∀ {l : List Nat} {t : Tree LObj} {i : Nat} {o : LObj}, (pickT H l t).get i = some o → t.get i = some o ∨ (i ∈ l ∧ H.get i = some o)
  | [], t, i, o, h => .inl h
  | j :: l, t, i, o, h => by
    unfold pickT at h
    split at h
    · rename_i o' ho
      rcases pickT_get h with h | h
      · rw [Tree.get_set _ _ _ _ _ (by omega)] at h
        split at h
        · rename_i e
          cases h
          subst e
          exact .inr ⟨List.mem_cons_self, ho⟩
        · exact .inl h
      · exact .inr ⟨List.mem_cons_of_mem _ h.1, h.2⟩
    · rcases pickT_get h with h | h
      · exact .inl h
      · exact .inr ⟨List.mem_cons_of_mem _ h.1, h.2⟩

def keepB (t : Tree LObj) (i : Nat) : Bool := match t.get i with
  | some _ => true
  | none => false

def objsK (t : Tree LObj) : List Nat → Bool
  | [] => true
  | i :: l => (match t.get i with
    | some o => o.inK (keepB t)
    | none => true) && objsK t l

theorem objsK_mem {t : Tree LObj} : ∀ {l : List Nat}, objsK t l = true → ∀ i ∈ l, ∀ o, t.get i = some o → o.inK (keepB t) = true
  | [], _, i, h, _, _ => by cases h
  | j :: l, h, i, hi, o, ho => by
    simp only [objsK, Bool.and_eq_true] at h
    rcases List.mem_cons.1 hi with rfl | hi
    · have := h.1
      rw [ho] at this
      exact this
    · exact objsK_mem h.2 i hi o ho

def closedS (ids : List Nat) (s : LState) : Bool :=
  objsK s.H.tree ids && (frameK (keepB s.H.tree) true s.fr && framesK (keepB s.H.tree) s.cs)

/-- Keep these objects alone, and lose these variables of the frames. -/
def fadeS (ids : List Nat) (ns : List Nat) (nss : List (List Nat)) (s : LState) : LState :=
  ⟨loseF ns s.fr, loseFs nss s.cs, ⟨s.H.next, pickT s.H ids .leaf⟩⟩

theorem fade_sim {C : Cfg} {n0 : Nat} {tail : List Frame} {ι : Gh} {s : LState} {g : Frame} {cs : List Frame} {W : World} (hg : C.glob = fun _ => .lost) {ids ns : List Nat} {nss : List (List Nat)}
    (hc : closedS ids (fadeS ids ns nss s) = true) (h : MSim C n0 tail ι s g cs W) : ∃ κ, MSim C n0 tail κ (fadeS ids ns nss s) g cs W := by
  simp only [closedS, Bool.and_eq_true] at hc
  obtain ⟨h1, h2, h3⟩ := hc
  obtain ⟨us, vs, gs, rfl, hF, hst, _, _⟩ := h.all
  refine ⟨ι.cut (keepB (fadeS ids ns nss s).H.tree), ?_, fun x => by rw [hg]; exact .lost _, [], [], gs, rfl, frame_cut h2 (loseF_rel ns hF), stack_cut h3 (loseFs_rel nss hst), List.nodup_nil, fun p hp => by cases hp⟩
  have key : ∀ i o, (fadeS ids ns nss s).H.tree.get i = some o → i ∈ ids ∧ s.H.get i = some o := fun i o ho => by
    rcases pickT_get ho with e | e
    · cases i <;> simp [Tree.get] at e
    · exact e
  have hk : ∀ i, keepB (fadeS ids ns nss s).H.tree i = true → ∃ o, (fadeS ids ns nss s).H.tree.get i = some o := fun i hi => by
    unfold keepB at hi
    split at hi
    · rename_i o ho; exact ⟨o, ho⟩
    · cases hi
  refine h.heap.cut rfl (fun i hi => ?_) (fun i o hi ho => ?_)
  · obtain ⟨o, ho⟩ := hk i hi
    exact Eq.trans ho (key i o ho).2.symm
  · exact objsK_mem h1 i (key i o ho).1 o ho

/-- All ways come to an end that is asked for; on the way something may be forgotten. -/
inductive EndsF (C : Cfg) (p : LState → Prop) : LState → Prop
  | done {s : LState} (h : p s) : EndsF C p s
  | step {s : LState} {l : List LState} (hs : lstep C s = some l) (h : ∀ s' ∈ l, EndsF C p s') : EndsF C p s
  | fade {s : LState} (ids ns : List Nat) (nss : List (List Nat)) (hc : closedS ids (fadeS ids ns nss s) = true) (h : EndsF C p (fadeS ids ns nss s)) : EndsF C p s

theorem EndsF.sim {C : Cfg} {n0 : Nat} {Kw : World → Prop} (hC : CfgOK C n0 Kw) (hmix : C.P.follows .mixedOrders = true) (hg : C.glob = fun _ => .lost) {tail : List Frame} {p : LState → Prop} {s : LState} (h : EndsF C p s) : ∀ {ι : Gh} {g : Frame} {cs : List Frame} {W : World}, Kw W → MSim C n0 tail ι s g cs W →
    ∃ s' κ g' cs' X, p s' ∧ Steps C.P (lone g cs W) (lone g' cs' X) ∧ MSim C n0 tail κ s' g' cs' X ∧ Below n0 W X := by
  induction h with
  | @done s h =>
    intro ι g cs W hKw hm
    exact ⟨s, ι, g, cs, W, h, .refl _ _, hm, .refl _ _⟩
  | step hs _ ih =>
    intro ι g cs W hKw hm
    obtain ⟨s1, hs1, κ, g1, cs1, W1, a1, a2, a3⟩ := sim_step hC hmix hKw hm hs
    obtain ⟨s2, μ, g2, cs2, W2, b1, b2, b3, b4⟩ := ih s1 hs1 (hC.keep _ _ hKw a3) a2
    exact ⟨s2, μ, g2, cs2, W2, b1, a1.trans b2, b3, a3.trans b4⟩
  | fade ids ns nss hc _ ih =>
    intro ι g cs W hKw hm
    obtain ⟨κ, hm'⟩ := fade_sim hg hc hm
    exact ih hKw hm'

theorem EndsF.of {C : Cfg} {p : LState → Prop} {s : LState} (h : Ends C p s) : EndsF C p s := by
  induction h with
  | done h => exact .done h
  | step hs _ ih => exact .step hs ih

theorem EndsF.mono {C : Cfg} {p q : LState → Prop} (hpq : ∀ s, p s → q s) {s : LState} (h : EndsF C p s) : EndsF C q s := by
  induction h with
  | done h => exact .done (hpq _ h)
  | step hs _ ih => exact .step hs ih
  | fade ids ns nss hc _ ih => exact .fade ids ns nss hc ih

theorem calls_of_endsF {C : Cfg} {n0 : Nat} {Kw : World → Prop} (hC : CfgOK C n0 Kw) (hmix : C.P.follows .mixedOrders = true) (hg : C.glob = fun _ => .lost) {ι : Gh} {H : LHeap} {W : World} (hW : HRel ι H W n0) (hKw : Kw W) {f : FuncId} {x : List LV} {a : Array Value} (hx : VRels ι x a.toList) {fr : LFrame}
    (he : enterF C f x false = some fr) {Q : LV → Prop} (h : EndsF C (fun s => ∃ v, finalL C f s = some v ∧ Q v) ⟨fr, [], H⟩) :
    Calls C.P f a W fun e X => ∃ v u κ K, Q v ∧ e = .returned u ∧ VRel κ v u ∧ HRel κ K X n0 ∧ Below n0 W X := by
  intro cs
  have hm : MSim C n0 cs ι ⟨fr, [], H⟩ (Frame.enter C.P f a .normal) cs W :=
    ⟨hW, noGlob hg ι, [], [], [], rfl, enter_rel hx he H, .nil, List.nodup_nil, fun p hp => by cases hp⟩
  obtain ⟨s', κ, g', cs', X, ⟨v, hv, hQ⟩, h1, h2, h3⟩ := h.sim hC hmix hg hKw hm
  unfold finalL at hv
  split at hv
  · cases hv
  · rename_i hcs
    split at hv
    · rename_i hmode hdef hdd hro
      split at hv
      · rename_i hf
        replace hf := Nat.eq_of_beq_eq_true hf
        split at hv
        · rename_i fn hfn
          split at hv
          · rename_i vs hvs
            cases hv
            obtain ⟨us, ws, gs, rfl, hF, hst, _, _⟩ := h2.all
            rw [hcs] at hst
            cases hst
            have ht : VRels κ s'.fr.tmps g'.tmps.toList ∧ g'.mode = .returning := by
              cases hF.mode with
              | run q1 => rw [hmode] at q1; cases q1
              | returning _ q2 q3 _ => exact ⟨q3, q2⟩
              | panicking q1 => rw [hmode] at q1; cases q1
            obtain ⟨u, w1, w2⟩ := results_rel h2.heap h2.glob ht.1 hvs
            have hd : g'.defers = [] := by
              have := hF.defers
              rw [hdef] at this
              generalize g'.defers = gd at this
              cases this
              rfl
            refine ⟨.returned u, X, g', ⟨_, u, κ, s'.H, hQ, rfl, w2, h2.heap, h3⟩, h1, by rw [hF.fn, hf], ht.2, hd, by rw [hF.kind, hdd]; rfl, fn, by rw [hF.fn]; exact hfn, w1⟩
          · cases hv
        · cases hv
      · cases hv
    · cases hv

theorem calls_trueF {C : Cfg} {n0 : Nat} {Kw : World → Prop} (hC : CfgOK C n0 Kw) (hmix : C.P.follows .mixedOrders = true) (hg : C.glob = fun _ => .lost) {f : FuncId} {s : LState} (hs : startL C f = some s) (h : EndsF C (fun s => isTrueL (finalL C f s) = true) s) (W : World) (hKw : Kw W) (hn : n0 ≤ W.heap.size) :
    Calls C.P f #[] W fun e X => e = .returned (.bool true) ∧ Below n0 W X := by
  unfold startL at hs
  split at hs
  · rename_i fr he
    cases hs
    have hends : EndsF C (fun s => ∃ v, finalL C f s = some v ∧ v = .bool true) ⟨fr, [], ⟨0, .leaf⟩⟩ := by
      refine EndsF.mono (fun s hs => ?_) h
      unfold isTrueL at hs
      split at hs
      · rename_i b hb; subst hs; exact ⟨_, hb, rfl⟩
      · cases hs
    refine (calls_of_endsF hC hmix hg (noGh_heap ⟨0, .leaf⟩ hn) hKw (x := []) (a := #[]) .nil he hends).mono fun e X hq => ?_
    obtain ⟨v, u, κ, K, rfl, rfl, hv, _, hb⟩ := hq
    cases hv
    exact ⟨rfl, hb⟩
  · cases hs

/-! Runs in parts -/
def lendF (ids ns : List Nat) (nss : List (List Nat)) (s : LState) : Option LState :=
  match closedS ids (fadeS ids ns nss s) with
  | true => some (fadeS ids ns nss s)
  | false => none

/-- n steps, then forget. -/
def lrunF (C : Cfg) (n : Nat) (ids ns : List Nat) (nss : List (List Nat)) (s : LState) : Option LState := lendF ids ns nss (lrun C n s)

/-- n steps, a fork's way j, m steps, then forget. -/
def brF (C : Cfg) (n j m : Nat) (ids ns : List Nat) (nss : List (List Nat)) (s : LState) : Option LState :=
  match lstep C (lrun C n s) with
  | some l => match nth l j with
    | some s' => lendF ids ns nss (lrun C m s')
    | none => none
  | none => none

def brN (C : Cfg) (n : Nat) (s : LState) : Option Nat :=
  match lstep C (lrun C n s) with
  | some l => some l.length
  | none => none

theorem lrun_endsF {C : Cfg} {p : LState → Prop} : ∀ (n : Nat) (s : LState), EndsF C p (lrun C n s) → EndsF C p s
  | 0, s, h => h
  | n + 1, s, h => by
    unfold lrun at h
    split at h
    · rename_i s' hs
      exact .step hs fun x hx => by
        rw [List.mem_singleton.1 hx]
        exact lrun_endsF n s' h
    · exact h

theorem lendF_ends {C : Cfg} {p : LState → Prop} {ids ns : List Nat} {nss : List (List Nat)} {s s' : LState} (h : lendF ids ns nss s = some s') (he : EndsF C p s') : EndsF C p s := by
  unfold lendF at h
  split at h
  · rename_i hc
    cases h
    exact .fade ids ns nss hc he
  · cases h

theorem lrunF_ends {C : Cfg} {p : LState → Prop} {n : Nat} {ids ns : List Nat} {nss : List (List Nat)} {s s' : LState} (h : lrunF C n ids ns nss s = some s') (he : EndsF C p s') : EndsF C p s :=
  lrun_endsF n s (lendF_ends h he)

theorem brF_ends {C : Cfg} {p : LState → Prop} {n m m' : Nat} {ids ns : List Nat} {nss : List (List Nat)} {ids' ns' : List Nat} {nss' : List (List Nat)} {s a b : LState} (hn : brN C n s = some 2)
    (ha : brF C n 0 m ids ns nss s = some a) (hb : brF C n 1 m' ids' ns' nss' s = some b) (ea : EndsF C p a) (eb : EndsF C p b) : EndsF C p s := by
  refine lrun_endsF n s ?_
  unfold brN at hn
  unfold brF at ha hb
  split at hn
  · rename_i l hl
    rw [hl] at ha hb
    simp only [Option.some.injEq] at hn
    match l, hn with
    | [x, y], _ =>
      refine .step hl fun s' hs' => ?_
      simp only [nth] at ha hb
      rcases List.mem_cons.1 hs' with rfl | hs'
      · exact lrun_endsF m _ (lendF_ends ha ea)
      · rw [List.mem_singleton.1 hs']
        exact lrun_endsF m' _ (lendF_ends hb eb)
  · cases hn

/-! Where a frame stands, by its regions -/
def treeOf : List (Nat × LObj) → Tree LObj → Tree LObj
  | [], t => t
  | (i, o) :: l, t => treeOf l (Tree.set (i + 1) t i o)
def regGo : Code → List LItem → Nat → Option (List LItem)
  | .region id ops d, k, n => if Nat.beq id n then some (.code (.region id ops d) :: k) else none
  | .seq a b, k, n => match regGo a (.code b :: k) n with
    | some x => some x
    | none => regGo b k n
  | .cond _ a b, k, n => match regGo a k n with
    | some x => some x
    | none => regGo b k n
  | .block id b, k, n => regGo b (.inBlock id :: k) n
  | .loop b, k, n => regGo b (.inLoop b :: k) n
  | .scope b, k, n => regGo b (.inScope b :: k) n
  | _, _, _ => none
def regAt (C : Cfg) (f : FuncId) (n : Nat) : List LItem :=
  match C.P.funcs[f]? with
  | some fn => match fn.body with
    | some c => (regGo c [] n).getD []
    | none => []
  | none => []
/-- Within the region. -/
def inReg (l : List Nat) : List LItem → List LItem
  | .code (.region _ ops _) :: k => .inRegion ops l :: k
  | k => k
def inDrw (tm0 : List LV) (done pend : List Nat) (st : Bool) : List LItem → List LItem
  | .code (.region _ ops _) :: k => .drawn ops (befs ops.toList []) tm0 done pend st :: k
  | k => k

end Go.Lm
/-! Short names for states that are written out -/
namespace Go.Lm.Fd
open Go Go.Lm
def I (n : Nat) : LV := .int .i64 (.ofNat n)
def J (n : Nat) : LV := .int .i64 (.negSucc n)
def S (l : List Nat) : LV := .str (l.map UInt8.ofNat)
def U : LV := .tuple []
def L : LV := .lost
def A (l : List LV) : LV := .agg l
def T (l : List LV) : LV := .tuple l
def P (i v o : Nat) : LV := .ptr (some ⟨i, v, o⟩)
def V (i v o n c : Nat) : LV := .slice (some ⟨i, v, o⟩) n (.exact c)
def O : LV := .ptr none
def E : LV := .slice none 0 (.exact 0)
def t : LV := .bool true
def f : LV := .bool false
def Y (n : Nat) : LV := .int .u8 (.ofNat n)
def K (cs : List LV) (e v m : Nat) : LObj := .cells cs e v m .none false true
def Kf (cs : List LV) (e v m : Nat) : LObj := .cells cs e v m .none false false
/-- n times. -/
def R (n : Nat) (v : LV) (l : List LV) : List LV := match n with
  | 0 => l
  | n + 1 => v :: R n v l
end Go.Lm.Fd

/- A call whose arguments are not looked into: structs of cells of which nothing is known. -/
namespace Go.Lm
open Go.RowKit (Below)

def startX (C : Cfg) (f : FuncId) (x : List LV) : Option LState := match enterF C f x false with
  | some fr => some ⟨fr, [], ⟨0, .leaf⟩⟩
  | none => none

theorem calls_trueX {C : Cfg} {n0 : Nat} {Kw : World → Prop} (hC : CfgOK C n0 Kw) (hmix : C.P.follows .mixedOrders = true) (hg : C.glob = fun _ => .lost) {f : FuncId} {x : List LV} {a : Array Value} (hx : VRels noGh x a.toList) {s : LState} (hs : startX C f x = some s) (h : EndsF C (fun s => isTrueL (finalL C f s) = true) s) (W : World) (hKw : Kw W) (hn : n0 ≤ W.heap.size) :
    Calls C.P f a W fun e X => e = .returned (.bool true) ∧ Below n0 W X := by
  unfold startX at hs
  split at hs
  · rename_i fr he
    cases hs
    have hends : EndsF C (fun s => ∃ v, finalL C f s = some v ∧ v = .bool true) ⟨fr, [], ⟨0, .leaf⟩⟩ := by
      refine EndsF.mono (fun s hs => ?_) h
      unfold isTrueL at hs
      split at hs
      · rename_i b hb; subst hs; exact ⟨_, hb, rfl⟩
      · cases hs
    refine (calls_of_endsF hC hmix hg (noGh_heap ⟨0, .leaf⟩ hn) hKw hx he hends).mono fun e X hq => ?_
    obtain ⟨v, u, κ, K, rfl, rfl, hv, _, hb⟩ := hq
    cases hv
    exact ⟨rfl, hb⟩
  · cases hs

theorem okWide_one {P : Program} {W : World} {r : Reach} {b : Nat} {t : TypeId} {v : Value} (h : Cell.okWide P W r b t v) : v.oneCell' = true := by
  cases v with
  | agg c =>
    exfalso
    unfold Cell.okWide at h
    split at h
    all_goals first | (rename_i hv; cases hv; done) | skip
    unfold Cell.ok at h
    split at h
    all_goals first | (rename_i hv; cases hv; done) | exact h
  | tuple c =>
    exfalso
    unfold Cell.okWide at h
    split at h
    all_goals first | (rename_i hv; cases hv; done) | skip
    unfold Cell.ok at h
    split at h
    all_goals first | (rename_i hv; cases hv; done) | exact h
  | _ => rfl

theorem okWide_junk {P : Program} {W : World} {r : Reach} {b : Nat} {t : TypeId} {v : Value} {n : Nat} (ha : isAggT P t = some true) (hn : P.cellsOf t = n) (h : Value.okWide P W r b t v) (ι : Gh) : VRel ι (.agg (List.replicate n .junk)) v := by
  have key : ∃ cs, v = .agg cs ∧ cs.size = P.cellsOf t ∧ Row.okWide P W r b t cs := by
    unfold Value.okWide at h
    unfold isAggT at ha
    split at h
    · exact h
    · exact h
    · rename_i h1 h2
      split at ha
      · rename_i hu; exact absurd hu (h1 _)
      · rename_i hu; exact absurd hu (h2 _ _)
      · cases ha
      · cases ha
  obtain ⟨cs, rfl, hc, ts, _, _, hr⟩ := key
  refine .agg ?_
  rw [← hn, ← hc]
  refine VRels.iff.2 ⟨by simp, fun i x w hx hw => ?_⟩
  rw [List.getElem?_replicate] at hx
  split at hx
  · cases hx
    obtain ⟨u, _, hu⟩ := hr i w (by rw [← Array.getElem?_toList]; exact hw)
    exact .junk (okWide_one hu)
  · cases hx

end Go.Lm
