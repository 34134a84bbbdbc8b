/- Contracts of functions of the program; no condition. -/
import Derived.Test.YtjihhflffkoffaaGreatDoorG0
import Derived.Test.YtjihhflffkoffaaGreatDoorLe
set_option linter.unusedSimpArgs false
set_option linter.unusedVariables false
set_option linter.unusedSectionVars false
set_option linter.unnecessarySimpa false
namespace Go.Proofs.YtjihhflffkoffaaGreatDoor.Z
open Go Go.Lm
set_option maxRecDepth 1000000
set_option maxHeartbeats 0
theorem NdC.lv_inj{a b:NdC}(h:a.lv=b.lv):a=b:=by
 have:a.cs=b.cs:=by unfold NdC.lv at h;exact LV.agg.inj h
 cases a;cases b;simp only [NdC.cs,List.cons.injEq,LV.int.injEq,LV.str.injEq,LV.bool.injEq,LV.slice.injEq,true_and,and_true] at this;obtain ⟨h0,h1,h2,h3,h4,h5,h6,h7,h8,h9,h10,h11,h12,h13,h14,h15,h16,h17,h18,h19⟩:=this;subst h0 h1 h2 h3 h4 h5 h6 h7 h8 h9 h10 h11 h12 h13 h14 h15 h16 h17 h18 h19;rfl
def GoodB(P:Prop)(H:LHeap):LV->LHeap->Prop:=fun v H'=>PresX [] H H'/\∃b:Bool,v=.bool b/\(b=true->P)
theorem GoodB.sh{P:Prop}{H:LHeap}:∀v H',GoodB P H v H'->PresX [] H H'/\hasSh .bool v:=fun v H' ⟨h1,b,e,_⟩=>⟨h1,b,e⟩
theorem GoodB.mk{P:Prop}{H H':LHeap}{b:Bool}(h:PresX [] H H')(k:b=true->P):GoodB P H (.bool b) H':=⟨h,b,rfl,k⟩
theorem GoodB.imp{P Q:Prop}{H:LHeap}{v:LV}{H':LHeap}(h:GoodB P H v H')(k:P->Q):GoodB Q H v H':=⟨h.1,h.2.choose,h.2.choose_spec.1,fun e=>k (h.2.choose_spec.2 e)⟩
def AnyN(H:LHeap):LV->LHeap->Prop:=fun v H'=>PresX [] H H'/\∃n:Int,v=.int .i64 n
theorem AnyN.sh{H:LHeap}:∀v H',AnyN H v H'->PresX [] H H'/\hasSh (.int .i64) v:=fun v H' ⟨h1,b,e⟩=>⟨h1,b,e⟩
def upB(b:UInt8):UInt8:=if 97<=b.toNat/\b.toNat<=122 then UInt8.ofNat (b.toNat-32) else b
def bcs(s:List UInt8):List LV:=s.map fun b=>LV.int .u8 (b.toNat:Int)
theorem bcs_len(s:List UInt8):(bcs s).length=s.length:=by unfold bcs;rw [List.length_map]
theorem bcs_app(s t:List UInt8):bcs (s++t)=bcs s++bcs t:=by unfold bcs;rw [List.map_append]
theorem bytes_bcs:∀s:List UInt8,bytesOfCells (bcs s)=some s
 |[]=>rfl
 |b::s=>by
  show (bytesOfCells (bcs s)).map (UInt8.ofNat (b.toNat:Int).toNat::·)=_;rw [bytes_bcs s];simp
theorem conv_to{H:LHeap}{s:List UInt8}(h:s.length<=9223372036854775807):convertL cfg.P H 9 155 (.str s)=some (.slice (some ⟨H.next,s.length,0⟩) s.length (.free 1),H.push (.cells (bcs s) 5 s.length s.length .mark false false)):=by
 unfold convertL;rw [show cfg.P.underlying 9=some .string by kernel_rfl,show cfg.P.underlying 155=some (.slice 5) by kernel_rfl];simp only;rw [show cfg.P.underlying 5=some (.int .u8) by kernel_rfl];simp only;rw [if_pos (by rw [Nat.ble_eq];exact h)];rfl
theorem conv_from{H:LHeap}{a:LAddr}{n:Nat}{q:Cap}{s:List UInt8}(h:loadN H a n=some (bcs s)):convertL cfg.P H 155 9 (.slice (some a) n q)=some (.str s,H):=by
 unfold convertL;rw [show cfg.P.underlying 9=some .string by kernel_rfl,show cfg.P.underlying 155=some (.slice 5) by kernel_rfl];simp only;rw [show cfg.P.underlying 5=some (.int .u8) by kernel_rfl];simp only [h,bytes_bcs]
theorem u8_lt256(b:UInt8):b.toNat<256:=b.toNat_lt
def GoodS(P:List UInt8->Prop)(H:LHeap):LV->LHeap->Prop:=fun v H'=>PresX [] H H'/\∃s:List UInt8,v=.str s/\P s
theorem GoodS.sh{P:List UInt8->Prop}{H:LHeap}:∀v H',GoodS P H v H'->PresX [] H H'/\hasSh .str v:=fun v H' ⟨h1,b,e,_⟩=>⟨h1,b,e⟩
theorem GoodS.mk{P:List UInt8->Prop}{H H':LHeap}{s:List UInt8}(h:PresX [] H H')(k:P s):GoodS P H (.str s) H':=⟨h,s,rfl,k⟩
theorem slot_loadN{H:LHeap}{i:Nat}{cs:List LV}{e:TypeId}{off n v:Nat}{out:List LV}(hg:H.get i=some (Slot.obj ⟨i,cs,e⟩))(hv:cs.length=v)(hb:off+n<=v)(ht:takeN n (dropN off cs)=some out):loadN H ⟨i,v,off⟩ n=some out:=by
 unfold loadN;rw [hg];simp only [Slot.obj];rw [if_pos (by simp only [Bool.and_eq_true,Nat.ble_eq];omega)];exact ht
end Go.Proofs.YtjihhflffkoffaaGreatDoor.Z
