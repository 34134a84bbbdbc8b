/- Contracts of functions of the program; no condition. -/
import Derived.Test.YtjihhflffkoffaaGreatDoorG9
import Derived.Test.YtjihhflffkoffaaGreatDoorLe
set_option linter.unusedSimpArgs false
set_option linter.unusedVariables false
set_option linter.unusedSectionVars false
set_option linter.unnecessarySimpa false
namespace Go.Proofs.YtjihhflffkoffaaGreatDoor.Z
open Go Go.Lm
set_option maxRecDepth 1000000
set_option maxHeartbeats 0
mutual
theorem depth_bare:∀n:Nd,depthT (bareN n)=depthT n
 | .mk x l=>by simp only [bareN,depthT,depths_bare l 0]
theorem depths_bare:∀(l:List Nd) (d:Int),depthTs (bareNs l) d=depthTs l d
 |[],_=>rfl
 |n::l,d=>by simp only [bareNs,depthTs,depth_bare n,depths_bare l]
end
mutual
theorem pre_bare:∀n:Nd,(preT (bareN n)).length=(preT n).length
 | .mk x l=>by simp only [bareN,preT,List.length_cons,pres_bare l]
theorem pres_bare:∀l:List Nd,(preTs (bareNs l)).length=(preTs l).length
 |[]=>rfl
 |n::l=>by simp only [bareNs,preTs,List.length_append,pre_bare n,pres_bare l]
end
theorem pctM_pre:∀(r:List TokC) (n:Nd),(preT (pctM n r).1).length+(pctM n r).2.length<=(preT n).length+r.length
 |[],n=>by simp [pctM]
 |t::r,n=>by
  unfold pctM;split
  ·have:=pctM_pre r (unNp [37] n);simp only [unNp,preT,preTs,List.length_cons,List.append_nil] at this |-;omega
  ·exact Nat.le_refl _
theorem PR.nodes{q:PQ}{o:Res}(h:PR q o):∀{x:List Nd} {r:List TokC},o=some (x,r)->match q with
  | .level _ ts=>(preTs x).length+r.length<=ts.length
  | .loop _ n ts=>(preTs x).length+r.length<=(preT n).length+ts.length
  | .ahead ts=>(preTs x).length+r.length<=ts.length
  | .atom ts=>(preTs x).length+r.length<=ts.length
  | .args ts acc=>(preTs x).length+r.length<=(preTs acc).length+ts.length:=by
 induction h with
 |level h h' ih ih'=>
  intro x r ho;have a:=ih rfl;have b:=ih' ho;simp only [preTs,List.append_nil] at a b |-;omega
 |stop h=>intro x r ho;cases ho;simp only [preTs,List.append_nil];exact Nat.le_refl _
 |loop h1 h2 h3 h h' ih ih'=>
  intro x r ho;have a:=ih rfl;have b:=ih' ho;simp only [List.length_cons,preTs,List.append_nil,binNp,preT,List.length_append] at a b |-;omega
 |minus h h' ih=>
  intro x r ho;cases ho;have a:=ih rfl;have b:=opM_len h;simp only [preTs,List.append_nil,unNp,preT,List.length_cons] at a |-;omega
 |atom h h' ih=>
  intro x r ho;cases ho;have a:=ih rfl;simp only [preTs,List.append_nil] at a |-;exact Nat.le_trans (pctM_pre _ _) a
 |paren h h' h2 ih=>
  intro x r ho;cases ho;have a:=ih rfl;have b:=opM_len h;have c:=opM_len h2;simp only at a |-;omega
 |@alone t r o h h'=>
  intro x r' ho;have hl:r'.length<(t::r).length:=(PR.alone h h').less ho;subst ho;have hx:(preTs x).length=1:=by
   clear hl;unfold aloneM at h'
   repeat' split at h'
   all_goals try (cases h';done)
   all_goals try (cases h';rfl)
   unfold areaM at h'
   repeat' split at h'
   all_goals try (cases h';done)
   all_goals (cases h';rfl)
  simp only;omega
 |call h h1 h2 h' ih=>
  intro x r' ho;have a:=ih rfl;have b:=opM_len h2;unfold shutM at ho;split at ho
  ·cases ho
  ·rename_i e;have c:=opM_len e;split at ho
   ·cases ho
   ·cases ho;simp only [List.length_cons,preTs,callNp,preT,List.append_nil,List.length_nil] at a |-;omega
 |args1 h h' ih=>
  intro x r ho;cases ho;have a:=ih rfl;simp only [preTs_app,preTs,List.append_nil,List.length_append] at a |-;omega
 |args h h' h2 ih ih2=>
  intro x r ho;have a:=ih rfl;have b:=opM_len h';have c:=ih2 ho;simp only [preTs_app,preTs,List.append_nil,List.length_append] at a c |-;omega
 |_=>intro x r ho;cases ho
inductive PO (s:List UInt8):Option Nd->Int->Prop
 |lex (h:(lexO s).2≠0):PO s none (lexO s).2
 |no (h:(lexO s).2=0) (h':PR (.level 1 (lexO s).1) none):PO s none 10
 |more (h:(lexO s).2=0) {n:Nd} {t:TokC} {r:List TokC} (h':PR (.level 1 (lexO s).1) (some ([n],t::r))):PO s none 10
 |deep (h:(lexO s).2=0) {n:Nd} (h':PR (.level 1 (lexO s).1) (some ([n],[]))) (hd:24<depthT n):PO s none 10
 |yes (h:(lexO s).2=0) {n:Nd} (h':PR (.level 1 (lexO s).1) (some ([n],[]))) (hd:depthT n<=24):PO s (some n) 0
theorem PO.det{s:List UInt8}{o o':Option Nd}{e e':Int}(h:PO s o e)(h':PO s o' e'):o=o'/\e=e':=by
 cases h with
 |lex a=>
  cases h' with
  |lex=>exact ⟨rfl,rfl⟩
  |no b |more b |deep b |yes b=>exact absurd b a
 |no a p=>
  cases h' with
  |lex b=>exact absurd a b
  |no=>exact ⟨rfl,rfl⟩
  |more b q |deep b q |yes b q=>cases p.det q
 |more a p=>
  cases h' with
  |lex b=>exact absurd a b
  |no b q=>cases p.det q
  |more b q=>exact ⟨rfl,rfl⟩
  |deep b q |yes b q=>cases p.det q
 |deep a p d=>
  cases h' with
  |lex b=>exact absurd a b
  |no b q=>cases p.det q
  |more b q=>cases p.det q
  |deep b q=>exact ⟨rfl,rfl⟩
  |yes b q d'=>
   have:=p.det q;simp only [Option.some.injEq,Prod.mk.injEq,List.cons.injEq,and_true] at this;rw [this] at d;omega
 |yes a p d=>
  cases h' with
  |lex b=>exact absurd a b
  |no b q=>cases p.det q
  |more b q=>cases p.det q
  |deep b q d'=>
   have:=p.det q;simp only [Option.some.injEq,Prod.mk.injEq,List.cons.injEq,and_true] at this;rw [this] at d;omega
  |yes b q=>
   have:=p.det q;simp only [Option.some.injEq,Prod.mk.injEq,List.cons.injEq,and_true] at this;rw [this];exact ⟨rfl,rfl⟩
def ParseS(s:List UInt8)(H:LHeap):LV->LHeap->Prop:=fun v H'=>PresX [] H H'/\∃o e,PO s o e/\match o with
 |none=>v=.tuple [nilNp.lv,.int .i64 e]
 |some n=>∃nd,bareN nd=n/\v=.tuple [nd.root.lv,.int .i64 e]/\NdAt H' nd/\NdIds (H.next<=·) nd
def parD(i0 i2:Nat):LDef:=⟨.fn (.func 114) [.ptr (some ⟨i0,18,0⟩),.ptr (some ⟨i2,1,0⟩)],[]⟩
def cloT(i0 i2:Nat)(v:LV):List LV:=[.ptr (some ⟨i0,18,0⟩),.ptr (some ⟨i2,1,0⟩),.undef,.undef,.undef,v,.undef,.undef,.undef,.undef,.undef,.undef]
theorem clo_in(i0 i2:Nat)(tm:List LV)(td:List LItem)(cs:List LFrame)(H:LHeap):lrun cfg 7 ⟨⟨54,tm,td,[parD i0 i2],.panicking [⟨noneV,false⟩],false,none⟩,cs,H⟩=⟨mkX ⟨[],none,true⟩ 114 (cloT i0 i2 noneV) (regAt cfg 114 3),⟨54,tm,td,[],.panicking [⟨noneV,true⟩],false,none⟩::cs,H⟩:=by kernel_rfl
theorem clo_in'(i0 i2:Nat)(tm:List LV)(td:List LItem)(cs:List LFrame)(H:LHeap):lrun cfg 7 ⟨⟨54,tm,td,[parD i0 i2],.returning,false,none⟩,cs,H⟩=⟨mkX ⟨[],none,true⟩ 114 (cloT i0 i2 .nilIface) (regAt cfg 114 3),⟨54,tm,td,[],.returning,false,none⟩::cs,H⟩:=by kernel_rfl
theorem clo_out(tm' tm:List LV)(td' td:List LItem)(cs:List LFrame)(H:LHeap):lstep cfg ⟨{ mkX ⟨[],none,true⟩ 114 tm' td' with mode:=.returning },⟨54,tm,td,[],.panicking [⟨noneV,true⟩],false,none⟩::cs,H⟩=some [⟨⟨54,tm,td,[],.returning,false,none⟩,cs,H⟩]:=by kernel_rfl
theorem clo_out'(tm' tm:List LV)(td' td:List LItem)(cs:List LFrame)(H:LHeap):lstep cfg ⟨{ mkX ⟨[],none,true⟩ 114 tm' td' with mode:=.returning },⟨54,tm,td,[],.returning,false,none⟩::cs,H⟩=some [⟨⟨54,tm,td,[],.returning,false,none⟩,cs,H⟩]:=by kernel_rfl
theorem clo_pan{i0 i2:Nat}{n0:NdC}{e:Int}{tm:List LV}{td:List LItem}{cs:List LFrame}{p:LState->Prop}{H:LHeap}(hI:Inv [i0,i2] H [⟨i0,n0.cs,72⟩,⟨i2,[.int .i64 e],23⟩] H)
  (hE:∀H',PresX [i0,i2] H H'->H'.get i0=some (Slot.obj ⟨i0,nilNp.cs,72⟩)->H'.get i2=some (Slot.obj ⟨i2,[.int .i64 10],23⟩)->Lm.Ends cfg p ⟨⟨54,tm,td,[],.returning,false,none⟩,cs,H'⟩):
  Lm.Ends cfg p ⟨⟨54,tm,td,[parD i0 i2],.panicking [⟨noneV,false⟩],false,none⟩,cs,H⟩:=by
 refine lrun_ends 7 _ ?_;rw [clo_in];have:=e114p (fun _ H'=>PresX [i0,i2] H H'/\H'.get i0=some (Slot.obj ⟨i0,nilNp.cs,72⟩)/\H'.get i2=some (Slot.obj ⟨i2,[.int .i64 10],23⟩)) (fun _ _ _=>False) [] true [i0,i2] H n0 e i0 i2 H
  (fun i1 H1 l1 p1 H2 p2 H3 p3 H4 p4 hI4=>⟨hI4.pres,(hI4.slot 0 _ rfl).2.1,(hI4.slot 1 _ rfl).2.1⟩)
 refine this (fun x hx=>List.all_eq_true.1 (show List.all _ (inR 2)=true from rfl) x hx) hI _ p ⟨fun _ _ _ _ hf=>hf.elim,fun _ _ _ _ hf=>hf.elim,fun tm' td' H' hh=> ?_⟩;refine .step (l:=[⟨⟨54,tm,td,[],.returning,false,none⟩,cs,H'⟩]) ?_ fun s hm=> ?_
 ·exact clo_out tm' tm td' td cs H'
 ·rw [List.mem_singleton.1 hm];exact hE H' hh.1 hh.2.1 hh.2.2
theorem clo_ret{i0 i2:Nat}{n0:NdC}{e:Int}{tm:List LV}{td:List LItem}{cs:List LFrame}{p:LState->Prop}{H:LHeap}(hI:Inv [i0,i2] H [⟨i0,n0.cs,72⟩,⟨i2,[.int .i64 e],23⟩] H)
  (hE:Lm.Ends cfg p ⟨⟨54,tm,td,[],.returning,false,none⟩,cs,H⟩):
  Lm.Ends cfg p ⟨⟨54,tm,td,[parD i0 i2],.returning,false,none⟩,cs,H⟩:=by
 refine lrun_ends 7 _ ?_;rw [clo_in'];have:=e114n (fun _ H'=>H'=H) (fun _ _ _=>False) [] true [i0,i2] H n0 e i0 i2 H (fun _=>rfl);refine this (fun x hx=>List.all_eq_true.1 (show List.all _ (inR 2)=true from rfl) x hx) hI _ p ⟨fun _ _ _ _ hf=>hf.elim,fun _ _ _ _ hf=>hf.elim,fun tm' td' H' hh=> ?_⟩;subst hh;refine .step (l:=[⟨⟨54,tm,td,[],.returning,false,none⟩,cs,H'⟩]) ?_ fun s hm=> ?_
 ·exact clo_out' tm' tm td' td cs H'
 ·rw [List.mem_singleton.1 hm];exact hE
theorem par_res:(cfg.P.funcs[54]?).map (fun fn=>fn.results.toList)=some [.cell 2 72,.cell 3 23]:=by kernel_rfl
theorem ag72:isAggT cfg.P 72=some true:=by kernel_rfl
theorem sz72:sizeOfT cfg.P 72=some 18:=by kernel_rfl
theorem ag23:isAggT cfg.P 23=some false:=by kernel_rfl
theorem par_ret{i0 i2:Nat}{x:NdC}{e:Int}{tm:List LV}{td:List LItem}{cs:List LFrame}{p:LState->Prop}{H:LHeap}{R:LV->LHeap->Prop}(hk:ContG cfg (gF 54 R) cs p)(h2:nth tm 2=some (.ptr (some ⟨i0,18,0⟩)))(h3:nth tm 3=some (.ptr (some ⟨i2,1,0⟩)))
  (g0:H.get i0=some (Slot.obj ⟨i0,x.cs,72⟩)) (g2:H.get i2=some (Slot.obj ⟨i2,[.int .i64 e],23⟩)) (hR:R (.tuple [x.lv,.int .i64 e]) H):Lm.Ends cfg p ⟨⟨54,tm,td,[],.returning,false,none⟩,cs,H⟩:=by
 have hr:=par_res;simp only [Option.map_eq_some_iff] at hr;obtain ⟨fn,hfn,hres⟩:=hr;refine (show _/\_/\_ from hk).1 _ _ H ⟨rfl,rfl,rfl,rfl,rfl,fn,[x.lv,.int .i64 e],hfn,?_,rfl⟩ hR;rw [hres];have l0:loadT cfg.P H 72 ⟨i0,18,0⟩=some x.lv:=slotLoad_spec (s:=⟨i0,x.cs,72⟩) (off:=0) g0 (by unfold slotLoad;rw [ag72];simp only [sz72];rfl);have l2:loadT cfg.P H 23 ⟨i2,1,0⟩=some (.int .i64 e):=slotLoad_spec (s:=⟨i2,[.int .i64 e],23⟩) (off:=0) g2 (by unfold slotLoad;rw [ag23];rfl);simp only [mapO,resL,evalL,h2,h3,l0,l2]
theorem inv_pick{X:List Nat}{H0 H:LHeap}{kn:List Slot}(h:Inv X H0 kn H){k:Nat}{s:Slot}(hs:nth kn k=some s):Inv [s.id] H [s] H:=
 ⟨.refl _ _,fun j t ht=>by
  match j,ht with
  |0,ht=>
   simp only [nth,Option.some.injEq] at ht;subst ht;obtain ⟨h1,h2,_⟩:=h.slot k _ hs;exact ⟨h1,h2,.inl List.mem_cons_self⟩
  |j+1,ht=>simp [nth] at ht,fun j k s t hs ht hne=>by
  match j,k,hs,ht with
  |0,0,_,_=>exact absurd rfl hne
  |j+1,_,hs,_=>simp [nth] at hs
  |_,k+1,_,ht=>simp [nth] at ht⟩
theorem inv_two{X:List Nat}{H0 H:LHeap}{s t:Slot}{l:List Slot}(h:Inv X H0 (s::t::l) H):Inv [s.id,t.id] H [s,t] H:=
 ⟨.refl _ _,fun j u hu=>by
  match j,hu with
  |0,hu=>
   simp only [nth,Option.some.injEq] at hu;subst hu;obtain ⟨h1,h2,_⟩:=h.slot 0 _ rfl;exact ⟨h1,h2,.inl List.mem_cons_self⟩
  |1,hu=>
   simp only [nth,Option.some.injEq] at hu;subst hu;obtain ⟨h1,h2,_⟩:=h.slot 1 _ rfl;exact ⟨h1,h2,.inl (by simp)⟩
  |j+2,hu=>simp [nth] at hu,fun j k u v hu hv hne=>by
  match j,k,hu,hv with
  |0,0,_,_=>exact absurd rfl hne
  |1,1,_,_=>exact absurd rfl hne
  |0,1,hu,hv=>exact h.apart 0 1 u v hu hv (by omega)
  |1,0,hu,hv=>exact h.apart 1 0 u v hu hv (by omega)
  |j+2,_,hu,_=>simp [nth] at hu
  |_,k+2,_,hv=>simp [nth] at hv⟩
theorem tok_ne{H:LHeap}{a:LAddr}{x:TokC}{ty:TypeId}(h1:isAggT cfg.P ty=some true)(h2:sizeOfT cfg.P ty=some 9)(h:loadT cfg.P H ty a=some x.lv){k:Nat}{cs:List LV}{e:TypeId}(g:H.get k=some (Slot.obj ⟨k,cs,e⟩))(hl:cs.length<9):a.id≠k:=by
 rintro rfl;unfold loadT at h;rw [h1] at h;simp only [h2,Option.map_eq_some_iff] at h;obtain ⟨cs',h,_⟩:=h;unfold loadN at h;rw [g] at h;simp only [Slot.obj] at h;split at h
 ·obtain ⟨h3,_⟩:=takeN_some _ _ _ h;rw [dropN_eq,List.length_drop] at h3;omega
 ·cases h
theorem lexS_sh{ty:TypeId}{o:List TokC×Int}{H:LHeap}(v:LV)(H':LHeap)(h:LexS ty o H v H'):PresX [] H H'/\hasSh (.tuple [.slice,.int .i64]) v:=by
 obtain ⟨p,a,q,rfl,_⟩:=h;exact ⟨p,_,_,_,_,rfl⟩
theorem s54(s:List UInt8)(H:LHeap):CallL cfg 54 [.str s] H (ParseS s H):=by
 refine e54p _ s H fun i0 H1 l0 p1 i2 H3 l2 p3 hI3=>⟨_,s18 s H3,lexS_sh,fun a5 l6 c7 n8 H9 hS H10 p10=> ?_⟩;obtain ⟨p9,a,q,e,hrow⟩:=hS;simp only [LV.tuple.injEq,List.cons.injEq,LV.slice.injEq,LV.int.injEq,true_and,and_true] at e;obtain ⟨⟨rfl,rfl,rfl⟩,rfl⟩:=e;have li0:=(hI3.slot 0 _ rfl).1;have li2:=(hI3.slot 1 _ rfl).1;simp only at li0 li2;have n1:=p1.next;have n3:=p3.next;have n9:=p9.next;have n10:=p10.next;have g2:H9.get i2=some (Slot.obj ⟨i2,[.int .i64 0],23⟩):=(p9.keep i2 li2 (by simp)).get.trans (hI3.slot 1 _ rfl).2.1;refine ⟨fun herr=>⟨rfl,fun H12 p12=>⟨rfl,fun H14 p14 hI14=>⟨hI14.pres,none,_,.lex (by simpa using herr),rfl⟩⟩⟩,fun hok hI10=> ?_⟩;have hok':(lexO s).2=0:=by simpa using hok
 refine ⟨fun tm H'=>nth tm 2=some (.ptr (some ⟨i0,18,0⟩))/\nth tm 3=some (.ptr (some ⟨i2,1,0⟩))/\PresX [] H H'/\∃nd,Inv [i0,i2] H' [⟨i0,nd.root.cs,72⟩,⟨i2,[.int .i64 0],23⟩] H'/\PO s (some (bareN nd)) 0/\NdAt H' nd/\NdIds (H.next<=·) nd,
  fun tm v H'=>nth tm 2=some (.ptr (some ⟨i0,18,0⟩))/\nth tm 3=some (.ptr (some ⟨i2,1,0⟩))/\v=noneV/\PO s none 10/\PresX [] H H'/\∃(n0:NdC) (e:Int),Inv [i0,i2] H' [⟨i0,n0.cs,72⟩,⟨i2,[.int .i64 e],23⟩] H',?_,fun i16 H17 l16 p17 hI17=> ?_⟩
 ·intro cs p hk;refine ⟨fun _ _ _ _ hf=>hf.elim,fun tm td v H' hh=> ?_,fun tm td H' hh=> ?_⟩
  ·obtain ⟨h2,h3,rfl,hPO,hp,n0,e,hI⟩:=hh;refine clo_pan (tm:=tm) (td:=td) hI fun H'' p'' g0 g2=>par_ret hk h2 h3 g0 g2 ⟨hp.trans p'' (fun y hy=> ?_),none,10,hPO,rfl⟩;simp at hy;omega
  ·obtain ⟨h2,h3,hp,nd,hI,hPO,hN,hD⟩:=hh;exact clo_ret (tm:=tm) (td:=td) hI (par_ret hk h2 h3 (hI.slot 0 _ rfl).2.1 (hI.slot 1 _ rfl).2.1 ⟨hp,_,0,hPO,nd,rfl,rfl,hN,hD⟩)
 ·have li16:=(hI17.slot 2 _ rfl).1;simp only at li16;have n17:=p17.next;have hT9:TokAt H9 i16 124 a5 (lexO s).1.length c7 (lexO s).1:=row_tok hrow ag124 sz124 (lexO_ok s) (Nat.le_trans (lexO_len s) (by omega)) (fun ad e=>by subst e;have:=hrow.id;omega);have hT17:TokAt H17 i16 124 a5 (lexO s).1.length c7 (lexO s).1:=⟨hT9.len,hT9.small,hT9.cap,fun j x hx=>by
   obtain ⟨t1,t2,t3,t4,t5⟩:=hT9.tok j x hx;have hne:=tok_ne ag124 sz124 t5 g2 (by simp);simp only at hne;have l10:=p10.load (a:=⟨(adr a5).id,(adr a5).ver,(adr a5).off+j*9⟩) t2 (by simpa using hne) t5;exact ⟨t1,by omega,t3,t4,p17.load (a:=⟨(adr a5).id,(adr a5).ver,(adr a5).off+j*9⟩) (by simp only;omega) (by simp) l10⟩⟩
  refine ⟨_,_,[],s115 (lexO s).1 i16 1 a5 (lexO s).1.length c7 H17 (by omega) (by omega) (inv_pick hI17 (k:=2) rfl) hT17,nodeS_sh,(by simp),panS_sh,fun v H' cs hS hI'=>⟨rfl,rfl,hS.1,.no hok' hS.2.1,hI'.pres,nilNp,_,inv_two hI'⟩,fun x19 a20 l21 c22 H23 hS g23 H24 p24=> ?_⟩;obtain ⟨nd,r,hPR,e,hN,hD,hp⟩:=hS;obtain rfl:=NdC.lv_inj e;have hT23:=pslot_at hp g23;have hlr:=hT23.len;have n23:=hp.1.next;have n24:=p24.next;have hN24:NdAt H24 nd:=NdAt.onY p24 (NdIds.mono (fun j hj hm=>by have:=List.mem_singleton.1 hm;omega) hD) hN;have hsz:(preT nd).length<=1000000:=by
   have h1:=hPR.nodes rfl;simp only [preTs,List.append_nil,pre_bare] at h1;have:=lexO_len s;omega
  refine ⟨fun h hI24=>⟨rfl,rfl,rfl,?_,hI24.pres,_,_,inv_two hI24⟩,fun h hI24=>⟨_,s50 nd H24 (ndSm nd H24 hN24 hsz) hN24 hsz,Ret.use ⟨_,rfl⟩,fun n26 H27 hS=> ?_⟩⟩
  ·cases r with
   |nil=>simp [hlr] at h
   |cons t r'=>exact .more hok' hPR
  ·obtain ⟨e,p27⟩:=hS;cases e;have hr:r=[]:=by
    cases r with
    |nil=>rfl
    |cons t r'=>simp [hlr] at h
   subst hr;have n27:=p27.next;refine ⟨fun h hI27=>⟨rfl,rfl,rfl,.deep hok' hPR (by rw [depth_bare];simpa using h),hI27.pres,_,_,inv_two hI27⟩,fun h H28 p28 H29 p29 hI29=>⟨rfl,rfl,hI29.pres,nd,inv_two hI29,.yes hok' hPR (by rw [depth_bare];simpa using h),?_,NdIds.mono (fun j hj=>by omega) hD⟩⟩;exact NdAt.onY p29 (NdIds.mono (fun j hj hm=>by have:=List.mem_singleton.1 hm;omega) hD) (NdAt.onY p28 (NdIds.mono (fun j hj hm=>by have:=List.mem_singleton.1 hm;omega) hD) (NdAt.on p27 hN24))
end Go.Proofs.YtjihhflffkoffaaGreatDoor.Z
