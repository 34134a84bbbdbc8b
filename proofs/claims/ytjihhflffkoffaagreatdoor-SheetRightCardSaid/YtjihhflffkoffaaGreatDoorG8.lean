/- Contracts of functions of the program; no condition. -/
import Derived.Test.YtjihhflffkoffaaGreatDoorG7
import Derived.Test.YtjihhflffkoffaaGreatDoorG4
import Derived.Test.YtjihhflffkoffaaGreatDoorG0
import Derived.Test.YtjihhflffkoffaaGreatDoorLe
import Derived.Test.YtjihhflffkoffaaGreatDoorG2
import Derived.Test.YtjihhflffkoffaaGreatDoorG3
import Derived.Test.YtjihhflffkoffaaGreatDoorG5
set_option linter.unusedSimpArgs false
set_option linter.unusedVariables false
set_option linter.unusedSectionVars false
set_option linter.unnecessarySimpa false
namespace Go.Proofs.YtjihhflffkoffaaGreatDoor.Z
open Go Go.Lm
set_option maxRecDepth 1000000
set_option maxHeartbeats 0
theorem idl_mem{a:Option LAddr}{j:Nat}(h:∃ad,a=some ad/\ad.id=j):j∈idl a:=by
 obtain ⟨ad,rfl,rfl⟩:=h;exact List.mem_singleton.2 rfl
theorem st_cases(c:UInt8):stN c=147\/stN c=148\/stN c=149\/stN c=151\/stN c=152:=by
 unfold stN stR;split
 ·exact .inl rfl
 ·split
  ·exact .inr (.inl rfl)
  ·split
   ·exact .inr (.inr (.inl rfl))
   ·split
    ·exact .inr (.inr (.inr (.inl rfl)))
    ·exact .inr (.inr (.inr (.inr rfl)))
theorem lex_bad{ty:TypeId}{H0 H:LHeap}{o:List TokC×Int}(ho:o=([],10))(p:PresX [] H0 H):LexS ty o H0 (.tuple [.slice none 0 (.exact 0),.int .i64 10]) H:=by
 subst ho;exact ⟨p,none,.exact 0,rfl,.nil⟩
theorem push_load{H H':LHeap}{x:TokC}{e:TypeId}(h:H'=H.push (.cells x.cs e 9 9 .none false true)):firstCellsL H' 9 1 (.slice (some ⟨H.next,9,0⟩) 1 (.exact 1))=some x.cs:=by
 have:loadN H' ⟨H.next,9,0⟩ 9=some x.cs:=by
  unfold loadN;rw [h];simp only [LHeap.get_push,if_true];rfl
 unfold firstCellsL;exact this
theorem loop18(H0:LHeap)(i3:Nat):∀(m:Nat) (s:List UInt8) (acc:List TokC) (a:Option LAddr) (q:Cap) (d:Nat->LV) (v:LV) (H:LHeap),s.length<m->s.length<=255->acc.length+s.length<=1000->
  RowAt H 124 9 a acc.length q (cellsT acc)->(∀ad,a=some ad->H0.next<=ad.id/\ad.id≠i3)->∀o,o=resO acc (lexF s)->
  GoesT cfg 18 (LexS 124 o H0) [] H0 [⟨i3,[.str s,v],121⟩] (L18a_0 d a acc.length q) (loopAt cfg 18 0) H:=by
 intro m;induction m with
 |zero=>intro s acc a q d v H hm;omega
 |succ m ih=>
  intro s acc a q d v H hm h255 hacc hr ha o ho hin hI;have hi3:i3<H.next:=(hI.slot 0 _ rfl).1;rw [lexF_drop] at ho;have hdl:=dropB_le s;cases hd:dropB s with
  |nil=>
   rw [hd,lexF_nil] at ho;refine g18a_0 _ H0 d a acc.length q i3 s v H (fun _=>⟨_,s73 s H,Ret.use ⟨_,rfl⟩,fun s7 H8 ⟨e7,p8⟩ H9 p9=>⟨fun h7 hI=> ?_,fun h7=> ?_⟩⟩) hin hI
   ·have p89:PresX [i3] H H9:=p8.mono (fun i hi=>by cases hi) |>.trans p9 (fun i hi=>.inl hi);rw [ho];refine ⟨hI.pres,a,q,by simp [resO],?_⟩;simp only [resO,List.append_nil];exact hr.on p89.next (fun ad e=>by subst e;exact p89.keep _ hr.id (by simpa using (ha _ rfl).2)) (fun ad e _=>by subst e;exact (p89.keep _ hr.id (by simpa using (ha _ rfl).2)).get)
   ·rw [hd] at e7;cases e7;simp at h7
  |cons c t=>
   rw [hd] at ho hdl;have hbl:=dropB_head hd;have hct:(c::t).length<=255:=by omega
   rcases st_cases c with hf |hf |hf |hf |hf
   ·refine g18a_0 _ H0 d a acc.length q i3 s v H (fun _=>⟨_,s73 s H,Ret.use ⟨_,rfl⟩,fun s7 H8 ⟨e7,p8⟩ H9 p9=>⟨fun h7=> ?_,fun h7 hI9=> ?_⟩⟩) hin hI
    ·rw [hd] at e7;cases e7;cases h7
    ·rw [hd] at e7;cases e7;have p89:PresX [i3] H H9:=p8.mono (fun i hi=>by cases hi) |>.trans p9 (fun i hi=>.inl hi);have c74:=s74 i3 c t v H9 (hI9.slot 0 _ rfl).1 (hI9.slot 0 _ rfl).2.1;rw [hf] at c74;refine ⟨_,c74,fun w H' ⟨k1,k2,k3⟩=>⟨k1,by rw [k2];exact rfl,_,⟨c::t,rfl⟩,rfl,k3⟩,fun y11 H12 ⟨p12,_,g12⟩ g12' i13 H14 h14 p14=> ?_⟩;rw [g12'] at g12;simp only [Option.some.injEq,Slot.obj,LObj.cells.injEq,List.cons.injEq,LV.str.injEq,and_true] at g12;obtain ⟨rfl,_⟩:=g12;have hcall:=st_call c t (by omega) H14;rw [hf] at hcall;refine ⟨rfl,fun _=>⟨_,hcall,Ret.use (tokL_sh _),fun x17 n18 H19 ⟨e17,p19⟩ H21 p21=>⟨fun hn hI=>lex_bad ?_ hI.pres,fun hn H23 e23 hI23=> ?_⟩⟩⟩
     ·rw [ho];have h0:n18=0:=by simpa using hn
      rcases tok_inv e17 with ⟨h,_⟩ |⟨k,h,hk⟩
      ·rw [lexF_none hbl h];rfl
      ·have:k=0:=by omega
       subst this;rw [lexF_zero hbl h];rfl
     ·have h0:n18≠0:=by simpa using hn
      rcases tok_inv e17 with ⟨_,h⟩ |⟨k,h,hk⟩
      ·exact absurd h h0
      ·subst hk;have hk0:k≠0:=by omega
       have hkl:=one_le h;have p12':PresX [i3] H H12:=p89.trans p12 (fun i hi=>.inl hi);have p19':PresX [i3] H H19:=(p12'.trans0 p14).trans0 p19;have p21':PresX [i3] H H21:=p19'.trans p21 (fun i hi=>by rw [List.mem_singleton.1 hi];exact .inr (Nat.le_trans p12'.next h14));have p23':PresX [i3] H H23:=p21'.trans0 (by rw [e23];exact .push _ _ _);have r23:RowAt H23 124 9 a acc.length q (cellsT acc):=hr.on p23'.next (fun ad e=>by subst e;exact p23'.keep _ hr.id (by simpa using (ha _ rfl).2)) (fun ad e _=>by subst e;exact (p23'.keep _ hr.id (by simpa using (ha _ rfl).2)).get);obtain ⟨Y,a',q',H27,e27,p27,r27,hY,ha'⟩:=r23.append rowTk (x:=.slice (some ⟨H21.next,9,0⟩) 1 (.exact 1)) (m:=1) (new:=x17.cs) rfl (push_load e23) rfl (tok_cells _) (by omega);have hid:∀ad,a'=some ad->H0.next<=ad.id/\ad.id≠i3:=by
        intro ad e;rcases ha' ad e with ⟨ad',e1,e2⟩ |e1
        ·rw [<-e2];exact ha ad' e1
        ·have:=p23'.next;have:=hI.pres.next;exact ⟨by omega,by omega⟩
       refine ⟨Y,a',acc.length+1,q',H27,⟨e27,p27,fun j hj=>idl_ok ha (fun ad e=> ?_) j (idl_mem (hY j hj))⟩,by dsimp only [qT5_2];simp at hkl |-;omega,fun H29 p29 d30=> ?_⟩
       ·subst e;have:=hr.id;have:=p12'.next;exact fun e=>by omega
       ·rw [sub_drop];have r29:RowAt H29 124 9 a' (acc++[x17]).length q' (cellsT (acc++[x17])):=by
         rw [cellsT_app,List.length_append];show RowAt H29 124 9 a' (acc.length+1) q' (cellsT acc++(x17.cs++[]));rw [List.append_nil];exact r27.on p29.next (fun ad e=>by subst e;exact p29.keep _ r27.id (by simpa using (hid _ rfl).2)) (fun ad e _=>by subst e;exact (p29.keep _ r27.id (by simpa using (hid _ rfl).2)).get)
        have hlk:((c::t).drop k).length+k=(c::t).length:=by rw [List.length_drop];omega
        have:=ih ((c::t).drop k) (acc++[x17]) a' q' d30 (.func (.func 147) [] []) H29 (by omega) (by omega) (by rw [List.length_append];simp only [List.length_singleton];omega) r29 hid o (by rw [ho,lexF_some hbl h hk0,resO_cons]);rw [List.length_append] at this;exact this
   ·refine g18b_0 _ H0 d a acc.length q i3 s v H (fun _=>⟨_,s73 s H,Ret.use ⟨_,rfl⟩,fun s7 H8 ⟨e7,p8⟩ H9 p9=>⟨fun h7=> ?_,fun h7 hI9=> ?_⟩⟩) hin hI
    ·rw [hd] at e7;cases e7;cases h7
    ·rw [hd] at e7;cases e7;have p89:PresX [i3] H H9:=p8.mono (fun i hi=>by cases hi) |>.trans p9 (fun i hi=>.inl hi);have c74:=s74 i3 c t v H9 (hI9.slot 0 _ rfl).1 (hI9.slot 0 _ rfl).2.1;rw [hf] at c74;refine ⟨_,c74,fun w H' ⟨k1,k2,k3⟩=>⟨k1,by rw [k2];exact rfl,_,⟨c::t,rfl⟩,rfl,k3⟩,fun y11 H12 ⟨p12,_,g12⟩ g12' i13 H14 h14 p14=> ?_⟩;rw [g12'] at g12;simp only [Option.some.injEq,Slot.obj,LObj.cells.injEq,List.cons.injEq,LV.str.injEq,and_true] at g12;obtain ⟨rfl,_⟩:=g12;have hcall:=st_call c t (by omega) H14;rw [hf] at hcall;refine ⟨rfl,fun _=>⟨_,hcall,Ret.use (tokL_sh _),fun x17 n18 H19 ⟨e17,p19⟩ H21 p21=>⟨fun hn hI=>lex_bad ?_ hI.pres,fun hn H23 e23 hI23=> ?_⟩⟩⟩
     ·rw [ho];have h0:n18=0:=by simpa using hn
      rcases tok_inv e17 with ⟨h,_⟩ |⟨k,h,hk⟩
      ·rw [lexF_none hbl h];rfl
      ·have:k=0:=by omega
       subst this;rw [lexF_zero hbl h];rfl
     ·have h0:n18≠0:=by simpa using hn
      rcases tok_inv e17 with ⟨_,h⟩ |⟨k,h,hk⟩
      ·exact absurd h h0
      ·subst hk;have hk0:k≠0:=by omega
       have hkl:=one_le h;have p12':PresX [i3] H H12:=p89.trans p12 (fun i hi=>.inl hi);have p19':PresX [i3] H H19:=(p12'.trans0 p14).trans0 p19;have p21':PresX [i3] H H21:=p19'.trans p21 (fun i hi=>by rw [List.mem_singleton.1 hi];exact .inr (Nat.le_trans p12'.next h14));have p23':PresX [i3] H H23:=p21'.trans0 (by rw [e23];exact .push _ _ _);have r23:RowAt H23 124 9 a acc.length q (cellsT acc):=hr.on p23'.next (fun ad e=>by subst e;exact p23'.keep _ hr.id (by simpa using (ha _ rfl).2)) (fun ad e _=>by subst e;exact (p23'.keep _ hr.id (by simpa using (ha _ rfl).2)).get);obtain ⟨Y,a',q',H27,e27,p27,r27,hY,ha'⟩:=r23.append rowTk (x:=.slice (some ⟨H21.next,9,0⟩) 1 (.exact 1)) (m:=1) (new:=x17.cs) rfl (push_load e23) rfl (tok_cells _) (by omega);have hid:∀ad,a'=some ad->H0.next<=ad.id/\ad.id≠i3:=by
        intro ad e;rcases ha' ad e with ⟨ad',e1,e2⟩ |e1
        ·rw [<-e2];exact ha ad' e1
        ·have:=p23'.next;have:=hI.pres.next;exact ⟨by omega,by omega⟩
       refine ⟨Y,a',acc.length+1,q',H27,⟨e27,p27,fun j hj=>idl_ok ha (fun ad e=> ?_) j (idl_mem (hY j hj))⟩,by dsimp only [qT5_2];simp at hkl |-;omega,fun H29 p29 d30=> ?_⟩
       ·subst e;have:=hr.id;have:=p12'.next;exact fun e=>by omega
       ·rw [sub_drop];have r29:RowAt H29 124 9 a' (acc++[x17]).length q' (cellsT (acc++[x17])):=by
         rw [cellsT_app,List.length_append];show RowAt H29 124 9 a' (acc.length+1) q' (cellsT acc++(x17.cs++[]));rw [List.append_nil];exact r27.on p29.next (fun ad e=>by subst e;exact p29.keep _ r27.id (by simpa using (hid _ rfl).2)) (fun ad e _=>by subst e;exact (p29.keep _ r27.id (by simpa using (hid _ rfl).2)).get)
        have hlk:((c::t).drop k).length+k=(c::t).length:=by rw [List.length_drop];omega
        have:=ih ((c::t).drop k) (acc++[x17]) a' q' d30 (.func (.func 148) [] []) H29 (by omega) (by omega) (by rw [List.length_append];simp only [List.length_singleton];omega) r29 hid o (by rw [ho,lexF_some hbl h hk0,resO_cons]);rw [List.length_append] at this;exact this
   ·refine g18c_0 _ H0 d a acc.length q i3 s v H (fun _=>⟨_,s73 s H,Ret.use ⟨_,rfl⟩,fun s7 H8 ⟨e7,p8⟩ H9 p9=>⟨fun h7=> ?_,fun h7 hI9=> ?_⟩⟩) hin hI
    ·rw [hd] at e7;cases e7;cases h7
    ·rw [hd] at e7;cases e7;have p89:PresX [i3] H H9:=p8.mono (fun i hi=>by cases hi) |>.trans p9 (fun i hi=>.inl hi);have c74:=s74 i3 c t v H9 (hI9.slot 0 _ rfl).1 (hI9.slot 0 _ rfl).2.1;rw [hf] at c74;refine ⟨_,c74,fun w H' ⟨k1,k2,k3⟩=>⟨k1,by rw [k2];exact rfl,_,⟨c::t,rfl⟩,rfl,k3⟩,fun y11 H12 ⟨p12,_,g12⟩ g12' i13 H14 h14 p14=> ?_⟩;rw [g12'] at g12;simp only [Option.some.injEq,Slot.obj,LObj.cells.injEq,List.cons.injEq,LV.str.injEq,and_true] at g12;obtain ⟨rfl,_⟩:=g12;have hcall:=st_call c t (by omega) H14;rw [hf] at hcall;refine ⟨rfl,fun _=>⟨_,hcall,Ret.use (tokL_sh _),fun x17 n18 H19 ⟨e17,p19⟩ H21 p21=>⟨fun hn hI=>lex_bad ?_ hI.pres,fun hn H23 e23 hI23=> ?_⟩⟩⟩
     ·rw [ho];have h0:n18=0:=by simpa using hn
      rcases tok_inv e17 with ⟨h,_⟩ |⟨k,h,hk⟩
      ·rw [lexF_none hbl h];rfl
      ·have:k=0:=by omega
       subst this;rw [lexF_zero hbl h];rfl
     ·have h0:n18≠0:=by simpa using hn
      rcases tok_inv e17 with ⟨_,h⟩ |⟨k,h,hk⟩
      ·exact absurd h h0
      ·subst hk;have hk0:k≠0:=by omega
       have hkl:=one_le h;have p12':PresX [i3] H H12:=p89.trans p12 (fun i hi=>.inl hi);have p19':PresX [i3] H H19:=(p12'.trans0 p14).trans0 p19;have p21':PresX [i3] H H21:=p19'.trans p21 (fun i hi=>by rw [List.mem_singleton.1 hi];exact .inr (Nat.le_trans p12'.next h14));have p23':PresX [i3] H H23:=p21'.trans0 (by rw [e23];exact .push _ _ _);have r23:RowAt H23 124 9 a acc.length q (cellsT acc):=hr.on p23'.next (fun ad e=>by subst e;exact p23'.keep _ hr.id (by simpa using (ha _ rfl).2)) (fun ad e _=>by subst e;exact (p23'.keep _ hr.id (by simpa using (ha _ rfl).2)).get);obtain ⟨Y,a',q',H27,e27,p27,r27,hY,ha'⟩:=r23.append rowTk (x:=.slice (some ⟨H21.next,9,0⟩) 1 (.exact 1)) (m:=1) (new:=x17.cs) rfl (push_load e23) rfl (tok_cells _) (by omega);have hid:∀ad,a'=some ad->H0.next<=ad.id/\ad.id≠i3:=by
        intro ad e;rcases ha' ad e with ⟨ad',e1,e2⟩ |e1
        ·rw [<-e2];exact ha ad' e1
        ·have:=p23'.next;have:=hI.pres.next;exact ⟨by omega,by omega⟩
       refine ⟨Y,a',acc.length+1,q',H27,⟨e27,p27,fun j hj=>idl_ok ha (fun ad e=> ?_) j (idl_mem (hY j hj))⟩,by dsimp only [qT5_2];simp at hkl |-;omega,fun H29 p29 d30=> ?_⟩
       ·subst e;have:=hr.id;have:=p12'.next;exact fun e=>by omega
       ·rw [sub_drop];have r29:RowAt H29 124 9 a' (acc++[x17]).length q' (cellsT (acc++[x17])):=by
         rw [cellsT_app,List.length_append];show RowAt H29 124 9 a' (acc.length+1) q' (cellsT acc++(x17.cs++[]));rw [List.append_nil];exact r27.on p29.next (fun ad e=>by subst e;exact p29.keep _ r27.id (by simpa using (hid _ rfl).2)) (fun ad e _=>by subst e;exact (p29.keep _ r27.id (by simpa using (hid _ rfl).2)).get)
        have hlk:((c::t).drop k).length+k=(c::t).length:=by rw [List.length_drop];omega
        have:=ih ((c::t).drop k) (acc++[x17]) a' q' d30 (.func (.func 149) [] []) H29 (by omega) (by omega) (by rw [List.length_append];simp only [List.length_singleton];omega) r29 hid o (by rw [ho,lexF_some hbl h hk0,resO_cons]);rw [List.length_append] at this;exact this
   ·refine g18d_0 _ H0 d a acc.length q i3 s v H (fun _=>⟨_,s73 s H,Ret.use ⟨_,rfl⟩,fun s7 H8 ⟨e7,p8⟩ H9 p9=>⟨fun h7=> ?_,fun h7 hI9=> ?_⟩⟩) hin hI
    ·rw [hd] at e7;cases e7;cases h7
    ·rw [hd] at e7;cases e7;have p89:PresX [i3] H H9:=p8.mono (fun i hi=>by cases hi) |>.trans p9 (fun i hi=>.inl hi);have c74:=s74 i3 c t v H9 (hI9.slot 0 _ rfl).1 (hI9.slot 0 _ rfl).2.1;rw [hf] at c74;refine ⟨_,c74,fun w H' ⟨k1,k2,k3⟩=>⟨k1,by rw [k2];exact rfl,_,⟨c::t,rfl⟩,rfl,k3⟩,fun y11 H12 ⟨p12,_,g12⟩ g12' i13 H14 h14 p14=> ?_⟩;rw [g12'] at g12;simp only [Option.some.injEq,Slot.obj,LObj.cells.injEq,List.cons.injEq,LV.str.injEq,and_true] at g12;obtain ⟨rfl,_⟩:=g12;have hcall:=st_call c t (by omega) H14;rw [hf] at hcall;refine ⟨rfl,fun _=>⟨_,hcall,Ret.use (tokL_sh _),fun x17 n18 H19 ⟨e17,p19⟩ H21 p21=>⟨fun hn hI=>lex_bad ?_ hI.pres,fun hn H23 e23 hI23=> ?_⟩⟩⟩
     ·rw [ho];have h0:n18=0:=by simpa using hn
      rcases tok_inv e17 with ⟨h,_⟩ |⟨k,h,hk⟩
      ·rw [lexF_none hbl h];rfl
      ·have:k=0:=by omega
       subst this;rw [lexF_zero hbl h];rfl
     ·have h0:n18≠0:=by simpa using hn
      rcases tok_inv e17 with ⟨_,h⟩ |⟨k,h,hk⟩
      ·exact absurd h h0
      ·subst hk;have hk0:k≠0:=by omega
       have hkl:=one_le h;have p12':PresX [i3] H H12:=p89.trans p12 (fun i hi=>.inl hi);have p19':PresX [i3] H H19:=(p12'.trans0 p14).trans0 p19;have p21':PresX [i3] H H21:=p19'.trans p21 (fun i hi=>by rw [List.mem_singleton.1 hi];exact .inr (Nat.le_trans p12'.next h14));have p23':PresX [i3] H H23:=p21'.trans0 (by rw [e23];exact .push _ _ _);have r23:RowAt H23 124 9 a acc.length q (cellsT acc):=hr.on p23'.next (fun ad e=>by subst e;exact p23'.keep _ hr.id (by simpa using (ha _ rfl).2)) (fun ad e _=>by subst e;exact (p23'.keep _ hr.id (by simpa using (ha _ rfl).2)).get);obtain ⟨Y,a',q',H27,e27,p27,r27,hY,ha'⟩:=r23.append rowTk (x:=.slice (some ⟨H21.next,9,0⟩) 1 (.exact 1)) (m:=1) (new:=x17.cs) rfl (push_load e23) rfl (tok_cells _) (by omega);have hid:∀ad,a'=some ad->H0.next<=ad.id/\ad.id≠i3:=by
        intro ad e;rcases ha' ad e with ⟨ad',e1,e2⟩ |e1
        ·rw [<-e2];exact ha ad' e1
        ·have:=p23'.next;have:=hI.pres.next;exact ⟨by omega,by omega⟩
       refine ⟨Y,a',acc.length+1,q',H27,⟨e27,p27,fun j hj=>idl_ok ha (fun ad e=> ?_) j (idl_mem (hY j hj))⟩,by dsimp only [qT5_2];simp at hkl |-;omega,fun H29 p29 d30=> ?_⟩
       ·subst e;have:=hr.id;have:=p12'.next;exact fun e=>by omega
       ·rw [sub_drop];have r29:RowAt H29 124 9 a' (acc++[x17]).length q' (cellsT (acc++[x17])):=by
         rw [cellsT_app,List.length_append];show RowAt H29 124 9 a' (acc.length+1) q' (cellsT acc++(x17.cs++[]));rw [List.append_nil];exact r27.on p29.next (fun ad e=>by subst e;exact p29.keep _ r27.id (by simpa using (hid _ rfl).2)) (fun ad e _=>by subst e;exact (p29.keep _ r27.id (by simpa using (hid _ rfl).2)).get)
        have hlk:((c::t).drop k).length+k=(c::t).length:=by rw [List.length_drop];omega
        have:=ih ((c::t).drop k) (acc++[x17]) a' q' d30 (.func (.func 151) [] []) H29 (by omega) (by omega) (by rw [List.length_append];simp only [List.length_singleton];omega) r29 hid o (by rw [ho,lexF_some hbl h hk0,resO_cons]);rw [List.length_append] at this;exact this
   ·refine g18e_0 _ H0 d a acc.length q i3 s v H (fun _=>⟨_,s73 s H,Ret.use ⟨_,rfl⟩,fun s7 H8 ⟨e7,p8⟩ H9 p9=>⟨fun h7=> ?_,fun h7 hI9=> ?_⟩⟩) hin hI
    ·rw [hd] at e7;cases e7;cases h7
    ·rw [hd] at e7;cases e7;have p89:PresX [i3] H H9:=p8.mono (fun i hi=>by cases hi) |>.trans p9 (fun i hi=>.inl hi);have c74:=s74 i3 c t v H9 (hI9.slot 0 _ rfl).1 (hI9.slot 0 _ rfl).2.1;rw [hf] at c74;refine ⟨_,c74,fun w H' ⟨k1,k2,k3⟩=>⟨k1,by rw [k2];exact rfl,_,⟨c::t,rfl⟩,rfl,k3⟩,fun y11 H12 ⟨p12,_,g12⟩ g12' i13 H14 h14 p14=> ?_⟩;rw [g12'] at g12;simp only [Option.some.injEq,Slot.obj,LObj.cells.injEq,List.cons.injEq,LV.str.injEq,and_true] at g12;obtain ⟨rfl,_⟩:=g12;have hcall:=st_call c t (by omega) H14;rw [hf] at hcall;refine ⟨rfl,fun _=>⟨_,hcall,Ret.use (tokL_sh _),fun x17 n18 H19 ⟨e17,p19⟩ H21 p21=>⟨fun hn hI=>lex_bad ?_ hI.pres,fun hn H23 e23 hI23=> ?_⟩⟩⟩
     ·rw [ho];have h0:n18=0:=by simpa using hn
      rcases tok_inv e17 with ⟨h,_⟩ |⟨k,h,hk⟩
      ·rw [lexF_none hbl h];rfl
      ·have:k=0:=by omega
       subst this;rw [lexF_zero hbl h];rfl
     ·have h0:n18≠0:=by simpa using hn
      rcases tok_inv e17 with ⟨_,h⟩ |⟨k,h,hk⟩
      ·exact absurd h h0
      ·subst hk;have hk0:k≠0:=by omega
       have hkl:=one_le h;have p12':PresX [i3] H H12:=p89.trans p12 (fun i hi=>.inl hi);have p19':PresX [i3] H H19:=(p12'.trans0 p14).trans0 p19;have p21':PresX [i3] H H21:=p19'.trans p21 (fun i hi=>by rw [List.mem_singleton.1 hi];exact .inr (Nat.le_trans p12'.next h14));have p23':PresX [i3] H H23:=p21'.trans0 (by rw [e23];exact .push _ _ _);have r23:RowAt H23 124 9 a acc.length q (cellsT acc):=hr.on p23'.next (fun ad e=>by subst e;exact p23'.keep _ hr.id (by simpa using (ha _ rfl).2)) (fun ad e _=>by subst e;exact (p23'.keep _ hr.id (by simpa using (ha _ rfl).2)).get);obtain ⟨Y,a',q',H27,e27,p27,r27,hY,ha'⟩:=r23.append rowTk (x:=.slice (some ⟨H21.next,9,0⟩) 1 (.exact 1)) (m:=1) (new:=x17.cs) rfl (push_load e23) rfl (tok_cells _) (by omega);have hid:∀ad,a'=some ad->H0.next<=ad.id/\ad.id≠i3:=by
        intro ad e;rcases ha' ad e with ⟨ad',e1,e2⟩ |e1
        ·rw [<-e2];exact ha ad' e1
        ·have:=p23'.next;have:=hI.pres.next;exact ⟨by omega,by omega⟩
       refine ⟨Y,a',acc.length+1,q',H27,⟨e27,p27,fun j hj=>idl_ok ha (fun ad e=> ?_) j (idl_mem (hY j hj))⟩,by dsimp only [qT5_2];simp at hkl |-;omega,fun H29 p29 d30=> ?_⟩
       ·subst e;have:=hr.id;have:=p12'.next;exact fun e=>by omega
       ·rw [sub_drop];have r29:RowAt H29 124 9 a' (acc++[x17]).length q' (cellsT (acc++[x17])):=by
         rw [cellsT_app,List.length_append];show RowAt H29 124 9 a' (acc.length+1) q' (cellsT acc++(x17.cs++[]));rw [List.append_nil];exact r27.on p29.next (fun ad e=>by subst e;exact p29.keep _ r27.id (by simpa using (hid _ rfl).2)) (fun ad e _=>by subst e;exact (p29.keep _ r27.id (by simpa using (hid _ rfl).2)).get)
        have hlk:((c::t).drop k).length+k=(c::t).length:=by rw [List.length_drop];omega
        have:=ih ((c::t).drop k) (acc++[x17]) a' q' d30 (.func (.func 152) [] []) H29 (by omega) (by omega) (by rw [List.length_append];simp only [List.length_singleton];omega) r29 hid o (by rw [ho,lexF_some hbl h hk0,resO_cons]);rw [List.length_append] at this;exact this
theorem s18(s:List UInt8)(H:LHeap):CallL cfg 18 [.str s] H (LexS 124 (lexO s) H):=by
 refine e18a _ s H ⟨fun h hI=> ?_,fun h i1 H2 h1 p2 d3=> ?_⟩
 ·have:s.length>255:=by simp at h;omega
  have:lexO s=([],3):=by unfold lexO;rw [if_pos this]
  rw [this];exact ⟨hI.pres,none,.exact 0,rfl,.nil⟩
 ·have hl:¬s.length>255:=by simp at h;omega
  have:lexO s=resO [] (lexF s):=by unfold lexO;rw [if_neg hl]
  rw [this];exact loop18 H i1 (s.length+1) s [] none (.exact 0) d3 .nilFunc H2 (by omega) (by omega) (by simp;omega) .nil (fun _ e=>by cases e) _ rfl
theorem row_at{H:LHeap}{ty:TypeId}{a:Option LAddr}{q:Cap}{l:List TokC}(h:RowAt H ty 9 a l.length q (cellsT l))(h1:isAggT cfg.P ty=some true)(h2:sizeOfT cfg.P ty=some 9){i:Nat}{x:TokC}(hx:l[i]? =some x):
  a.isSome=true/\loadT cfg.P H ty ⟨(adr a).id,(adr a).ver,(adr a).off+i*9⟩=some x.lv:=by
 have hi:=(List.getElem?_eq_some_iff.1 hx).1;obtain ⟨g1,_,g3⟩:=h.load hi;rw [cellsT_drop l i x hx] at g3;exact ⟨g1,load_agg h1 h2 g3⟩
theorem lexF_len:∀(m:Nat) (s:List UInt8) (l:List TokC),s.length<m->lexF s=some l->l.length<=s.length
 |0,s,l,h,_=>by omega
 |m+1,[],l,h,e=>by rw [lexF_nil] at e;cases e;simp
 |m+1,c::t,l,h,e=>by
  have hl:(c::t).length=t.length+1:=rfl;cases hb:blankB c with
  |true=>
   rw [lexF_blank hb] at e;have:=lexF_len m t l (by omega) e;omega
  |false=>
   cases ho:oneF (c::t) with
   |none=>rw [lexF_none hb ho] at e;cases e
   |some r=>
    obtain ⟨x,k⟩:=r;by_cases hk:k=0
    ·subst hk;rw [lexF_zero hb ho] at e;cases e
    ·rw [lexF_some hb ho hk] at e;cases hd:lexF ((c::t).drop k) with
     |none=>rw [hd] at e;cases e
     |some l'=>
      rw [hd] at e;cases e;have hlk:((c::t).drop k).length=(c::t).length-k:=List.length_drop ..;have:=lexF_len m ((c::t).drop k) l' (by omega) hd;simp only [List.length_cons] at this hlk |-;omega
theorem lexO_len(s:List UInt8):(lexO s).1.length<=255:=by
 unfold lexO;split
 ·simp
 ·cases h:lexF s with
  |none=>simp [resO]
  |some l=>
   have:=lexF_len _ s l (Nat.lt_succ_self _) h;simp [resO];omega
mutual
def bareN:Nd->Nd
 | .mk x l=>.mk x.bare (bareNs l)
def bareNs:List Nd->List Nd
 |[]=>[]
 |n::l=>bareN n::bareNs l
end
def nilNp:NdC:=⟨0,[],0,0,[],[],[],0,0,false,false,[],[],0,0,false,false,none,0,.exact 0⟩
def constNp(k n:Int)(s:List UInt8):Nd:=.mk { nilNp with kind:=1,valueKind:=k,valueN:=n,valueS:=s } []
def refNp(t:TokC):NdC:={ nilNp with kind:=2,refBook:=t.refBook,refSheet:=t.refSheet,refRow:=t.refRow,refCol:=t.refCol,refFixRow:=t.refFixRow,refFixCol:=t.refFixCol }
def areaNp(t u:TokC):NdC:={ refNp t with kind:=3,toBook:=u.refBook,toSheet:=u.refSheet,toRow:=u.refRow,toCol:=u.refCol,toFixRow:=u.refFixRow,toFixCol:=u.refFixCol }
def nameNp(t:TokC):NdC:={ refNp t with kind:=4,s:=t.s }
def unNp(s:List UInt8)(n:Nd):Nd:=.mk { nilNp with kind:=5,s:=s } [n]
def binNp(s:List UInt8)(n m:Nd):Nd:=.mk { nilNp with kind:=6,s:=s } [n,m]
def callNp(s:List UInt8)(l:List Nd):Nd:=.mk { nilNp with kind:=7,s:=s } l
def bindFp(s:List UInt8):Int:=
 if s=[61]\/s=[60,62]\/s=[60]\/s=[60,61]\/s=[62]\/s=[62,61] then 1
 else if s=[38] then 2
 else if s=[43]\/s=[45] then 3
 else if s=[42]\/s=[47] then 4
 else if s=[94] then 5
 else 0
theorem bindF_range(s:List UInt8):0<=bindFp s/\bindFp s<=5:=by
 unfold bindFp
 repeat' split
 all_goals omega
def opM(s:List UInt8):List TokC->Option (List TokC)
 |[]=>none
 |t::r=>if t.kind=5/\t.s=s then some r else none
theorem opM_len{s:List UInt8}{ts r:List TokC}(h:opM s ts=some r):ts.length=r.length+1:=by
 unfold opM at h;split at h
 ·cases h
 ·split at h
  ·cases h;rfl
  ·cases h
def pctM:Nd->List TokC->Nd×List TokC
 |n,[]=>(n,[])
 |n,t::r=>if t.kind=5/\t.s=[37] then pctM (unNp [37] n) r else (n,t::r)
theorem pctM_len:∀(r:List TokC) (n:Nd),(pctM n r).2.length<=r.length
 |[],n=>by simp [pctM]
 |t::r,n=>by
  unfold pctM;split
  ·have:=pctM_len r (unNp [37] n);simp only [List.length_cons];omega
  ·exact Nat.le_refl _
def upL(s:List UInt8):List UInt8:=s.map upB
abbrev Res:=Option (List Nd×List TokC)
def areaM(t:TokC)(r:List TokC):Res:=
 match opM [58] r with
 |none=>some ([.mk (refNp t) []],r)
 |some r'=>match r' with
  |[]=>none
  |u::r''=>if u.kind≠3\/u.refSheet≠[] then none else some ([.mk (areaNp t u) []],r'')
def aloneM(t:TokC)(r:List TokC):Option Res:=
 if t.kind=1 then some (some ([constNp 1 t.n []],r))
 else if t.kind=2 then some (some ([constNp 2 0 t.s],r))
 else if t.kind=6 then some (some ([constNp 4 t.n []],r))
 else if t.kind=3 then some (areaM t r)
 else if t.kind=4 then
  match (if t.refBook=[] then opM [40] r else none) with
  |some r1=>match opM [41] r1 with
   |some r2=>some (some ([callNp (upL t.s) []],r2))
   |none=>none
  |none=>
   if upL t.s=[84,82,85,69] then some (some ([constNp 3 1 []],r))
   else if upL t.s=[70,65,76,83,69] then some (some ([constNp 3 0 []],r))
   else some (some ([.mk (nameNp t) []],r))
 else some none
def shutM(up:List UInt8)(l:List Nd)(r:List TokC):Res:=
 match opM [41] r with
 |none=>none
 |some r'=>if 16<l.length then none else some ([callNp up l],r')
inductive PQ where
 |level (k:Int) (ts:List TokC)
 |loop (k:Int) (n:Nd) (ts:List TokC)
 |ahead (ts:List TokC)
 |atom (ts:List TokC)
 |args (ts:List TokC) (acc:List Nd)
def stopM(k:Int):List TokC->Prop
 |[]=>True
 |t::_=>t.kind=5->bindFp t.s=0\/bindFp t.s<k
inductive PR:PQ->Res->Prop
 |level0 {k:Int} {ts:List TokC} (h:PR (.ahead ts) none):PR (.level k ts) none
 |level {k:Int} {ts r:List TokC} {n:Nd} {o:Res} (h:PR (.ahead ts) (some ([n],r))) (h':PR (.loop k n r) o):PR (.level k ts) o
 |stop {k:Int} {n:Nd} {ts:List TokC} (h:stopM k ts):PR (.loop k n ts) (some ([n],ts))
 |loop0 {k:Int} {n:Nd} {t:TokC} {r:List TokC} (h1:t.kind=5) (h2:bindFp t.s≠0) (h3:k<=bindFp t.s) (h:PR (.level (bindFp t.s+1) r) none):PR (.loop k n (t::r)) none
 |loop {k:Int} {n m:Nd} {t:TokC} {r r':List TokC} {o:Res} (h1:t.kind=5) (h2:bindFp t.s≠0) (h3:k<=bindFp t.s) (h:PR (.level (bindFp t.s+1) r) (some ([m],r'))) (h':PR (.loop k (binNp t.s n m) r') o):PR (.loop k n (t::r)) o
 |minus0 {ts r:List TokC} (h:opM [45] ts=some r) (h':PR (.ahead r) none):PR (.ahead ts) none
 |minus {ts r r':List TokC} {n:Nd} (h:opM [45] ts=some r) (h':PR (.ahead r) (some ([n],r'))):PR (.ahead ts) (some ([unNp [45] n],r'))
 |atom0 {ts:List TokC} (h:opM [45] ts=none) (h':PR (.atom ts) none):PR (.ahead ts) none
 |atom {ts r:List TokC} {n:Nd} (h:opM [45] ts=none) (h':PR (.atom ts) (some ([n],r))):PR (.ahead ts) (some ([(pctM n r).1],(pctM n r).2))
 |paren0 {ts r:List TokC} (h:opM [40] ts=some r) (h':PR (.level 1 r) none):PR (.atom ts) none
 |paren1 {ts r r':List TokC} {n:Nd} (h:opM [40] ts=some r) (h':PR (.level 1 r) (some ([n],r'))) (h2:opM [41] r'=none):PR (.atom ts) none
 |paren {ts r r' r2:List TokC} {n:Nd} (h:opM [40] ts=some r) (h':PR (.level 1 r) (some ([n],r'))) (h2:opM [41] r'=some r2):PR (.atom ts) (some ([n],r2))
 |empty:PR (.atom []) none
 |alone {t:TokC} {r:List TokC} {o:Res} (h:opM [40] (t::r)=none) (h':aloneM t r=some o):PR (.atom (t::r)) o
 |call0 {t:TokC} {r r1:List TokC} (h:opM [40] (t::r)=none) (h1:aloneM t r=none) (h2:opM [40] r=some r1) (h':PR (.args r1 []) none):PR (.atom (t::r)) none
 |call {t:TokC} {r r1 r2:List TokC} {l:List Nd} (h:opM [40] (t::r)=none) (h1:aloneM t r=none) (h2:opM [40] r=some r1) (h':PR (.args r1 []) (some (l,r2))):PR (.atom (t::r)) (shutM (upL t.s) l r2)
 |args0 {ts:List TokC} {acc:List Nd} (h:PR (.level 1 ts) none):PR (.args ts acc) none
 |args1 {ts r:List TokC} {acc:List Nd} {n:Nd} (h:PR (.level 1 ts) (some ([n],r))) (h':opM [44] r=none):PR (.args ts acc) (some (acc++[n],r))
 |args {ts r r':List TokC} {acc:List Nd} {n:Nd} {o:Res} (h:PR (.level 1 ts) (some ([n],r))) (h':opM [44] r=some r') (h2:PR (.args r' (acc++[n])) o):PR (.args ts acc) o
theorem PR.det {q : PQ} {o : Res} (h : PR q o) : ∀ {o' : Res}, PR q o' → o = o' := by
  induction h with
  | level0 h ih =>
    intro o' k
    cases k with
    | level0 _ => rfl
    | level a b => cases ih a
  | level h h' ih ih' =>
    intro o' k
    cases k with
    | level0 a => cases ih a
    | level a b =>
      have := ih a
      simp only [Option.some.injEq, Prod.mk.injEq, List.cons.injEq, and_true] at this
      obtain ⟨rfl, rfl⟩ := this
      exact ih' b
  | stop h =>
    intro o' k
    cases k with
    | stop _ => rfl
    | loop0 h1 h2 h3 _ => rcases h h1 with e | e
                          · exact absurd e h2
                          · omega
    | loop h1 h2 h3 _ _ => rcases h h1 with e | e
                           · exact absurd e h2
                           · omega
  | loop0 h1 h2 h3 h ih =>
    intro o' k
    cases k with
    | stop a => rcases a h1 with e | e
                · exact absurd e h2
                · omega
    | loop0 _ _ _ _ => rfl
    | loop _ _ _ a _ => cases ih a
  | loop h1 h2 h3 h h' ih ih' =>
    intro o' k
    cases k with
    | stop a => rcases a h1 with e | e
                · exact absurd e h2
                · omega
    | loop0 _ _ _ a => cases ih a
    | loop _ _ _ a b =>
      have := ih a
      simp only [Option.some.injEq, Prod.mk.injEq, List.cons.injEq, and_true] at this
      obtain ⟨rfl, rfl⟩ := this
      exact ih' b
  | minus0 h h' ih =>
    intro o' k
    cases k with
    | minus0 _ _ => rfl
    | minus a b => cases h.symm.trans a; cases ih b
    | atom0 a _ => cases h.symm.trans a
    | atom a _ => cases h.symm.trans a
  | minus h h' ih =>
    intro o' k
    cases k with
    | minus0 a b => cases h.symm.trans a; cases ih b
    | minus a b =>
      cases h.symm.trans a
      have := ih b
      simp only [Option.some.injEq, Prod.mk.injEq, List.cons.injEq, and_true] at this
      obtain ⟨rfl, rfl⟩ := this
      rfl
    | atom0 a _ => cases h.symm.trans a
    | atom a _ => cases h.symm.trans a
  | atom0 h h' ih =>
    intro o' k
    cases k with
    | minus0 a _ => cases h.symm.trans a
    | minus a _ => cases h.symm.trans a
    | atom0 _ _ => rfl
    | atom _ b => cases ih b
  | atom h h' ih =>
    intro o' k
    cases k with
    | minus0 a _ => cases h.symm.trans a
    | minus a _ => cases h.symm.trans a
    | atom0 _ b => cases ih b
    | atom _ b =>
      have := ih b
      simp only [Option.some.injEq, Prod.mk.injEq, List.cons.injEq, and_true] at this
      obtain ⟨rfl, rfl⟩ := this
      rfl
  | paren0 h h' ih =>
    intro o' k
    cases k with
    | paren0 _ _ => rfl
    | paren1 _ _ _ => rfl
    | paren a b _ => cases h.symm.trans a; cases ih b
    | empty => rfl
    | alone a _ => cases h.symm.trans a
    | call0 a _ _ _ => cases h.symm.trans a
    | call a _ _ _ => cases h.symm.trans a
  | paren1 h h' h2 ih =>
    intro o' k
    cases k with
    | paren0 _ _ => rfl
    | paren1 _ _ _ => rfl
    | paren a b c =>
      cases h.symm.trans a
      have := ih b
      simp only [Option.some.injEq, Prod.mk.injEq, List.cons.injEq, and_true] at this
      obtain ⟨rfl, rfl⟩ := this
      cases h2.symm.trans c
    | empty => rfl
    | alone a _ => cases h.symm.trans a
    | call0 a _ _ _ => cases h.symm.trans a
    | call a _ _ _ => cases h.symm.trans a
  | paren h h' h2 ih =>
    intro o' k
    cases k with
    | paren0 a b => cases h.symm.trans a; cases ih b
    | paren1 a b c =>
      cases h.symm.trans a
      have := ih b
      simp only [Option.some.injEq, Prod.mk.injEq, List.cons.injEq, and_true] at this
      obtain ⟨rfl, rfl⟩ := this
      cases h2.symm.trans c
    | paren a b c =>
      cases h.symm.trans a
      have := ih b
      simp only [Option.some.injEq, Prod.mk.injEq, List.cons.injEq, and_true] at this
      obtain ⟨rfl, rfl⟩ := this
      cases h2.symm.trans c; rfl
    | empty => cases h
    | alone a _ => cases h.symm.trans a
    | call0 a _ _ _ => cases h.symm.trans a
    | call a _ _ _ => cases h.symm.trans a
  | empty =>
    intro o' k
    cases k with
    | paren0 a _ => cases a
    | paren1 a _ _ => cases a
    | paren a _ _ => cases a
    | empty => rfl
  | alone h h' =>
    intro o' k
    cases k with
    | paren0 a _ => cases h.symm.trans a
    | paren1 a _ _ => cases h.symm.trans a
    | paren a _ _ => cases h.symm.trans a
    | alone _ b => cases h'.symm.trans b; rfl
    | call0 _ b _ _ => cases h'.symm.trans b
    | call _ b _ _ => cases h'.symm.trans b
  | call0 h h1 h2 h' ih =>
    intro o' k
    cases k with
    | paren0 a _ => cases h.symm.trans a
    | paren1 a _ _ => cases h.symm.trans a
    | paren a _ _ => cases h.symm.trans a
    | alone _ b => cases h1.symm.trans b
    | call0 _ _ _ _ => rfl
    | call _ _ b c => cases h2.symm.trans b; cases ih c
  | call h h1 h2 h' ih =>
    intro o' k
    cases k with
    | paren0 a _ => cases h.symm.trans a
    | paren1 a _ _ => cases h.symm.trans a
    | paren a _ _ => cases h.symm.trans a
    | alone _ b => cases h1.symm.trans b
    | call0 _ _ b c => cases h2.symm.trans b; cases ih c
    | call _ _ b c =>
      cases h2.symm.trans b
      have := ih c
      simp only [Option.some.injEq, Prod.mk.injEq] at this
      obtain ⟨rfl, rfl⟩ := this
      rfl
  | args0 h ih =>
    intro o' k
    cases k with
    | args0 _ => rfl
    | args1 a _ => cases ih a
    | args a _ _ => cases ih a
  | args1 h h' ih =>
    intro o' k
    cases k with
    | args0 a => cases ih a
    | args1 a b =>
      have := ih a
      simp only [Option.some.injEq, Prod.mk.injEq, List.cons.injEq, and_true] at this
      obtain ⟨rfl, rfl⟩ := this
      rfl
    | args a b _ =>
      have := ih a
      simp only [Option.some.injEq, Prod.mk.injEq, List.cons.injEq, and_true] at this
      obtain ⟨rfl, rfl⟩ := this
      cases h'.symm.trans b
  | args h h' h2 ih ih2 =>
    intro o' k
    cases k with
    | args0 a => cases ih a
    | args1 a b =>
      have := ih a
      simp only [Option.some.injEq, Prod.mk.injEq, List.cons.injEq, and_true] at this
      obtain ⟨rfl, rfl⟩ := this
      cases h'.symm.trans b
    | args a b c =>
      have := ih a
      simp only [Option.some.injEq, Prod.mk.injEq, List.cons.injEq, and_true] at this
      obtain ⟨rfl, rfl⟩ := this
      cases h'.symm.trans b
      exact ih2 c
inductive DQ where
 |bin (k:Int) (ts:List TokC)
 |loop (k:Int) (n:Nd) (ts:List TokC)
 |un (ts:List TokC)
 |plain (ts:List TokC)
 |args (ts:List TokC) (acc:List Nd)
def justM(k:Int):List TokC->Prop
 |[]=>False
 |t::_=>t.kind=5/\bindFp t.s=k
inductive PD:DQ->Res->Prop
 |un {ts:List TokC} {o:Res} (h:PD (.un ts) o):PD (.bin 6 ts) o
 |bin0 {k:Int} {ts:List TokC} (hk:1<=k/\k<=5) (h:PD (.bin (k+1) ts) none):PD (.bin k ts) none
 |bin {k:Int} {ts r:List TokC} {n:Nd} {o:Res} (hk:1<=k/\k<=5) (h:PD (.bin (k+1) ts) (some ([n],r))) (h':PD (.loop k n r) o):PD (.bin k ts) o
 |stop {k:Int} {n:Nd} {ts:List TokC} (h:¬justM k ts):PD (.loop k n ts) (some ([n],ts))
 |loop0 {k:Int} {n:Nd} {t:TokC} {r:List TokC} (h1:t.kind=5) (h2:bindFp t.s=k) (h:PD (.bin (k+1) r) none):PD (.loop k n (t::r)) none
 |loop {k:Int} {n m:Nd} {t:TokC} {r r':List TokC} {o:Res} (h1:t.kind=5) (h2:bindFp t.s=k) (h:PD (.bin (k+1) r) (some ([m],r'))) (h':PD (.loop k (binNp t.s n m) r') o):PD (.loop k n (t::r)) o
 |minus0 {ts r:List TokC} (h:opM [45] ts=some r) (h':PD (.un r) none):PD (.un ts) none
 |minus {ts r r':List TokC} {n:Nd} (h:opM [45] ts=some r) (h':PD (.un r) (some ([n],r'))):PD (.un ts) (some ([unNp [45] n],r'))
 |plain0 {ts:List TokC} (h:opM [45] ts=none) (h':PD (.plain ts) none):PD (.un ts) none
 |plain {ts r:List TokC} {n:Nd} (h:opM [45] ts=none) (h':PD (.plain ts) (some ([n],r))):PD (.un ts) (some ([(pctM n r).1],(pctM n r).2))
 |paren0 {ts r:List TokC} (h:opM [40] ts=some r) (h':PD (.bin 1 r) none):PD (.plain ts) none
 |paren1 {ts r r':List TokC} {n:Nd} (h:opM [40] ts=some r) (h':PD (.bin 1 r) (some ([n],r'))) (h2:opM [41] r'=none):PD (.plain ts) none
 |paren {ts r r' r2:List TokC} {n:Nd} (h:opM [40] ts=some r) (h':PD (.bin 1 r) (some ([n],r'))) (h2:opM [41] r'=some r2):PD (.plain ts) (some ([n],r2))
 |empty:PD (.plain []) none
 |alone {t:TokC} {r:List TokC} {o:Res} (h:opM [40] (t::r)=none) (h':aloneM t r=some o):PD (.plain (t::r)) o
 |call0 {t:TokC} {r r1:List TokC} (h:opM [40] (t::r)=none) (h1:aloneM t r=none) (h2:opM [40] r=some r1) (h':PD (.args r1 []) none):PD (.plain (t::r)) none
 |call {t:TokC} {r r1 r2:List TokC} {l:List Nd} (h:opM [40] (t::r)=none) (h1:aloneM t r=none) (h2:opM [40] r=some r1) (h':PD (.args r1 []) (some (l,r2))):PD (.plain (t::r)) (shutM (upL t.s) l r2)
 |args0 {ts:List TokC} {acc:List Nd} (h:PD (.bin 1 ts) none):PD (.args ts acc) none
 |args1 {ts r:List TokC} {acc:List Nd} {n:Nd} (h:PD (.bin 1 ts) (some ([n],r))) (h':opM [44] r=none):PD (.args ts acc) (some (acc++[n],r))
 |args {ts r r':List TokC} {acc:List Nd} {n:Nd} {o:Res} (h:PD (.bin 1 ts) (some ([n],r))) (h':opM [44] r=some r') (h2:PD (.args r' (acc++[n])) o):PD (.args ts acc) o
theorem stopM.up{k j:Int}(h:k<=j):∀{ts:List TokC},stopM k ts->stopM j ts
 |[],_=>trivial
 |t::r,s=>fun h5=>(s h5).imp id fun x=>by omega
theorem PR.ends{q:PQ}{o:Res}(h:PR q o):∀{k:Int} {x:List Nd} {r:List TokC},o=some (x,r)->((∃ts,q=.level k ts)\/∃n ts,q=.loop k n ts)->stopM k r:=by
 induction h with
 |level h h' ih ih'=>
  intro k x r ho hq;rcases hq with ⟨ts,hq⟩ |⟨n,ts,hq⟩
  ·cases hq;exact ih' ho (.inr ⟨_,_,rfl⟩)
  ·cases hq
 |stop h=>
  intro k x r ho hq;rcases hq with ⟨ts,hq⟩ |⟨n,ts,hq⟩
  ·cases hq
  ·cases hq;cases ho;exact h
 |loop h1 h2 h3 h h' ih ih'=>
  intro k x r ho hq;rcases hq with ⟨ts,hq⟩ |⟨n,ts,hq⟩
  ·cases hq
  ·cases hq;exact ih' ho (.inr ⟨_,_,rfl⟩)
 |_=>
  intro k x r ho hq;rcases hq with ⟨ts,hq⟩ |⟨n,ts,hq⟩<;>cases hq<;>cases ho
theorem PR.lower{q:PQ}{o:Res}(h:PR q o):∀{k:Int} {n:Nd} {ts:List TokC},q=.loop (k+1) n ts->(o=none->PR (.loop k n ts) none)/\∀m r o',o=some ([m],r)->PR (.loop k m r) o'->PR (.loop k n ts) o':=by
 induction h with
 |stop h=>
  intro k n ts hq;cases hq;refine ⟨fun h=>(by cases h),fun m r o' ho hr=> ?_⟩;cases ho;exact hr
 |loop0 h1 h2 h3 h ih=>
  intro k n ts hq;cases hq;exact ⟨fun _=>.loop0 h1 h2 (by omega) h,fun m r o' ho=>(by cases ho)⟩
 |loop h1 h2 h3 h h' ih ih'=>
  intro k n ts hq;cases hq;exact ⟨fun ho=>.loop h1 h2 (by omega) h ((ih' rfl).1 ho),fun m r o' ho hr=>.loop h1 h2 (by omega) h ((ih' rfl).2 m r o' ho hr)⟩
 |_=>intro k n ts hq;cases hq
def asPR:DQ->Res->Prop
 | .bin k ts,o=>1<=k->k<=6->PR (.level k ts) o
 | .loop k n ts,o=>1<=k->k<=5->stopM (k+1) ts->PR (.loop k n ts) o
 | .un ts,o=>PR (.ahead ts) o
 | .plain ts,o=>PR (.atom ts) o
 | .args ts acc,o=>PR (.args ts acc) o
theorem PR.one{q:PQ}{x:List Nd}{r:List TokC}(h:PR q (some (x,r))):(∀ts acc,q≠.args ts acc)->∃n,x=[n]:=by
 generalize ho:(some (x,r):Res)=o at h;induction h with
 |level h h' ih ih'=>intro _;exact ih' ho (fun _ _ e=>by cases e)
 |stop h=>intro _;cases ho;exact ⟨_,rfl⟩
 |loop h1 h2 h3 h h' ih ih'=>intro _;exact ih' ho (fun _ _ e=>by cases e)
 |minus h h' ih=>intro _;cases ho;exact ⟨_,rfl⟩
 |atom h h' ih=>intro _;cases ho;exact ⟨_,rfl⟩
 |paren h h' h2 ih=>intro _;cases ho;exact ⟨_,rfl⟩
 |alone h h'=>
  intro _;subst ho;unfold aloneM at h'
  repeat' split at h'
  all_goals first
   |(cases h';exact ⟨_,rfl⟩)
   |(cases h';done)
   |skip
  unfold areaM at h'
  repeat' split at h'
  all_goals first
   |(cases h';exact ⟨_,rfl⟩)
   |(cases h';done)
 |call h h1 h2 h' ih=>
  intro _;unfold shutM at ho
  repeat' split at ho
  all_goals first
   |(cases ho;exact ⟨_,rfl⟩)
   |(cases ho;done)
 |args1=>intro hq;exact absurd rfl (hq _ _)
 |args=>intro hq;exact absurd rfl (hq _ _)
 |_=>cases ho
theorem PD.same{q:DQ}{o:Res}(h:PD q o):asPR q o:=by
 induction h with
 |@un ts o h ih=>
  intro _ _
  match o,ih with
  |none,ih=>exact .level0 ih
  |some (x,r),ih=>
   obtain ⟨n,rfl⟩:=PR.one ih (fun _ _ e=>by cases e);refine .level ih (.stop ?_);cases r with
   |nil=>trivial
   |cons t r=>exact fun _=>.inr (by have:=(bindF_range t.s).2;omega)
 |bin0 hk h ih=>
  intro h1 h2;have:=ih (by omega) (by omega);cases this with
  |level0 a=>exact .level0 a
  |level a b=>exact .level a ((b.lower rfl).1 rfl)
 |bin hk h h' ih ih'=>
  intro h1 h2;have hl:=ih (by omega) (by omega);have hs:=hl.ends rfl (.inl ⟨_,rfl⟩);have hr:=ih' h1 (by omega) hs;cases hl with
  |level a b=>exact .level a ((b.lower rfl).2 _ _ _ rfl hr)
 |@stop k n ts h=>
  intro h1 h2 hs;refine .stop ?_;cases ts with
  |nil=>trivial
  |cons t r=>
   intro h5;rcases hs h5 with e |e
   ·exact .inl e
   ·have:bindFp t.s≠k:=fun e=>h ⟨h5,e⟩;exact .inr (by omega)
 |loop0 h1 h2 h ih=>
  intro k1 k2 _;subst h2;exact .loop0 h1 (by omega) (by omega) (ih (by omega) (by omega))
 |loop h1 h2 h h' ih ih'=>
  intro k1 k2 _;subst h2;have hl:=ih (by omega) (by omega);exact .loop h1 (by omega) (by omega) hl (ih' k1 k2 (hl.ends rfl (.inl ⟨_,rfl⟩)))
 |minus0 h h' ih=>exact .minus0 h ih
 |minus h h' ih=>exact .minus h ih
 |plain0 h h' ih=>exact .atom0 h ih
 |plain h h' ih=>exact .atom h ih
 |paren0 h h' ih=>exact .paren0 h (ih (by omega) (by omega))
 |paren1 h h' h2 ih=>exact .paren1 h (ih (by omega) (by omega)) h2
 |paren h h' h2 ih=>exact .paren h (ih (by omega) (by omega)) h2
 |empty=>exact .empty
 |alone h h'=>exact .alone h h'
 |call0 h h1 h2 h' ih=>exact .call0 h h1 h2 ih
 |call h h1 h2 h' ih=>exact .call h h1 h2 ih
 |args0 h ih=>exact .args0 (ih (by omega) (by omega))
 |args1 h h' ih=>exact .args1 (ih (by omega) (by omega)) h'
 |args h h' h2 ih ih2=>exact .args (ih (by omega) (by omega)) h' ih2
theorem PR.less{q:PQ}{o:Res}(h:PR q o):∀{x:List Nd} {r:List TokC},o=some (x,r)->match q with
  | .level _ ts=>r.length<ts.length
  | .loop _ _ ts=>r.length<=ts.length
  | .ahead ts=>r.length<ts.length
  | .atom ts=>r.length<ts.length
  | .args ts _=>r.length<ts.length:=by
 induction h with
 |level h h' ih ih'=>
  intro x r ho;have a:=ih rfl;have b:=ih' ho;simp only at a b |-;omega
 |stop h=>intro x r ho;cases ho;exact Nat.le_refl _
 |loop h1 h2 h3 h h' ih ih'=>
  intro x r ho;have a:=ih rfl;have b:=ih' ho;simp only [List.length_cons] at a b |-;omega
 |minus h h' ih=>
  intro x r ho;cases ho;have a:=ih rfl;have b:=opM_len h;simp only at a |-;omega
 |atom h h' ih=>
  intro x r ho;cases ho;have a:=ih rfl;have b:=pctM_len;simp only at a |-;exact Nat.lt_of_le_of_lt (b _ _) a
 |paren h h' h2 ih=>
  intro x r ho;cases ho;have a:=ih rfl;have b:=opM_len h;have c:=opM_len h2;simp only at a |-;omega
 |@alone t r o h h'=>
  intro x r' ho;subst ho;simp only [List.length_cons];unfold aloneM at h'
  repeat' split at h'
  all_goals try (cases h';done)
  all_goals try (cases h';omega)
  ·unfold areaM at h'
   repeat' split at h'
   all_goals try (cases h';done)
   all_goals try (cases h';omega)
   rename_i e _;have:=opM_len e;cases h';simp only [List.length_cons] at this;omega
  ·rename_i e _ _ e2;have a:=opM_len e2;split at e
   ·have b:=opM_len e;cases h';omega
   ·cases e
 |call h h1 h2 h' ih=>
  intro x r' ho;have a:=ih rfl;have b:=opM_len h2;unfold shutM at ho;split at ho
  ·cases ho
  ·rename_i e;have c:=opM_len e;split at ho
   ·cases ho
   ·cases ho;simp only [List.length_cons] at a |-;omega
 |args1 h h' ih=>
  intro x r ho;cases ho;exact ih rfl
 |args h h' h2 ih ih2=>
  intro x r ho;have a:=ih rfl;have b:=opM_len h';have c:=ih2 ho;simp only at a c |-;omega
 |_=>intro x r ho;cases ho
def shiftOf(c:ChangeC):ShiftC:=⟨c.shiftAt,c.shiftN,c.shiftMost⟩
def turn(p:PlaceC)(c:ChangeC)(q:LAddr)(b:Bool):TurnC:=
 ⟨p.book,p.sheet,p.row,p.col,c.book,c.sheet,c.drop,c.cols,c.shiftAt,c.shiftN,c.shiftMost,if c.drop=true then .func (.func 216) [] [] else .func (.func 213) [] [.ptr (some q)],if c.drop=true then .func (.func 217) [] [] else .func (.func 214) [] [.ptr (some q)],b⟩
theorem _root_.Go.Lm.PresX.box{X:List Nat}{H H':LHeap}(h:PresX X H H'){s:Slot}(hi:s.id<H.next)(hx:s.id∉X)(hg:H.get s.id=some s.obj):H'.get s.id=some s.obj:=
 (h.keep s.id hi hx).fixed _ hg (by simp [Slot.obj,LObj.fixed])
structure TurnAt (H:LHeap) (i:Nat) (p:PlaceC) (c:ChangeC) (q:LAddr) (b:Bool):Prop where
 lt:i<H.next
 get:H.get i=some (Slot.obj ⟨i,(turn p c q b).cs,194⟩)
 qlt:q.id<H.next
 ne:q.id≠i
 shift:loadT cfg.P H 96 ⟨q.id,q.ver,q.off+4⟩=some (shiftOf c).lv
theorem RefC.lv_inj{a b:RefC}(h:a.lv=b.lv):a=b:=by
 cases a;cases b;simp only [RefC.lv,RefC.cs,LV.agg.injEq,List.cons.injEq,LV.str.injEq,LV.int.injEq,LV.bool.injEq,true_and,and_true] at h;obtain ⟨h1,h2,h3,h4,h5,h6⟩:=h;simp [h1,h2,h3,h4,h5,h6]
theorem TurnAt.on{H H':LHeap}{i:Nat}{p:PlaceC}{c:ChangeC}{q:LAddr}{b b':Bool}(h:TurnAt H i p c q b)(hp:PresX [i] H H')(hg:H'.get i=some (Slot.obj ⟨i,(turn p c q b').cs,194⟩)):TurnAt H' i p c q b':=
 ⟨Nat.lt_of_lt_of_le h.lt hp.next,hg,Nat.lt_of_lt_of_le h.qlt hp.next,h.ne,hp.load (a:=⟨q.id,q.ver,q.off+4⟩) h.qlt (by simpa using h.ne) h.shift⟩
mutual
theorem NdIds.and{P Q:Nat->Prop}:∀{n:Nd},NdIds P n->NdIds Q n->NdIds (fun i=>P i/\Q i) n
 | .mk x args,h,k=>by
  unfold NdIds at h k |-;refine ⟨?_,NdsIds.and h.2 k.2⟩;rcases h.1 with e |e
  ·exact .inl e
  ·rcases k.1 with f |f
   ·exact .inl f
   ·exact .inr ⟨e,f⟩
theorem NdsIds.and{P Q:Nat->Prop}:∀{l:List Nd},NdsIds P l->NdsIds Q l->NdsIds (fun i=>P i/\Q i) l
 |[],_,_=>by unfold NdsIds;trivial
 |n::l,h,k=>by
  unfold NdsIds at h k |-;exact ⟨NdIds.and h.1 k.1,NdsIds.and h.2 k.2⟩
end
theorem NdsIds.all{P:Nat->Prop}:∀{l:List Nd},(∀m∈l,NdIds P m)->NdsIds P l
 |[],_=>by unfold NdsIds;trivial
 |n::l,h=>by
  unfold NdsIds;exact ⟨h n List.mem_cons_self,NdsIds.all fun m hm=>h m (List.mem_cons_of_mem _ hm)⟩
structure Grown (H:LHeap) (B:Nat) (a:Option LAddr) (q:Cap) (ms:List Nd):Prop where
 row:RowAt H 72 18 a ms.length q (cellsOf ms)
 at_:∀m∈ms,NdAt H m
 ids:∀m∈ms,NdIds (fun j=>B<=j/\∀ad,a=some ad->j≠ad.id) m
 low:∀ad,a=some ad->B<=ad.id
theorem Grown.on{H H':LHeap}{B:Nat}{a:Option LAddr}{q:Cap}{ms:List Nd}(h:Grown H B a q ms){Y:List Nat}(p:PresX Y H H')(hY:∀y∈Y,y<B\/H.next<=y):Grown H' B a q ms:=by
 have out:∀j,B<=j->j<H.next->j∉Y:=fun j h1 h2 hm=>by rcases hY j hm with h |h<;>omega
 refine ⟨h.row.on p.next (fun ad e=> ?_) (fun ad e _=> ?_),fun m hm=> ?_,h.ids,h.low⟩
 ·subst e;exact p.keep _ h.row.id (out _ (h.low _ rfl) h.row.id)
 ·subst e;exact (p.keep _ h.row.id (out _ (h.low _ rfl) h.row.id)).get
 ·exact NdAt.onY p (NdIds.mono (fun j hj=>out j hj.1.1 hj.2) (NdIds.and (h.ids m hm) (NdAt.ids (h.at_ m hm)))) (h.at_ m hm)
theorem Grown.more{H:LHeap}{B:Nat}{a:Option LAddr}{q:Cap}{ms:List Nd}(h:Grown H B a q ms){M:Nd}(hM:NdAt H M)(hid:NdIds (fun j=>B<=j/\∀ad,a=some ad->j≠ad.id) M)(hB:B<=H.next){x:LV}(hx:lenL x=some 1)(hf:firstCellsL H 18 1 x=some M.root.cs)
  (hb:ms.length<=1000000000):∃Y a' q' H',appendL cfg.P H [70,70] [.slice a ms.length q,x]=some (.slice a' (ms.length+1) q',H')/\PresX Y H H'/\Grown H' B a' q' (ms++[M])/\(∀i∈Y,∃ad,a=some ad/\ad.id=i):=by
 obtain ⟨Y,a',q',H',h1,h2,h3,h4,h5⟩:=h.row.append rowT hx hf (by rw [ndc_len]) (ndc_cells _) (by omega);have keep:∀m,NdAt H m->NdIds (fun j=>B<=j/\∀ad,a=some ad->j≠ad.id) m->NdAt H' m/\NdIds (fun j=>B<=j/\∀ad,a'=some ad->j≠ad.id) m:=by
  intro m k1 k2;refine ⟨NdAt.onY h2 (NdIds.mono (fun j hj hm=> ?_) k2) k1,NdIds.mono (fun j hj=>⟨hj.1.1,fun ad' e=> ?_⟩) (NdIds.and k2 (NdAt.ids k1))⟩
  ·obtain ⟨ad,e,ei⟩:=h4 j hm;exact hj.2 ad e ei.symm
  ·rcases h5 ad' e with ⟨ad,e2,e3⟩ |e2
   ·rw [<-e3];exact hj.1.2 ad e2
   ·have:=hj.2;omega
 refine ⟨Y,a',q',H',h1,h2,⟨?_,fun m hm=> ?_,fun m hm=> ?_,fun ad' e=> ?_⟩,h4⟩
 ·rw [List.length_append,cellsOf_app];exact h3
 ·rcases List.mem_append.1 hm with hm |hm
  ·exact (keep m (h.at_ m hm) (h.ids m hm)).1
  ·rw [List.mem_singleton.1 hm];exact (keep M hM hid).1
 ·rcases List.mem_append.1 hm with hm |hm
  ·exact (keep m (h.at_ m hm) (h.ids m hm)).2
  ·rw [List.mem_singleton.1 hm];exact (keep M hM hid).2
 ·rcases h5 ad' e with ⟨ad,e2,e3⟩ |e2
  ·rw [<-e3];exact h.low ad e2
  ·omega
theorem load_field{P:Program}{H:LHeap}{t u:TypeId}{a:LAddr}{n k:Nat}{cs:List LV}{v:LV}(h1:isAggT P t=some true)(h2:sizeOfT P t=some n)(h:loadT P H t a=some (.agg cs))(h3:isAggT P u=some false)(hk:cs[k]? =some v):
  loadT P H u ⟨a.id,a.ver,a.off+k⟩=some v:=by
 unfold loadT at h |-;rw [h1] at h;rw [h3];simp only [h2,Option.map_eq_some_iff] at h;obtain ⟨cs',hl,he⟩:=h;cases he;unfold loadN at hl;unfold load1;simp only;split at hl
 ·rename_i c0 e ver minv fz ro wh hg;split at hl
  ·rename_i hb;simp only [Bool.and_eq_true,Nat.ble_eq] at hb;obtain ⟨hl1,rfl⟩:=takeN_some _ _ _ hl;have hk2:k<n:=by
    have:=(List.getElem?_eq_some_iff.1 hk).1;rw [List.length_take] at this;omega
   rw [if_pos (by simp only [Bool.and_eq_true,Nat.ble_eq];omega)];rw [nth_eq];rw [dropN_eq,List.getElem?_take,if_pos hk2,List.getElem?_drop] at hk;exact hk
  ·cases hl
 ·cases hl
def TokOK(x:TokC):Prop:=x.s.length<=255/\1<=x.kind/\x.kind<=6
structure TokAt (H:LHeap) (i:Nat) (ty:TypeId) (a:Option LAddr) (k:Nat) (q:Cap) (ts:List TokC):Prop where
 len:k=ts.length
 small:k<=1000
 cap:(∃m,q=.exact m/\k<=m)\/(q=.free 9/\a.isSome=true)
 tok:∀j x,ts[j]? =some x->a.isSome=true/\(adr a).id<H.next/\(adr a).id<i/\TokOK x/\loadT cfg.P H ty ⟨(adr a).id,(adr a).ver,(adr a).off+j*9⟩=some x.lv
theorem TokAt.on{H H':LHeap}{i:Nat}{ty:TypeId}{a:Option LAddr}{k:Nat}{q:Cap}{ts:List TokC}(h:TokAt H i ty a k q ts){Y:List Nat}(p:PresX Y H H')(hY:∀y∈Y,i<=y):TokAt H' i ty a k q ts:=
 ⟨h.len,h.small,h.cap,fun j x hx=>by
  obtain ⟨h1,h2,h3,h4,h5⟩:=h.tok j x hx;exact ⟨h1,Nat.lt_of_lt_of_le h2 p.next,h3,h4,p.load (a:=⟨(adr a).id,(adr a).ver,(adr a).off+j*9⟩) h2 (fun hm=>by have:=hY _ hm;simp only at this;omega) h5⟩⟩
theorem TokAt.tail{H:LHeap}{i:Nat}{ty sl:TypeId}(hu:cfg.P.underlying sl=some (.slice ty))(hs:sizeOfT cfg.P ty=some 9){a:Option LAddr}{k:Nat}{q:Cap}{t:TokC}{ts:List TokC}(h:TokAt H i ty a k q (t::ts)):
  ∃a' k' q',sliceL cfg.P sl (.slice a k q) (some (.int .i64 1)) none none=some (.slice a' k' q')/\TokAt H i ty a' k' q' ts:=by
 obtain ⟨h1,h2,h3,h4,h5⟩:=h.tok 0 t rfl;have hk:=h.len;rw [List.length_cons] at hk;obtain ⟨ad,rfl⟩:=Option.isSome_iff_exists.1 h1;have rest:∀{q'},((∃m,q'=.exact m/\ts.length<=m)\/(q'=.free 9/\(some (⟨ad.id,ad.ver,ad.off+9⟩:LAddr)).isSome=true))->TokAt H i ty (some ⟨ad.id,ad.ver,ad.off+9⟩) ts.length q' ts:=fun hq=>
  ⟨rfl,by have:=h.small;omega,hq,fun j x hx=>by
   obtain ⟨g1,g2,g3,g4,g5⟩:=h.tok (j+1) x (by simpa using hx);refine ⟨rfl,g2,g3,g4,?_⟩;simp only [adr] at g5 |-;rw [show ad.off+9+j*9=ad.off+(j+1)*9 by omega];exact g5⟩
 rcases h.cap with ⟨m,rfl,hm⟩ |⟨rfl,_⟩
 ·have hb:boundO (some (.int .i64 1)) k 0=some 1:=by
   unfold boundO bound;simp only;rw [if_pos (by simp;omega)]
  refine ⟨if Nat.beq m 1 then some ad else some ⟨ad.id,ad.ver,ad.off+9⟩,ts.length,.exact (m-1),?_,?_⟩
  ·unfold sliceL;rw [hu];simp only [hs];unfold sliceExact;simp only [boundO,Option.isNone_none,Option.isSome_none,Bool.and_false,Bool.false_eq_true,if_false];have hb':=hb;unfold boundO at hb';simp only at hb';rw [hb',hk];simp
  ·split
   ·rename_i hm1;have hm1:m=1:=by simpa using hm1
    have h0:ts.length=0:=by omega
    refine ⟨rfl,by omega,.inl ⟨_,rfl,by omega⟩,fun j x hx=> ?_⟩;have:=(List.getElem?_eq_some_iff.1 hx).1;omega
   ·exact rest (.inl ⟨_,rfl,by omega⟩)
 ·have hb:bound (.int .i64 1) k=some 1:=by
   unfold bound;simp only;rw [if_pos (by simp;omega)]
  refine ⟨some ⟨ad.id,ad.ver,ad.off+9⟩,ts.length,.free 9,?_,rest (.inr ⟨rfl,rfl⟩)⟩;unfold sliceL;rw [hu];simp only [hs];unfold sliceFree sliceFree2;simp only [boundO];rw [hb,hk];simp
theorem sl22:cfg.P.underlying 22=some (.slice 124):=by kernel_rfl
theorem sz124:sizeOfT cfg.P 124=some 9:=by kernel_rfl
theorem ag124:isAggT cfg.P 124=some true:=by kernel_rfl
theorem ag3:isAggT cfg.P 3=some false:=by kernel_rfl
theorem ag9:isAggT cfg.P 9=some false:=by kernel_rfl
theorem opM_cons(s:List UInt8)(t:TokC)(r:List TokC):opM s (t::r)=if t.kind=5/\t.s=s then some r else none:=rfl
def PSlot(i:Nat)(r:List TokC)(H0 H:LHeap):Prop:=PresX [i] H0 H/\∃a k q,H.get i=some (Slot.obj ⟨i,[.slice a k q],171⟩)/\TokAt H i 124 a k q r
theorem slot_i{X:List Nat}{H0 H:LHeap}{i:Nat}{cs:List LV}{e:TypeId}{l:List Slot}(h:Inv X H0 (⟨i,cs,e⟩::l) H):H.get i=some (Slot.obj ⟨i,cs,e⟩):=(h.slot 0 _ rfl).2.1
def IsS(i:Nat)(s:List UInt8)(ts:List TokC)(H:LHeap):LV->LHeap->Prop:=fun v H'=>∃b r,v=.bool b/\PSlot i r H H'/\((b=true/\opM s ts=some r)\/(b=false/\opM s ts=none/\r=ts))
theorem p198(s:List UInt8)(H:LHeap):CallL cfg 198 [.str s] H (Ret (.int .i64 (bindFp s)) H):=by
 refine e198 _ s H ?_;unfold bindFp;refine ⟨fun h=> ?_,fun h=>⟨fun h=> ?_,fun h=>⟨fun h=> ?_,fun h=>⟨fun h=> ?_,fun h=>⟨fun h=> ?_,fun h=>⟨fun h=> ?_,fun h=>⟨fun h=> ?_,fun h=>⟨fun h=> ?_,fun h=>⟨fun h=> ?_,fun h=>⟨fun h=> ?_,fun h=>⟨fun h=> ?_,fun h=>⟨fun h=> ?_,fun h=> ?_⟩⟩⟩⟩⟩⟩⟩⟩⟩⟩⟩⟩
 all_goals (intro hI;refine ⟨?_,hI.pres⟩;simp_all)
theorem s298(k n:Int)(s:List UInt8)(H:LHeap):CallL cfg 298 [.int .i64 k,.int .i64 n,.str s] H (Ret ({ nilNp with kind:=1,valueKind:=k,valueN:=n,valueS:=s }:NdC).lv H):=
 e298 _ k n s H fun i3 H4 H5 hI=>⟨rfl,hI.pres⟩
theorem s266(i:Nat)(s:List UInt8)(ts:List TokC)(a:Option LAddr)(k:Nat)(q:Cap)(H:LHeap)(hI:Inv [i] H [⟨i,[.slice a k q],171⟩] H)(hT:TokAt H i 124 a k q ts):
  CallL cfg 266 [.ptr (some ⟨i,1,0⟩),.str s] H (IsS i s ts H):=by
 have hl:=hT.len;refine e266p _ a k q s i H hI ⟨fun h hI2=> ?_,fun h=> ?_⟩
 ·have h0:ts=[]:=by
   cases ts with
   |nil=>rfl
   |cons t r=>simp [hl] at h;omega
  subst h0;exact ⟨false,[],rfl,⟨hI2.pres,a,k,q,slot_i hI2,hT⟩,.inr ⟨rfl,rfl,rfl⟩⟩
 ·match ts,hT,hl with
  |[],hT,hl=>simp [hl] at h
  |t::r,hT,hl=>
   obtain ⟨h1,h2,h3,h4,h5⟩:=hT.tok 0 t rfl;rw [List.length_cons] at hl;have hc:((0:Int)<=(0:Int))/\((0:Int)<((k:Nat):Int))/\(Option.isSome a)=Bool.true:=⟨by omega,by omega,h1⟩;refine ⟨hc,fun hI2=>⟨t.kind,?_,fun hk=>fun hI3=> ?_,fun hk=>⟨hc,fun hI3=>⟨t.s,?_,fun hs hI4=> ?_,fun hs=> ?_⟩⟩⟩⟩
   ·exact load_field (a:=⟨(adr a).id,(adr a).ver,(adr a).off+0⟩) (k:=0) ag124 sz124 h5 ag3 rfl
   ·refine ⟨false,t::r,rfl,⟨hI3.pres,a,k,q,slot_i hI3,hT⟩,.inr ⟨rfl,?_,rfl⟩⟩;rw [opM_cons,if_neg];rintro ⟨e,_⟩;simp [e] at hk
   ·exact load_field (a:=⟨(adr a).id,(adr a).ver,(adr a).off+0⟩) (k:=2) ag124 sz124 h5 ag9 rfl
   ·refine ⟨false,t::r,rfl,⟨hI4.pres,a,k,q,slot_i hI4,hT⟩,.inr ⟨rfl,?_,rfl⟩⟩;rw [opM_cons,if_neg];rintro ⟨_,e⟩;simp [e] at hs
   ·obtain ⟨a',k',q',hsl,hT'⟩:=hT.tail sl22 sz124;refine ⟨a',k',q',hsl,fun H10 p10 hI10=>⟨true,r,rfl,⟨hI10.pres,a',k',q',slot_i hI10,hT'.on p10 (fun y hy=>by rw [List.mem_singleton.1 hy];exact Nat.le_refl _)⟩,.inl ⟨rfl,?_⟩⟩⟩;rw [opM_cons,if_pos];refine ⟨by simpa using hk,by simpa using hs⟩
def noneV:LV:=.iface 168 (.agg [])
def PanT(i:Nat)(P:Prop)(H:LHeap):LV->LHeap->Prop:=fun v H'=>v=noneV/\P/\PresX [i] H H'/\∃cs,List.length cs=1/\H'.get i=some (Slot.obj ⟨i,cs,171⟩)
theorem s206(i:Nat)(ts:List TokC)(a:Option LAddr)(k:Nat)(q:Cap)(H:LHeap)(hI:Inv [i] H [⟨i,[.slice a k q],171⟩] H)(hT:TokAt H i 124 a k q ts):
  CallP cfg 206 [.ptr (some ⟨i,1,0⟩)] H (fun v H'=>∃t r,ts=t::r/\v=t.lv/\TokOK t/\PSlot i r H H') (PanT i (ts=[]) H):=by
 have hl:=hT.len;refine e206p _ _ a k q i H hI fun i0 H1 h0 p0=>⟨fun h hI2=> ?_,fun h=> ?_⟩
 ·refine ⟨rfl,?_,hI2.pres,_,rfl,slot_i hI2⟩;cases ts with
  |nil=>rfl
  |cons t r=>simp [hl] at h;omega
 ·match ts,hT,hl with
  |[],hT,hl=>simp [hl] at h
  |t::r,hT,hl=>
   obtain ⟨h1,h2,h3,h4,h5⟩:=hT.tok 0 t rfl;rw [List.length_cons] at hl;refine ⟨⟨by omega,by omega,h1⟩,fun hI2=>⟨t,?_,fun i5 H6 h5' p6 H7 p7=> ?_⟩⟩
   ·have:=p0.load (a:=⟨(adr a).id,(adr a).ver,(adr a).off+0*9⟩) h2 (by simp) h5;simpa using this
   ·obtain ⟨a',k',q',hsl,hT'⟩:=hT.tail sl22 sz124;refine ⟨a',k',q',hsl,fun H12 p12 H13 p13 hI13=>⟨t,r,rfl,rfl,h4,hI13.pres,a',k',q',slot_i hI13,hT'.on hI13.pres (fun y hy=>by rw [List.mem_singleton.1 hy];exact Nat.le_refl _)⟩⟩
theorem s297(i:Nat)(s:List UInt8)(ts:List TokC)(a:Option LAddr)(k:Nat)(q:Cap)(H:LHeap)(hI:Inv [i] H [⟨i,[.slice a k q],171⟩] H)(hT:TokAt H i 124 a k q ts):
  CallP cfg 297 [.ptr (some ⟨i,1,0⟩),.str s] H (fun v H'=>v=.tuple []/\∃r,opM s ts=some r/\PSlot i r H H') (PanT i (opM s ts=none) H):=by
 refine e297p _ _ a k q s i H hI fun hI1=>⟨_,s266 i s ts a k q H hI hT,fun v H' hS=> ?_,fun b1 a2 l3 c4 H5 hS g5=>⟨fun hb hI5=> ?_,fun hb hI5=> ?_⟩⟩
 ·obtain ⟨b,r,rfl,⟨p,a',k',q',hg,hT'⟩,_⟩:=hS;exact ⟨p,⟨_,rfl⟩,[.slice a' k' q'],⟨_,_,_,rfl⟩,rfl,hg⟩
 ·obtain ⟨b,r,e,⟨p,a',k',q',hg,hT'⟩,hb'⟩:=hS;cases e;rcases hb' with ⟨rfl,hb'⟩ |⟨rfl,hb',rfl⟩
  ·cases hb
  ·exact ⟨rfl,hb',hI5.pres,_,rfl,slot_i hI5⟩
 ·obtain ⟨b,r,e,⟨p,a',k',q',hg,hT'⟩,hb'⟩:=hS;cases e;rcases hb' with ⟨rfl,hb'⟩ |⟨rfl,hb',rfl⟩
  ·exact ⟨rfl,r,hb',hI5.pres,a',k',q',hg,hT'⟩
  ·cases hb
end Go.Proofs.YtjihhflffkoffaaGreatDoor.Z
