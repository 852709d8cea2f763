import Derived.Test.YtfaclfkpnmcmlaaGreatDoorJ00
import Derived.Test.YtfaclfkpnmcmlaaGreatDoorJ13
import Derived.Shelf.LaysM
import Derived.Shelf.Strconv.Itoa3
import Derived.Shelf.LaysC
import Derived.Shelf.Strconv.AtoiAll
import Derived.Test.YtfaclfkpnmcmlaaGreatDoorProg
set_option maxHeartbeats 8000000
set_option linter.all false
open Go.Proofs.Tryz
namespace Go.Proofs.YtfaclfkpnmcmlaaGreatDoor
open Go Go.Sx Dg Syn
def uG:ax prog 201:=⟨_,func201,rfl,rfl⟩
def DN:ax prog 202:=⟨_,func202,rfl,rfl⟩
variable{α:Type}
def Sl.nil(R:PH->List Value->α->Prop)(I:PH):Sl R I (.slice none 0 0) ([]:List α):=⟨none,0,rfl,.inl rfl⟩
def Hw(pb:Nat)(lv fv ov:Value)(o:Nat)(hs:List ah)(F:Syn.aw->ah->Syn.aw)(e:List aG)(a:PH)(x:Nat×Value×Value×Value)(H:PH):Prop:=
 ∃I Z A B,H=U [I,sg pb (bN lv fv ov x.2.2.2 o),Z,A,B]/\Dj [I,sg pb (bN lv fv ov x.2.2.2 o),Z,A,B]/\a.le I/\x.1<=hs.length/\bj I Z x.2.2.2 (e++((hs.take x.1).foldl F ⟨[],[],[]⟩).e)/\ar I A x.2.1 ((hs.take x.1).foldl F ⟨[],[],[]⟩).l/\cU I B x.2.2.1 ((hs.take x.1).foldl F ⟨[],[],[]⟩).f
def RN(r:Syn.aw):Value->PH->List PH->Prop:=fun v b c=>∃A B a vb,c=[A,B]/\v=.tuple #[a,vb]/\ar b A a r.l/\cU b B vb r.f
def uW(pb kind slot:Nat)(a:Value)(n:Nat)(x:Nat×Value×Value×Value):St:=⟨dn 55 [(0,.v (pt pb)),(2,.v (.int .u8 kind)),(3,.v (E slot)),(10,.v x.2.1),(11,.v x.2.2.1),(16,.v a),(17,.v (E n)),(18,.v (E x.1))],[]⟩
variable{Z:List Tok}{I:PH}
theorem T4{X:PH}{pb:Nat}{lv fv ov dv vf:Value}{o kind slot:Nat}{f:ad}{e:List aG}(h:iz I Z lv fv)(hf:bK I vf f)(fn:FN Z.length f)(he:bj I X dv e)(hm:e.length+(named Z f kind slot).e.length<=lV):
  aT prog 201 #[pt pb,vf,.int .u8 kind,E slot] I [sg pb (bN lv fv ov dv o),X] (PP pb lv fv ov o (e++(named Z f kind slot).e) (RN (named Z f kind slot))):=by
 intro hd;have hl:=h.len;refine aP 55 func201 fun w0=>?_
 try simp only[E,pt]
 refine ai ?_;refine F2 hd [0,1] rfl pS rfl (ps:=[sg pb _]) (F:=[X]) rfl (pV h hf fn) ?_;rintro v I2 qs aq A⟨rfl,hH⟩;obtain⟨ha,hc,rfl,_⟩:=id hH;simp only[aN,aM]at aq |-;refine bF ?_;rw[xC]at hm |-;have hN:∀x∈ce Z f,dp Z x:=fun x Q=>gp h.ok fn Q;have b2:=mF h.ok fn;have bx:=hH;generalize ce Z f=d at *;refine dg aq fun ba=>?_;refine dg ba fun a9=>?_;refine aj a9 [2,3,0,1] fun a7=>?_;refine bY (fun x=>d.length-x.1) (uW pb kind slot (.slice ha d.length hc) d.length) (Hw pb lv fv ov o d (dR kind slot) e I2) (0,.slice none 0 0,.slice none 0 0,dv) cJ (by simp only[go_sem,Y,uW]) ?_ ?_
 .exact⟨I2,X,PH.no,PH.no,rfl,a7,aC _,aF _,by simpa using bj.le he A,Ow.nil _ _ _ _,Ow.nil _ _ _ _⟩
 rintro⟨i,va,vb,dv⟩ H ⟨I3,D3,A3,B3,rfl,G,p,a5,hE,hA,hB⟩ s;simp only at a5 hE hA hB;simp only[uW];have bc:fH I3 (.slice ha d.length hc) d:=bx.le p;have V:FN Z.length ((d.take i).foldl (dR kind slot) ⟨[],[],[]⟩).f:=Jz fun x Q=>hN x (ly Q);have b4:=V.len;rcases aI i d.length with L|b3
 .have K:decide ((i:Int)<(d.length:Int))=true:=by simp;omega
  have e1:=wrap64 (n:=i+1) O;have an:IntKind.i64.wrap ((i:Int)+1)=((i+1:Nat):Int):=by rw[<-e1];congr 1
  obtain⟨x,Q⟩:∃x,d[i]?=some x:=⟨_,aZ L⟩;have a1:=cY Q;have P:=hN x a1;obtain⟨b,off,cs,rfl,bb,U⟩:=bc.load dJ.len Q;obtain⟨xa,xk,rfl,w⟩:=bb;have k:=rC (g:=dR kind slot) (z:=⟨[],[],[]⟩) Q;have q:=DB (g:=dR kind slot) (fun r=>r.e.length) (fun z y=>by unfold dR;split<;>simp) d (i+1) ⟨[],[],[]⟩;rw[k]at q;have b0:=Ev (kind:=kind) (slot:=slot) (d.take i) ⟨[],[],[]⟩;simp only[bo,lw]at b0;refine eb K ?_;refine⟨O,?_⟩;refine X5 (l:=[E x.at',sD xa xk x.cond,rD x.cond,.int .u8 x.kind,.string ⟨⟨x.text⟩⟩]) (v:=.agg #[E x.at',sD xa xk x.cond,rD x.cond,.int .u8 x.kind,.string ⟨⟨x.text⟩⟩]) rfl (cellsU G (.head _) U) (.inl ⟨gm,rfl⟩) ?_;by_cases hk:x.kind=1
  .have am:((x.kind:Int) != 1)=false:=by simp[hk]
   apply RG;simp only[go_sem,K,E,pt,sD,rD,am,cP,ds];refine X4 rfl HZ Iv ?_;rintro v H2⟨rfl,rfl⟩;cases hw:fy x.text
   .refine aW ?_;have c:(d.take (i+1)).foldl (dR kind slot) ⟨[],[],[]⟩=⟨((d.take i).foldl (dR kind slot) ⟨[],[],[]⟩).l++[⟨kind,x.text,x.at',slot,[],x.cond⟩],Syn.join ((d.take i).foldl (dR kind slot) ⟨[],[],[]⟩).f (x.at'+1) x.cond,((d.take i).foldl (dR kind slot) ⟨[],[],[]⟩).e⟩:=by rw[k];unfold dR;rw[ab (by simp[hk,hw])]
    have a2:=P.lt (.inr O);have e2:=wrap64 (n:=x.at'+1) O;have b1:IntKind.i64.wrap ((x.at':Int)+1)=((x.at'+1:Nat):Int):=by rw[<-e2];congr 1
    refine cH G (by exact df) rfl rfl rfl rfl rfl af fun nb I4 u j a3=>?_;refine aW ?_;refine aj u [2,0,1,3] fun ap=>?_;obtain⟨bs,J,ac⟩:=hA;obtain⟨xsa,xsc,rfl⟩:=J.slice;refine ni (m:=1) ap (by exact df) J rfl rfl rfl rfl (cellsU ap (.head _) (bz (l:=[.int .u8 kind,.string ⟨⟨x.text⟩⟩,.int .i64 x.at',.int .i64 slot,.slice none 0 0,.slice xa (T.subs x.cond).length xk,E (T.plc (T.subs x.cond) x.cond)]) a3 (by simp[av,Value.cells]) (by simp[av,Value.cells,E]))) rfl rfl O (by unfold maxLen;omega) fun v' I5 A4 a6 C a0=>?_;obtain⟨na,nc,rfl⟩:=a0.slice;obtain⟨ta,tc,rfl⟩:=hB.shape;refine dB b1 ?_;refine au a6 [3,1,2,0] [B3] [sg pb _,D3,A4] rfl jl rfl (jm (a:=x.at'+1) (hB.le (D j C)) (w.le (D j C)) V.ok.2 (fun t ht=>by have:=V.le t ht;omega) O O) ?_;rintro v I6 qs N S⟨B4,rfl,aS⟩;obtain⟨ta2,tc2,rfl⟩:=aS.shape;simp only[aN,aM]at N |-;refine dB an ?_;refine aj N [1,2,3,0] fun aa=>?_;have B:=D j (D C S);refine s (i+1,.slice na (((d.take i).foldl (dR kind slot) ⟨[],[],[]⟩).l.length+1) nc,.slice ta2 (Syn.join ((d.take i).foldl (dR kind slot) ⟨[],[],[]⟩).f (x.at'+1) x.cond).length tc2,dv) _ _ bh cJ (by simp only[go_sem,Y,uW]) ⟨I6,D3,A4,B4,rfl,aa,D p B,L,by simp only;rw[c];exact hE.le B,⟨bs++[.int .u8 kind,.string ⟨⟨x.text⟩⟩,.int .i64 x.at',.int .i64 slot,.slice none 0 0,.slice xa (T.subs x.cond).length xk,E (T.plc (T.subs x.cond) x.cond)],?_,?_⟩,by simp only;rw[c];exact aS⟩
    .simp only;rw[c];simp only[aE,gy];exact a0
    .simp only;rw[c];exact LR.app (ac.mono fun _ _ h=>ae.le h B) (.one (ae.mk (n:=⟨kind,x.text,x.at',slot,[],x.cond⟩) (w.le B) (Sl.nil _ _) oo))
   .refine aW ?_;have c:(d.take (i+1)).foldl (dR kind slot) ⟨[],[],[]⟩={ ((d.take i).foldl (dR kind slot) ⟨[],[],[]⟩)with e:=((d.take i).foldl (dR kind slot) ⟨[],[],[]⟩).e++db x 10 }:=by rw[k];unfold dR;rw[ag (.inr hw)]
    refine au G [0,1,2,3] [sg pb _,D3] [A3,B3] rfl pR rfl (pO (h.le (D A p)) P.le w hE (by rw[<-k,c]at q;simp[db]at q |-;omega)) ?_;rintro v I4 qs u j⟨dv2,D4,rs,rfl,W,rfl⟩;simp only[aN,aM]at u |-;refine dB an ?_;exact s (i+1,va,vb,dv2) _ _ bh cJ (by simp only[go_sem,Y,uW]) ⟨I4,D4,A3,B3,rfl,u,D p j,L,by simp only;rw[c,<-cq];exact W,by simp only;rw[c];exact hA.le j,by simp only;rw[c];exact hB.le j⟩
  .have am:((x.kind:Int) != 1)=true:=by simp;omega
   apply RG;simp only[go_sem,K,E,pt,sD,rD,am,cP,ds];have c:(d.take (i+1)).foldl (dR kind slot) ⟨[],[],[]⟩={ ((d.take i).foldl (dR kind slot) ⟨[],[],[]⟩)with e:=((d.take i).foldl (dR kind slot) ⟨[],[],[]⟩).e++db x 10 }:=by rw[k];unfold dR;rw[ag (.inl hk)]
   refine au G [0,1,2,3] [sg pb _,D3] [A3,B3] rfl pR rfl (pO (h.le (D A p)) P.le w hE (by rw[<-k,c]at q;simp[db]at q |-;omega)) ?_;rintro v I4 qs u j⟨dv2,D4,rs,rfl,W,rfl⟩;simp only[aN,aM]at u |-;refine dB an ?_;exact s (i+1,va,vb,dv2) _ _ bh cJ (by simp only[go_sem,Y,uW]) ⟨I4,D4,A3,B3,rfl,u,D p j,L,by simp only;rw[c,<-cq];exact W,by simp only;rw[c];exact hA.le j,by simp only;rw[c];exact hB.le j⟩
 .have a4:i=d.length:=by omega
  subst a4;have K:=Z6 d.length;rw[dO]at hE hA hB;refine eb K ?_;exact az rfl G (r:=[va,vb]) rfl (D A p) ⟨_,D3,[A3,B3],rfl,hE,A3,B3,va,vb,rfl,rfl,hA,hB⟩
def vO(pb slot:Nat)(a:Value)(n:Nat)(x:Nat×Value×Value×Value):St:=⟨dn 52 [(0,.v (pt pb)),(2,.v (E slot)),(8,.v x.2.1),(9,.v x.2.2.1),(14,.v a),(15,.v (E n)),(16,.v (E x.1))],[]⟩
theorem Xj{X:PH}{pb:Nat}{lv fv ov dv vf:Value}{o slot:Nat}{f:ad}{e:List aG}(h:iz I Z lv fv)(hf:bK I vf f)(fn:FN Z.length f)(he:bj I X dv e)(hm:e.length+(hU Z f slot).e.length<=lV):
  aT prog 202 #[pt pb,vf,E slot] I [sg pb (bN lv fv ov dv o),X] (PP pb lv fv ov o (e++(hU Z f slot).e) (RN (hU Z f slot))):=by
 intro hd;have hl:=h.len;refine aP 52 func202 fun w0=>?_
 try simp only[E,pt]
 refine ai ?_;refine F2 hd [0,1] rfl pS rfl (ps:=[sg pb _]) (F:=[X]) rfl (pV h hf fn) ?_;rintro v I2 qs a1 L⟨rfl,hH⟩;obtain⟨ha,hc,rfl,_⟩:=id hH;simp only[aN,aM]at a1 |-;refine bF ?_;rw[BM]at hm |-;have hN:∀x∈ce Z f,dp Z x:=fun x hx=>gp h.ok fn hx;have b0:=mF h.ok fn;have bb:=hH;generalize ce Z f=d at *;refine dg a1 fun a7=>?_;refine dg a7 fun a6=>?_;refine aj a6 [2,3,0,1] fun a5=>?_;refine bY (fun x=>d.length-x.1) (vO pb slot (.slice ha d.length hc) d.length) (Hw pb lv fv ov o d (dU slot) e I2) (0,.slice none 0 0,.slice none 0 0,dv) cJ (by simp only[go_sem,Y,vO]) ?_ ?_
 .exact⟨I2,X,PH.no,PH.no,rfl,a5,aC _,aF _,by simpa using bj.le he L,Ow.nil _ _ _ _,Ow.nil _ _ _ _⟩
 rintro⟨i,va,vb,dv⟩ H ⟨I3,D3,A3,B3,rfl,Q,w,a4,hE,hA,hB⟩ C;simp only at a4 hE hA hB;simp only[vO];have ba:fH I3 (.slice ha d.length hc) d:=bb.le w;have U:FN Z.length ((d.take i).foldl (dU slot) ⟨[],[],[]⟩).f:=Lu fun x hx=>hN x (ly hx);have b2:=U.len;rcases aI i d.length with ac|b1
 .have K:decide ((i:Int)<(d.length:Int))=true:=by simp;omega
  have e1:=wrap64 (n:=i+1) O;have a0:IntKind.i64.wrap ((i:Int)+1)=((i+1:Nat):Int):=by rw[<-e1];congr 1
  obtain⟨x,hx⟩:∃x,d[i]?=some x:=⟨_,aZ ac⟩;have a2:=cY hx;have an:=hN x a2;obtain⟨b,off,cs,rfl,a9,aa⟩:=ba.load dJ.len hx;obtain⟨xa,xk,rfl,A⟩:=a9;have q:=rC (g:=dU slot) (z:=⟨[],[],[]⟩) hx;have N:=DB (g:=dU slot) (fun r=>r.e.length) (fun z y=>by unfold dU;split<;>simp) d (i+1) ⟨[],[],[]⟩;rw[q]at N;have bx:=FC (slot:=slot) (d.take i) ⟨[],[],[]⟩;simp only[bo,lw]at bx;refine eb K ?_;refine⟨O,?_⟩;refine X5 (l:=[E x.at',sD xa xk x.cond,rD x.cond,.int .u8 x.kind,.string ⟨⟨x.text⟩⟩]) (v:=.agg #[E x.at',sD xa xk x.cond,rD x.cond,.int .u8 x.kind,.string ⟨⟨x.text⟩⟩]) rfl (cellsU Q (.head _) aa) (.inl ⟨gm,rfl⟩) ?_;cases hi:(x.text == [105,110,116])
  .cases hb:(x.text == [98,111,111,108])
   .apply RG;simp only[go_sem,K,E,pt,sD,rD,hi,hb,cP,ds];have c:(d.take (i+1)).foldl (dU slot) ⟨[],[],[]⟩={ ((d.take i).foldl (dU slot) ⟨[],[],[]⟩)with e:=((d.take i).foldl (dU slot) ⟨[],[],[]⟩).e++db x 10 }:=by rw[q];unfold dU;rw[ag ⟨fun k=>by rw[k]at hi;exact absurd hi af,fun k=>by rw[k]at hb;exact absurd hb af⟩]
    refine au Q [0,1,2,3] [sg pb _,D3] [A3,B3] rfl pR rfl (pO (h.le (D L w)) an.le A hE (by rw[<-q,c]at N;simp[db]at N |-;omega)) ?_;rintro v I4 qs J j⟨dv2,D4,rs,rfl,bc,rfl⟩;simp only[aN,aM]at J |-;refine dB a0 ?_;exact C (i+1,va,vb,dv2) _ _ bh cJ (by simp only[go_sem,Y,vO]) ⟨I4,D4,A3,B3,rfl,J,D w j,ac,by simp only;rw[c,<-cq];exact bc,by simp only;rw[c];exact hA.le j,by simp only;rw[c];exact hB.le j⟩
   .apply RG;simp only[go_sem,K,E,pt,sD,rD,hi,hb,cP,ds];have c:(d.take (i+1)).foldl (dU slot) ⟨[],[],[]⟩=⟨((d.take i).foldl (dU slot) ⟨[],[],[]⟩).l++[⟨5,x.text,x.at',slot,[],x.cond⟩],Syn.join ((d.take i).foldl (dU slot) ⟨[],[],[]⟩).f (x.at'+1) x.cond,((d.take i).foldl (dU slot) ⟨[],[],[]⟩).e⟩:=by rw[q];unfold dU;rw[ab (fun k=>k.2 (eq_of_beq hb))]
    have am:=an.lt (.inl (by rw[eq_of_beq hb];decide));have e2:=wrap64 (n:=x.at'+1) O;have aS:IntKind.i64.wrap ((x.at':Int)+1)=((x.at'+1:Nat):Int):=by rw[<-e2];congr 1
    refine cH Q (by exact df) rfl rfl rfl rfl rfl af fun nb I4 J j ap=>?_;refine aW ?_;refine aj J [2,0,1,3] fun P=>?_;obtain⟨bs,u,S⟩:=hA;obtain⟨xsa,xsc,rfl⟩:=u.slice;refine ni (m:=1) P (by exact df) u rfl rfl rfl rfl (cellsU P (.head _) (bz (l:=[.int .u8 5,.string ⟨⟨x.text⟩⟩,.int .i64 x.at',.int .i64 slot,.slice none 0 0,.slice xa (T.subs x.cond).length xk,E (T.plc (T.subs x.cond) x.cond)]) ap (by simp[av,Value.cells]) (by simp[av,Value.cells,E]))) rfl rfl O (by unfold maxLen;omega) fun v' I5 A4 aq s W=>?_;obtain⟨na,nc,rfl⟩:=W.slice;obtain⟨ta,tc,rfl⟩:=hB.shape;refine dB aS ?_;refine au aq [3,1,2,0] [B3] [sg pb _,D3,A4] rfl jl rfl (jm (a:=x.at'+1) (hB.le (D j s)) (A.le (D j s)) U.ok.2 (fun t ht=>by have:=U.le t ht;omega) O O) ?_;rintro v I6 qs B G⟨B4,rfl,V⟩;obtain⟨ta2,tc2,rfl⟩:=V.shape;simp only[aN,aM]at B |-;refine dB a0 ?_;refine aj B [1,2,3,0] fun R=>?_;have p:=D j (D s G);refine C (i+1,.slice na (((d.take i).foldl (dU slot) ⟨[],[],[]⟩).l.length+1) nc,.slice ta2 (Syn.join ((d.take i).foldl (dU slot) ⟨[],[],[]⟩).f (x.at'+1) x.cond).length tc2,dv) _ _ bh cJ (by simp only[go_sem,Y,vO]) ⟨I6,D3,A4,B4,rfl,R,D w p,ac,by simp only;rw[c];exact hE.le p,⟨bs++[.int .u8 5,.string ⟨⟨x.text⟩⟩,.int .i64 x.at',.int .i64 slot,.slice none 0 0,.slice xa (T.subs x.cond).length xk,E (T.plc (T.subs x.cond) x.cond)],?_,?_⟩,by simp only;rw[c];exact V⟩
    .simp only;rw[c];simp only[aE,gy];exact W
    .simp only;rw[c];exact LR.app (S.mono fun _ _ h=>ae.le h p) (.one (ae.mk (n:=⟨5,x.text,x.at',slot,[],x.cond⟩) (A.le p) (Sl.nil _ _) oo))
  .apply RG;simp only[go_sem,K,E,pt,sD,rD,hi,cP,ds];have c:(d.take (i+1)).foldl (dU slot) ⟨[],[],[]⟩=⟨((d.take i).foldl (dU slot) ⟨[],[],[]⟩).l++[⟨5,x.text,x.at',slot,[],x.cond⟩],Syn.join ((d.take i).foldl (dU slot) ⟨[],[],[]⟩).f (x.at'+1) x.cond,((d.take i).foldl (dU slot) ⟨[],[],[]⟩).e⟩:=by rw[q];unfold dU;rw[ab (fun k=>k.1 (eq_of_beq hi))]
   have am:=an.lt (.inl (by rw[eq_of_beq hi];decide));have e2:=wrap64 (n:=x.at'+1) O;have aS:IntKind.i64.wrap ((x.at':Int)+1)=((x.at'+1:Nat):Int):=by rw[<-e2];congr 1
   refine cH Q (by exact df) rfl rfl rfl rfl rfl af fun nb I4 J j ap=>?_;refine aW ?_;refine aj J [2,0,1,3] fun P=>?_;obtain⟨bs,u,S⟩:=hA;obtain⟨xsa,xsc,rfl⟩:=u.slice;refine ni (m:=1) P (by exact df) u rfl rfl rfl rfl (cellsU P (.head _) (bz (l:=[.int .u8 5,.string ⟨⟨x.text⟩⟩,.int .i64 x.at',.int .i64 slot,.slice none 0 0,.slice xa (T.subs x.cond).length xk,E (T.plc (T.subs x.cond) x.cond)]) ap (by simp[av,Value.cells]) (by simp[av,Value.cells,E]))) rfl rfl O (by unfold maxLen;omega) fun v' I5 A4 aq s W=>?_;obtain⟨na,nc,rfl⟩:=W.slice;obtain⟨ta,tc,rfl⟩:=hB.shape;refine dB aS ?_;refine au aq [3,1,2,0] [B3] [sg pb _,D3,A4] rfl jl rfl (jm (a:=x.at'+1) (hB.le (D j s)) (A.le (D j s)) U.ok.2 (fun t ht=>by have:=U.le t ht;omega) O O) ?_;rintro v I6 qs B G⟨B4,rfl,V⟩;obtain⟨ta2,tc2,rfl⟩:=V.shape;simp only[aN,aM]at B |-;refine dB a0 ?_;refine aj B [1,2,3,0] fun R=>?_;have p:=D j (D s G);refine C (i+1,.slice na (((d.take i).foldl (dU slot) ⟨[],[],[]⟩).l.length+1) nc,.slice ta2 (Syn.join ((d.take i).foldl (dU slot) ⟨[],[],[]⟩).f (x.at'+1) x.cond).length tc2,dv) _ _ bh cJ (by simp only[go_sem,Y,vO]) ⟨I6,D3,A4,B4,rfl,R,D w p,ac,by simp only;rw[c];exact hE.le p,⟨bs++[.int .u8 5,.string ⟨⟨x.text⟩⟩,.int .i64 x.at',.int .i64 slot,.slice none 0 0,.slice xa (T.subs x.cond).length xk,E (T.plc (T.subs x.cond) x.cond)],?_,?_⟩,by simp only;rw[c];exact V⟩
   .simp only;rw[c];simp only[aE,gy];exact W
   .simp only;rw[c];exact LR.app (S.mono fun _ _ h=>ae.le h p) (.one (ae.mk (n:=⟨5,x.text,x.at',slot,[],x.cond⟩) (A.le p) (Sl.nil _ _) oo))
 .have a3:i=d.length:=by omega
  subst a3;have K:=Z6 d.length;rw[dO]at hE hA hB;refine eb K ?_;exact az rfl Q (r:=[va,vb]) rfl (D L w) ⟨_,D3,[A3,B3],rfl,hE,A3,B3,va,vb,rfl,rfl,hA,hB⟩
def ku:ax prog 205:=⟨_,func205,rfl,rfl⟩
def PZ:ax prog 261:=⟨_,func261,rfl,rfl⟩
variable{xs:List Value}{e:TypeId}{cur:Array Value}{n size:Nat}
def tj{g cap p:Nat}{cs:List Value}(a:xs.length=n*size)(h1:n<=cap)(h2:cap<=maxLen)(h3:cur.size=cap*size)(h4:cur.toList.take (n*size)=xs)(hp:p+cs.length<=n*size):
  dE (sg g (.cells (bL cur.toList p cs).toArray e (0,0))) e size (.slice (some ⟨g,0,none⟩) n cap) n (bL xs p cs):=
 dE.of_sg (by rw[eC];exact a) h1 h2 (by simp[eC];exact h3) (by show (bL cur.toList p cs).take (n*size)=_;rw[Br _ _ _ _ hp,h4])
variable{c:List Value}{i:Nat}
def qd{R:List Value->α->Prop}(j:∀c a,R c a->c.length=n){l:List α}{k:Nat}{a:α}{cs:List Value}(h:LR R xs l)(hi:i<l.length)(f:(xs.drop (i*n)).take n=c)(o:k+cs.length<=n)(ha:R (bL c k cs) a):LR R (bL xs (i*n+k) cs) (l.set i a):=by
 have g:=h.len j;have d:(i+1)*n<=l.length*n:=ch _ hi;rw[ig,qJ]at d;have m:c.length=n:=by rw[<-f];simp;omega
 have b:=h.set j hi ha;have e:bL xs (i*n+k) cs=xs.take (i*n)++bL c k cs++xs.drop ((i+1)*n):=by
  rw[nQ _ _ _ O,nQ _ _ _ O];have e1:xs.take (i*n+k)=xs.take (i*n)++c.take k:=by rw[<-f,n9,ju O,List.take_add]
  have e2:xs.drop (i*n+k+cs.length)=c.drop (k+cs.length)++xs.drop ((i+1)*n):=by
   have h3:(xs.drop (i*n)).drop n=xs.drop ((i+1)*n):=by rw[lr,ig,qJ]
   have h4:xs.drop (i*n)=c++xs.drop ((i+1)*n):=by rw[<-f,<-h3,tL]
   rw[Nat.add_assoc,<-lr,h4,List.drop_append_of_le_length O]
  rw[e1,e2];simp
 rw[e];exact b
variable{v:Value}{A:PH}
def Ow.open'{R:PH->List Value->α->Prop}{l:List α}(h:Ow R e size I A v l)(b:0<l.length)(d:∀c a,R I c a->c.length=size):
  ∃g cap cur xs,v=.slice (some ⟨g,0,none⟩) l.length cap/\A=sg g (.cells cur e (0,0))/\l.length<=cap/\cap<=maxLen/\cur.size=cap*size/\cur.toList.take (l.length*size)=xs/\xs.length=l.length*size/\LR (R I) xs l:=by
 obtain⟨xs,h1,h2⟩:=h;obtain⟨g,cap,cur,e1,e2,k,j,i,f⟩:=h1.sg b;exact⟨g,cap,cur,xs,e1,e2,k,j,i,f,h2.len d,h2⟩
def pH{R:List Value->α->Prop}(q:∀c a,R c a->c.length=n){g:Nat}{l:List α}{k m:Nat}(h:LR R xs l)(hi:i<l.length)(o:l.length*n<=cur.size)(d:cur.toList.take (l.length*n)=xs)(j:(xs.drop (i*n)).take n=c)(r:k+m<=n):
  aX (sg g (.cells cur e (0,0))) g (i*n+k) ((c.drop k).take m):=by
 have b:=h.len q;have f:(i+1)*n<=l.length*n:=ch _ hi;rw[ig,qJ]at f;have p:c.length=n:=by rw[<-j];simp;omega
 have h0:aX (sg g (.cells cur e (0,0))) g 0 xs:=dt O (by rw[gV,b];exact d);have h1:=(h0.sub (i*n) n O).sub k m (by rw[j];omega)
 rwa [j,ii]at h1
def FH:prog.underlying 33=some (.slice 60):=by obtain⟨i,z,h,_⟩:=df;exact h
def Rc:∃i,prog.info? 60=some i/\i.size=7:=by obtain⟨i,z,_,h,_,h2,_⟩:=df;exact⟨i,h,h2⟩
def N0{H:PH}{a:Option Addr}{c:Nat}(b:n<=c)(hs:n=0\/∀x,a=some x->x.spot=none):br prog 261 #[.slice a n c] H fun v H2=>v=.slice a n n/\H2=H:=by
 refine aP 9 func261 fun w0=>?_;refine ai ?_;refine L9 (e:=60) (size:=7) (h:=n) (m:=n) rfl rfl (by exact FH) (by exact Rc) rfl rfl rfl (aR _) b ?_;have:fV a 7 0 n=a:=by
  rcases hs with rfl|hs
  .simp[fV]
  .exact E5 hs
 refine dq this ?_;exact aU (r:=[_]) rfl ⟨rfl,rfl⟩
def ae.ones{n:M}(h:ae I c n):c.all Sx.one=true:=by obtain⟨d,a,k,e,_,b,_⟩:=h.shape;obtain⟨x,y,rfl,_⟩:=b;rw[e];rfl
def Ow.cap{R:PH->List Value->α->Prop}{l:List α}(h:Ow R e size I A v l)(b:∀c a,R I c a->c.length=size):yX v:=by
 rcases jt l.length with h0|h0
 .obtain⟨a,c,rfl⟩:=h.shape;show l.length<=c;omega
 .obtain⟨g,cap,cur,xs,rfl,_,h1,_⟩:=h.open' h0 b;exact h1
def Ow.capN{R:PH->List Value->α->Prop}{l:List α}(h:Ow R e size I A v l)(b:∀c a,R I c a->c.length=size):kH v:=by
 rcases jt l.length with h0|h0
 .obtain⟨a,c,rfl⟩:=h.shape;exact⟨O,fun h=>by omega⟩
 .obtain⟨g,cap,cur,xs,rfl,_,h1,h2,_⟩:=h.open' h0 b;exact⟨h1,fun _=>h2⟩
variable{l:List M}
def Ph{ks:List M}{n:M}(b:l[i]?=some n):(give (l.take i) ks++l.drop i)[i]?=some n/\(give (l.take i) ks++l.drop i).set i { n with kids:=n.kids++ks }=give (l.take (i+1)) ks++l.drop (i+1)/\i<l.length:=by
 have a:i<l.length:=by
  rcases aI i l.length with h|h
  .exact h
  .rw[fe h]at b;cases b
 have c:(give (l.take i) ks).length=i:=by simp[give];omega
 have hd:l.drop i=n::l.drop (i+1):=by rw[js a];rw[aZ a]at b;rw[cW b]
 refine⟨?_,?_,a⟩
 .rw[yP O,c,Nat.sub_self,hd];rfl
 .rw[List.set_append_right _ _ O,c,Nat.sub_self,hd,yS];have:give (l.take (i+1)) ks=give (l.take i) ks++[{ n with kids:=n.kids++ks }]:=by unfold give;rw[pj a,mf];rw[aZ a]at b;rw[cW b];rfl
  rw[this,cq];rfl
def xi(v a:Value)(n:Nat)(i:Nat):St:=⟨dn 25 [(0,.v v),(1,.v a),(7,.v (E n)),(8,.v (E i))],[]⟩
def QZ(v:Value)(l ks:List M)(a:PH)(i:Nat)(H:PH):Prop:=∃I A,H=U [I,A]/\Dj [I,A]/\a.le I/\i<=l.length/\ar I A v (give (l.take i) ks++l.drop i)
theorem kr{W:Value}{ks:List M}(hA:ar I A v l)(hk:bu I W ks)(hl:l.length<=ao)(hm:∀n∈l,n.kids.length+ks.length<=ao):
  aT prog 205 #[v,W] I [A] fun v2 y qs=>∃A2,qs=[A2]/\ar y A2 v2 (give l ks):=by
 intro hd;obtain⟨va,vc,rfl⟩:=hA.shape;unfold ao at hl hm;refine aP 25 func205 fun w0=>?_;refine ai ?_;refine bY (fun x=>l.length-x) (xi (.slice va l.length vc) W l.length) (QZ (.slice va l.length vc) l ks I) 0 ak (by simp only[go_sem,Y,xi]) ?_ ?_
 .exact⟨I,A,rfl,hd,aC _,aF _,by simpa[give]using hA⟩
 rintro i H ⟨z,A1,rfl,f,c,hi,J⟩ p;simp only[xi];rcases aI i l.length with d|a5
 .have X:decide ((i:Int)<(l.length:Int))=true:=by simp;omega
  have e1:=wrap64 (n:=i+1) O;have V:IntKind.i64.wrap ((i:Int)+1)=((i+1:Nat):Int):=by rw[<-e1];congr 1
  obtain⟨n,hn⟩:∃n,l[i]?=some n:=⟨_,aZ d⟩;obtain⟨g1,g2,_⟩:=Ph (ks:=ks) hn;have L:(give (l.take i) ks++l.drop i).length=l.length:=by simp[give];omega
  obtain⟨g,cap,cur,xs,ev,rfl,c1,c2,c3,c4,c5,B⟩:=J.open' O ae.len;rw[L]at ev c1 c4 c5;cases ev
  have T:=B.get ae.len g1;obtain⟨kv,na,nk,U,P,C,u⟩:=T.shape;obtain⟨N,kc,rfl,F⟩:=id C;have a2:l.length*7<=vc*7:=ch _ c1;have s:=pH (k:=4) (m:=1) (e:=60) (g:=g) (cur:=cur) ae.len B (i:=i) (by rw[L];exact d) (by rw[L];omega) (by rw[L];exact c4) U O;simp only[ls,gV,lz,lB]at s;have a3:=hm n (cY hn);have a4:(i+1)*7<=l.length*7:=ch _ d;have R:bu z W ks:=hk.le c;obtain⟨sa,sc,rfl,ac⟩:=id R;have fin:∀(y:PH) (K:Value) (an:Option Addr) (cn:Nat),K=.slice an (n.kids++ks).length cn->z.le y->bu y K (n.kids++ks)->kH K->ar y (sg g (.cells (bL cur.toList (i*7+4) [K]).toArray 60 (0,0))) (.slice (some ⟨g,0,none⟩) l.length vc) (give (l.take (i+1)) ks++l.drop (i+1)):=by
   intro y K an cn e Q h1 h2;rw[<-g2];refine⟨_,?_,qd ae.len (B.mono fun _ _ h=>ae.le h Q) (by rw[L];exact d) U (k:=4) (cs:=[K]) (by simp) ?_⟩
   .rw[lu,L];exact tj c5 c1 c2 c3 c4 (by simp;omega)
   .exact ae.mk (n:={ n with kids:=n.kids++ks }) (P.le Q) h1 h2
  refine be X ?_;refine⟨O,?_⟩;refine X5 (l:=[.slice N n.kids.length kc]) rfl (by simpa using cellsU f (.tail _ (.head _)) s) (.inr ⟨zv,rfl⟩) ?_;refine be X ?_;refine X4 rfl PZ (N0 u.1 (by
   rcases F with h0|⟨b,off,ys,rfl,_⟩
   .exact .inl (by rw[h0];rfl)
   .exact .inr fun x hx=>by cases hx;rfl)) fun v H2 hv=>?_
  obtain⟨rfl,rfl⟩:=hv;refine bF ?_;rcases jt ks.length with w|w
  .have S:ks=[]:=List.length_eq_zero_iff.1 w;subst S;refine F0 (by exact df) rfl rfl rfl (aR _) rfl ?_;refine bF ?_;refine⟨O,?_⟩;refine kK f rfl rfl rfl rfl rfl (by exact yz) (by simp;omega) fun G=>?_;refine be V ?_;refine p (i+1) _ _ (by show l.length-(i+1)<l.length-i;omega) (ft (by simp only[go_sem,Y,E,bo])) (by simp only[go_sem,Y,xi]) ⟨z,_,rfl,G,c,d,?_⟩;have:=fin z (.slice N n.kids.length n.kids.length) N n.kids.length (by simp) (aC _) ⟨N,n.kids.length,by simp,by simpa using F⟩ ⟨aR _,fun h=>fD u.1 (u.2 h)⟩;exact this
  .obtain⟨ya,yo,ys,rfl,aa,o⟩:∃b off xs,sa=some ⟨b,off,none⟩/\aX z b off xs/\LR (ae z) xs ks:=by
    rcases ac with h0|h0
    .rw[h0]at w;simp at w
    .exact h0
   obtain⟨a,aq,ap,am⟩:∃a,(n.kids.length=0\/∃b off,N=some ⟨b,off,none⟩/\aX z b off a)/\a.length=n.kids.length*7/\LR (ae z) a n.kids:=by
    rcases F with h0|⟨b,off,zs,e1,e2,e3⟩
    .exact⟨[],.inl (by rw[h0];rfl),by rw[h0];rfl,by rw[h0];rfl⟩
    .exact⟨zs,.inr ⟨b,off,e1,e2⟩,e3.len ae.len,e3⟩
   refine LY f (by exact df) rfl rfl rfl O rfl (aq.imp id fun⟨b,off,e,h⟩=>⟨b,off,e,cellsU f (.head _) h⟩) ap (cellsU f (.head _) aa) (o.len ae.len) (o.ones fun _ _ h=>ae.ones h) (by unfold maxLen;omega) O fun Z j y G q t aS=>?_;refine bF ?_;refine⟨O,?_⟩;refine kK G rfl rfl rfl rfl rfl (by exact yz) (by simp;omega) fun a1=>?_;refine be V ?_;refine p (i+1) _ _ (by show l.length-(i+1)<l.length-i;omega) ak (by simp only[go_sem,Y,xi]) ⟨y,_,rfl,a1,D c q,d,?_⟩;exact fin y (.slice (some ⟨Z,0,none⟩) (n.kids.length+ks.length) j) (some ⟨Z,0,none⟩) j (by simp) q ⟨_,j,by rw[aE],.inr ⟨Z,0,_,rfl,aS,(am.app o).mono fun _ _ h=>ae.le h q⟩⟩ ⟨t.1,fun _=>t.2⟩
 .have a0:i=l.length:=by omega
  subst a0;have X:=Z6 l.length;rw[dO,jk,Y]at J;refine be X ?_;exact az rfl f (r:=[_]) rfl c ⟨A1,rfl,J⟩
def P2:ax prog 265:=⟨_,func265,rfl,rfl⟩
def DS:ax prog 266:=⟨_,func266,rfl,rfl⟩
def HP:ax prog 212:=⟨_,func212,rfl,rfl⟩
def PM:ax prog 219:=⟨_,func219,rfl,rfl⟩
def P4:ax prog 269:=⟨_,func269,rfl,rfl⟩
def HQ:ax prog 218:=⟨_,func218,rfl,rfl⟩
def PF:ax prog 210:=⟨_,func210,rfl,rfl⟩
def PI:ax prog 214:=⟨_,func214,rfl,rfl⟩
def HO:ax prog 211:=⟨_,func211,rfl,rfl⟩
def PG:ax prog 213:=⟨_,func213,rfl,rfl⟩
def oF(n:Int):Bool:=(decide (97<=n) && decide (n<=122)) || (decide (65<=n) && decide (n<=90))
def pK(n:Int):Bool:=decide (48<=n) && decide (n<=57)
def mO(n:Int):Bool:=oF n || pK n || (n == 95)
def sQ(n:Int):Bool:=(n == 32) || (n == 9)
def lZ(n:Int):Bool:=!((n != 9) && (decide (n<32) || decide (n>126)))
def Tf(n:Int)(H:PH):br prog 265 #[.int .u8 n] H fun v H2=>v=.bool (oF n)/\H2=H:=by
 refine aP 17 func265 fun w0=>?_;cases h1:decide (97<=n)
 .cases h3:decide (65<=n)
  .refine lI h1 h3 ?_;exact aU (r:=[_]) rfl ⟨by simp only[oF,h1,h3];rfl,rfl⟩
  .cases h4:decide (n<=90)
   .apply RG;simp only[go_sem,h1,h3,h4];exact aU (r:=[_]) rfl ⟨by simp only[oF,h1,h3,h4];rfl,rfl⟩
   .apply RG;simp only[go_sem,h1,h3,h4];exact aU (r:=[_]) rfl ⟨by simp only[oF,h1,h3,h4];rfl,rfl⟩
 .cases h2:decide (n<=122)
  .cases h3:decide (65<=n)
   .apply RG;simp only[go_sem,h1,h2,h3];exact aU (r:=[_]) rfl ⟨by simp only[oF,h1,h2,h3];rfl,rfl⟩
   .cases h4:decide (n<=90)
    .apply RG;simp only[go_sem,h1,h2,h3,h4];exact aU (r:=[_]) rfl ⟨by simp only[oF,h1,h2,h3,h4];rfl,rfl⟩
    .apply RG;simp only[go_sem,h1,h2,h3,h4];exact aU (r:=[_]) rfl ⟨by simp only[oF,h1,h2,h3,h4];rfl,rfl⟩
  .refine lI h1 h2 ?_;exact aU (r:=[_]) rfl ⟨by simp only[oF,h1,h2];rfl,rfl⟩
def Di(n:Int)(H:PH):br prog 266 #[.int .u8 n] H fun v H2=>v=.bool (pK n)/\H2=H:=by
 refine aP 9 func266 fun w0=>?_;cases h1:decide (48<=n)
 .refine dq h1 ?_;exact aU (r:=[_]) rfl ⟨by simp only[pK,h1];rfl,rfl⟩
 .cases h2:decide (n<=57)
  .refine lI h1 h2 ?_;exact aU (r:=[_]) rfl ⟨by simp only[pK,h1,h2];rfl,rfl⟩
  .refine lI h1 h2 ?_;exact aU (r:=[_]) rfl ⟨by simp only[pK,h1,h2];rfl,rfl⟩
def JT(n:Int)(H:PH):br prog 212 #[.int .u8 n] H fun v H2=>v=.bool (mO n)/\H2=H:=by
 refine aP 13 func212 fun w0=>?_;refine ai ?_;refine X4 rfl P2 (Tf n H) ?_;rintro v H2⟨rfl,rfl⟩;cases h1:oF n
 .refine ai ?_;refine X4 rfl DS (Di n _) ?_;rintro v H2⟨rfl,rfl⟩;cases h2:pK n
  .cases h3:(n == 95)
   .refine dq h3 ?_;exact aU (r:=[_]) rfl ⟨by simp only[mO,h1,h2,h3];rfl,rfl⟩
   .refine dq h3 ?_;exact aU (r:=[_]) rfl ⟨by simp only[mO,h1,h2,h3];rfl,rfl⟩
  .refine ai ?_;exact aU (r:=[_]) rfl ⟨by simp only[mO,h1,h2];rfl,rfl⟩
 .refine ai ?_;exact aU (r:=[_]) rfl ⟨by simp only[mO,h1];rfl,rfl⟩
def Nu(n:Int)(H:PH):br prog 219 #[.int .u8 n] H fun v H2=>v=.bool (sQ n)/\H2=H:=by
 refine aP 9 func219 fun w0=>?_;cases h1:(n == 32)
 .cases h2:(n == 9)
  .refine lI h1 h2 ?_;exact aU (r:=[_]) rfl ⟨by simp only[sQ,h1,h2];rfl,rfl⟩
  .refine lI h1 h2 ?_;exact aU (r:=[_]) rfl ⟨by simp only[sQ,h1,h2];rfl,rfl⟩
 .refine dq h1 ?_;exact aU (r:=[_]) rfl ⟨by simp only[sQ,h1];rfl,rfl⟩
theorem fW(s:al):(⟨⟨s⟩⟩:ByteArray).size=s.length:=rfl
def yu(s:al)(i k:Nat):(⟨⟨s⟩⟩:ByteArray).extract i k=⟨⟨(s.drop i).take (k-i)⟩⟩:=by apply ByteArray.ext;rw[ByteArray.data_extract];apply Array.ext';simp[List.extract_eq_take_drop]
def UV(s t:al)(H:PH):br prog 269 #[.string ⟨⟨s⟩⟩,.string ⟨⟨t⟩⟩] H fun v H2=>v=.bool (t.isPrefixOf s)/\H2=H:=by
 refine aP 18 func269 fun w0=>?_;rcases aI s.length t.length with h|h
 .have h1:decide ((s.length:Int)>=(t.length:Int))=false:=cd O;have h2:t.isPrefixOf s=false:=by rw[Bool.eq_false_iff];intro e;have:=(List.isPrefixOf_iff_prefix.1 e).length_le;omega
  apply RG;simp only[go_sem,fW,h1];exact aU (r:=[_]) rfl ⟨by rw[h2];rfl,rfl⟩
 .have h1:decide ((s.length:Int)>=(t.length:Int))=true:=bl O;have h2:(s.take t.length == t)=t.isPrefixOf s:=by rw[Bool.eq_iff_iff,beq_iff_eq,List.isPrefixOf_iff_prefix,List.prefix_iff_eq_take];exact eq_comm
  apply RG;simp only[go_sem,fW,h1,yu,Int.toNat_zero,Nat.sub_zero,h2];refine⟨O,?_⟩;exact aU (r:=[_]) rfl ⟨rfl,rfl⟩
def J0(s t:al)(H:PH):br prog 218 #[.string ⟨⟨s⟩⟩,.string ⟨⟨t⟩⟩] H fun v H2=>v=.bool (t.isPrefixOf s)/\H2=H:=by refine aP 8 func218 fun w0=>?_;refine ai ?_;refine X4 rfl P4 (UV s t H) ?_;rintro v H2⟨rfl,rfl⟩;refine ai ?_;exact aU (r:=[_]) rfl ⟨rfl,rfl⟩
def bZ(c:UInt8):Int:=(c.toNat:Int)
variable{s:al}
def ux{c:UInt8}(h:s[i]?=some c):((zH ⟨⟨s⟩⟩ i:Nat):Int)=bZ c:=by unfold zH bZ;rw[List.getD_eq_getElem?_getD,h];rfl
def wI(s:al)(i:Nat):St:=⟨dn 26 [(0,.v (.string ⟨⟨s⟩⟩)),(5,.v (E s.length)),(6,.v (E i))],[]⟩
def Nc(s:al)(l:s.length<2^60)(H:PH):br prog 210 #[.string ⟨⟨s⟩⟩] H fun v H2=>v=.bool (s.all fun c=>lZ (bZ c))/\H2=H:=by
 refine aP 26 func210 fun w0=>?_;apply RG;simp only[go_sem,fW];refine bY (fun x=>s.length-x) (wI s) (fun i H2=>H2=H/\i<=s.length/\((s.drop i).all fun c=>lZ (bZ c))=(s.all fun c=>lZ (bZ c))) 0 ak (by simp only[go_sem,Y,wI]) ⟨rfl,aF _,rfl⟩ ?_;rintro i H2 ⟨rfl,hi,ha⟩ d;simp only[wI];rcases aI i s.length with e|k
 .have h:=Z5 i s.length;have e1:=Z7 i;obtain⟨c,j⟩:∃c,s[i]?=some c:=⟨_,aZ e⟩;have hb:=ux j;have hd:s.drop i=c::s.drop (i+1):=by rw[js e];rw[aZ e]at j;rw[cW j]
  rw[hd,List.all_cons]at ha;cases f:(bZ c != 9)
  .have g:lZ (bZ c)=true:=by simp only[lZ,f];rfl
   apply RG;simp only[go_sem,E,h,hb,f,e1];refine⟨by (try simp only[fW]);omega,?_⟩;exact d (i+1) _ _ O ak (by simp only[go_sem,Y,wI]) ⟨rfl,e,by rw[<-ha,g,Bool.true_and]⟩
  .cases b:decide (bZ c<32)
   .cases a:decide (bZ c>126)
    .have g:lZ (bZ c)=true:=by simp only[lZ,f,b,a];rfl
     apply RG;simp only[go_sem,E,h,hb,f,b,a,e1];refine⟨by (try simp only[fW]);omega,?_⟩;exact d (i+1) _ _ O ak (by simp only[go_sem,Y,wI]) ⟨rfl,e,by rw[<-ha,g,Bool.true_and]⟩
    .have g:lZ (bZ c)=false:=by simp only[lZ,f,b,a];rfl
     apply RG;simp only[go_sem,E,h,hb,f,b,a];refine⟨by (try simp only[fW]);omega,?_⟩;exact aU (r:=[_]) rfl ⟨by rw[<-ha,g];rfl,rfl⟩
   .have g:lZ (bZ c)=false:=by simp only[lZ,f,b];rfl
    apply RG;simp only[go_sem,E,h,hb,f,b];refine⟨by (try simp only[fW]);omega,?_⟩;exact aU (r:=[_]) rfl ⟨by rw[<-ha,g];rfl,rfl⟩
 .have:i=s.length:=by omega
  subst this;have h:=Z6 s.length;rw[jk]at ha;refine be h ?_;exact aU (r:=[_]) rfl ⟨by rw[<-ha];rfl,rfl⟩
def mJ(s:al):Bool:=!(s.isEmpty || decide (s.length>32) || pK (bZ (s.getD 0 0))) && s.all fun c=>mO (bZ c)
def AK(s:al)(i:Nat):St:=⟨dn 27 [(0,.v (.string ⟨⟨s⟩⟩)),(17,.v (E s.length)),(18,.v (E i))],[]⟩
def Rz(s:al)(H:PH):br prog 214 #[.string ⟨⟨s⟩⟩] H fun v H2=>v=.bool (mJ s)/\H2=H:=by
 refine aP 27 func214 fun w0=>?_;cases s with
 |nil=>refine ai ?_;exact aU (r:=[_]) rfl ⟨rfl,rfl⟩
 |cons c0 p=>
  generalize hs:c0::p=s;have f:(s == [])=false:=by rw[<-hs];rfl
  have q:0<s.length:=by rw[<-hs];simp
  have h:s.isEmpty=false:=by rw[<-hs];rfl
  have k:s[0]?=some (s.getD 0 0):=by rw[<-hs];rfl
  clear hs c0 p;have m:=ux k;have u:(0:Int)<=0/\(0:Int)<((⟨⟨s⟩⟩:ByteArray).size:Int):=⟨O,by rw[fW];omega⟩;cases b:decide ((s.length:Int)>32)
  rotate_left
  .have e:mJ s=false:=by have:decide (s.length>32)=true:=bl (by have:=ng b;omega);simp[mJ,this]
   apply RG;simp only[go_sem,f,fW,b];exact aU (r:=[_]) rfl ⟨by rw[e];rfl,rfl⟩
  have t:=Cg b;have g:decide (s.length>32)=false:=cd O;apply RG;simp only[go_sem,f,fW,b,Int.toNat_zero,m];refine⟨O,?_⟩;refine X4 rfl DS (Di _ _) ?_;rintro v H2⟨rfl,rfl⟩;cases j:pK (bZ (s.getD 0 0))
  rotate_left
  .have e:mJ s=false:=by simp only[mJ,j,Bool.or_true,cP,Bool.false_and]
   refine ai ?_;exact aU (r:=[_]) rfl ⟨by rw[e];rfl,rfl⟩
  have e:mJ s=s.all fun c=>mO (bZ c):=by simp only[mJ,h,g,j];simp
  rw[e];apply RG;simp only[go_sem,fW];refine bY (fun x=>s.length-x) (AK s) (fun i w=>w=H2/\i<=s.length/\((s.drop i).all fun c=>mO (bZ c))=(s.all fun c=>mO (bZ c))) 0 ak (by simp only[go_sem,Y,AK]) ⟨rfl,aF _,rfl⟩ ?_;rintro i w ⟨rfl,hi,ha⟩ d;simp only[AK];rcases aI i s.length with a|y
  .have o:=Z5 i s.length;have e1:=Z7 i;obtain⟨c,l⟩:∃c,s[i]?=some c:=⟨_,aZ a⟩;have hb:=ux l;have hd:s.drop i=c::s.drop (i+1):=by rw[js a];rw[aZ a]at l;rw[cW l]
   rw[hd,List.all_cons]at ha;refine dW o hb ?_;refine⟨by (try simp only[fW]);omega,?_⟩;refine X4 rfl HP (JT _ _) ?_;rintro v H2⟨rfl,rfl⟩;cases hp:mO (bZ c)
   .apply RG;simp only[go_sem,ds];exact aU (r:=[_]) rfl ⟨by rw[<-ha,hp];rfl,rfl⟩
   .apply RG;simp only[go_sem,cP,e1];exact d (i+1) _ _ O ak (by simp only[go_sem,Y,AK]) ⟨rfl,a,by rw[<-ha,hp,Bool.true_and]⟩
  .have:i=s.length:=by omega
   subst this;have o:=Z6 s.length;rw[jk]at ha;refine be o ?_;exact aU (r:=[_]) rfl ⟨by rw[<-ha];rfl,rfl⟩
def fS:al->Nat
 | []=>0
 |c::s=>if mO (bZ c)then fS s+1 else 0
def Bn(i:Nat)(sb k:Nat):St:=⟨dn 22 [(0,.v (E i)),(1,.v (pt sb)),(4,.v (E k))],[]⟩
def Kc{H:PH}{sb:Nat}(hs:aX H sb 0 [.string ⟨⟨s⟩⟩])(hi:i<=s.length)(m:s.length<2^60):br prog 211 #[E i,pt sb] H fun v H2=>v=.string ⟨⟨(s.drop i).take (fS (s.drop i))⟩⟩/\H2=H:=by
 refine aP 22 func211 fun w0=>?_
 try simp only[E,pt]
 refine ai ?_;refine bY (fun x=>s.length-x) (Bn i sb) (fun k H2=>H2=H/\i<=k/\k<=s.length/\fS (s.drop i)=(k-i)+fS (s.drop k)) i cJ (by simp only[go_sem,Y,Bn]) ⟨rfl,aR _,hi,by simp⟩ ?_;rintro k H2 ⟨rfl,g,f,hr⟩ b;simp only[Bn];have fin:fS (s.drop k)=0->k-i=fS (s.drop i):=fun h=>by omega
 rcases aI k s.length with a|j
 .have e:=Z5 k s.length;have e1:=Z7 k;obtain⟨c,d⟩:∃c,s[k]?=some c:=⟨_,aZ a⟩;have hb:=ux d;have hd:s.drop k=c::s.drop (k+1):=by rw[js a];rw[aZ a]at d;rw[cW d]
  refine dI ?_;refine X5 (l:=[.string ⟨⟨s⟩⟩]) rfl hs (.inr ⟨gM,rfl⟩) ?_;apply RG;simp only[go_sem,fW,e];refine X5 (l:=[.string ⟨⟨s⟩⟩]) rfl hs (.inr ⟨gM,rfl⟩) ?_;refine dq hb ?_;refine⟨by (try simp only[fW]);omega,?_⟩;refine X4 rfl HP (JT _ _) ?_;rintro v H2⟨rfl,rfl⟩;cases hp:mO (bZ c)
  .have h0:fS (s.drop k)=0:=by rw[hd,fS,hp];rfl
   refine dI ?_;refine X5 (l:=[.string ⟨⟨s⟩⟩]) rfl hs (.inr ⟨gM,rfl⟩) ?_;apply RG;simp only[go_sem,yu,fin h0];refine⟨by (try simp only[fW]);omega,?_⟩;exact aU (r:=[_]) rfl ⟨rfl,rfl⟩
  .refine dq e1 ?_;exact b (k+1) _ _ O cJ (by simp only[go_sem,Y,Bn]) ⟨rfl,O,a,by rw[hr,hd,fS,hp];simp;omega⟩
 .have:k=s.length:=by omega
  subst this;have e:=Z6 s.length;have h0:fS (s.drop s.length)=0:=by rw[jk];rfl
  refine dI ?_;refine X5 (l:=[.string ⟨⟨s⟩⟩]) rfl hs (.inr ⟨gM,rfl⟩) ?_;apply RG;simp only[go_sem,fW,e];refine X5 (l:=[.string ⟨⟨s⟩⟩]) rfl hs (.inr ⟨gM,rfl⟩) ?_;apply RG;simp only[go_sem,yu,fin h0];refine⟨by (try simp only[fW]);omega,?_⟩;exact aU (r:=[_]) rfl ⟨rfl,rfl⟩
def T3{H:PH}{sb fb:Nat}(hs:aX H sb 0 [.string ⟨⟨s⟩⟩])(hf:aX H fb 0 [.func (.func 211) #[] #[pt sb]])(hi:i<=s.length)(a:s.length<2^60):
  br prog 213 #[E i,pt fb] H fun v H2=>v=(if mJ ((s.drop i).take (fS (s.drop i)))then .tuple #[.int .u8 1,.string ⟨⟨(s.drop i).take (fS (s.drop i))⟩⟩]else .tuple #[.int .u8 0,.string ⟨⟨[]⟩⟩])/\H2=H:=by
 refine aP 12 func213 fun w0=>?_
 try simp only[E,pt]
 refine ai ?_;refine X5 (l:=[.func (.func 211) #[] #[pt sb]]) rfl hf (.inr ⟨CL,rfl⟩) ?_;refine dI ?_;refine X4 rfl HO (Kc hs hi a) ?_;rintro v H2⟨rfl,rfl⟩;refine ai ?_;refine X4 rfl PI (Rz _ _) ?_;rintro v H2⟨rfl,rfl⟩;cases h:mJ ((s.drop i).take (fS (s.drop i)))
 .refine ai ?_;exact aU (r:=[_,_]) rfl ⟨rfl,rfl⟩
 .refine ai ?_;exact aU (r:=[_,_]) rfl ⟨rfl,rfl⟩
def PL:ax prog 217:=⟨_,func217,rfl,rfl⟩
section
variable {C:Cx} {P:Program} {k:List Item} {σ:St} {H:PH}
variable{v:Value}{cs:Array Value}{kk:IntKind}{e:TypeId}
def V8{o:Oper}{T:TypeId}{len n:Nat}{x y:Operand}(aa:o.op=.index T x y)(f:P.underlying T=some (.array len e))(hi:∃i,P.info? e=some i/\i.size=1)(ha:bp P e=some none)
  (d:ev σ x=.v (.agg cs)) (c:ev σ y=.v (.int kk n)) (h:n<len) (hv:cs.toList[n]?=some v):bQ σ o.op=true/\eD P (execOp (bf σ) o) H fun sv H2=>sv=.v v/\H2=H:=by
 constructor
 .simp[bQ,aa,fB,Op.operands,d,c,fO]
 .intro w g;obtain⟨i,hi,hs⟩:=hi;have b:(sizeOf e).run P w=.ok 1 w:=by simp[sizeOf,typeInfo,program,Sem.run,hi,hs]
  have hp:=x8 (P:=P) (w:=w) (T:=e) (cs:=cs) (n:=n) (v:=v) (by unfold l6;rw[ha];exact hv);have h0:(0:Int)<=(n:Int)/\(n:Int)<(len:Int):=⟨O,O⟩;have a:(execOp (bf σ) o).run P w=.ok (.value v) w:=by simp[execOp,aa,bf,d,c,Instr.index,asIntOf,eV f,run_underlying f,Result.andThen,b,h0,hp,ag h]
  rw[a];exact⟨H,cM.refl g,rfl,rfl⟩
def L4{ol rem:List Oper}{o:Oper}{T:TypeId}{len n:Nat}{x y:Operand}(f:bH ol σ o=some true)(aa:o.op=.index T x y)(g:C.P.underlying T=some (.array len e))(hi:∃i,C.P.info? e=some i/\i.size=1)(ha:bp C.P e=some none)
  (d:ev σ x=.v (.agg cs)) (c:ev σ y=.v (.int kk n)) (h:n<len) (hv:cs.toList[n]?=some v) (j:RC C (.op ol rem k) (σ.put o.dst (.v v)) H):RC C (.op ol (o::rem) k) σ H:=by
 obtain⟨a,b⟩:=V8 (H:=H) aa g hi ha d c h hv;exact jw f a (b.mono fun sv H2 ⟨e1,e2⟩=>by subst e1;subst e2;exact j)
end
def kB:List al:=[[60,61],[62,61],[61,61],[33,61],[38,38],[124,124],[43],[45],[42],[47],[37],[60],[62],[61],[33],[40],[41],[123],[125],[44],[59],[58]]
def rZ:List Value:=kB.map fun x=>.string ⟨⟨x⟩⟩
def wA(H:PH):Prop:=aX H 0 0 rZ
def wA.le{I J:PH}(h:wA I)(k:I.le J):wA J:=aX.le h k
theorem Lz:prog.underlying 317=some (.array 22 9):=by kernel_rfl
theorem Re:(prog.info? 9).map (·.size)=some 1:=by kernel_rfl
def Rd:∃i,prog.info? 9=some i/\i.size=1:=by
 have h:=Re;cases e:prog.info? 9 with
 |none=>rw[e]at h;cases h
 |some i=>rw[e]at h;exact⟨i,rfl,cW h⟩
def Bu(i sb k:Nat):St:=⟨dn 18 [(0,.v (E i)),(1,.v (pt sb)),(7,.v (.agg rZ.toArray)),(8,.v (E k))],[]⟩
def Bx(s:al)(i:Nat):Value:=match kB.find? fun x=>x.isPrefixOf (s.drop i)with
 |some x=>.tuple #[.int .u8 3,.string ⟨⟨x⟩⟩]
 |none=>.tuple #[.int .u8 0,.string ⟨⟨[]⟩⟩]
def VG{H:PH}{sb i:Nat}{s:al}(g:wA H)(hs:aX H sb 0 [.string ⟨⟨s⟩⟩])(hi:i<=s.length)(h:s.length<2^60):
  br prog 217 #[E i,pt sb] H fun v H2=>v=Bx s i/\H2=H:=by
 refine aP 18 func217 fun w0=>?_
 try simp only[E,pt]
 refine ai ?_;refine X5 (l:=rZ) (v:=.agg rZ.toArray) rfl g (.inl ⟨Gn,rfl⟩) ?_;refine ai ?_;refine bY (fun k=>22-k) (Bu i sb) (fun k H2=>H2=H/\k<=22/\kB.find? (fun x=>x.isPrefixOf (s.drop i))=(kB.drop k).find? fun x=>x.isPrefixOf (s.drop i)) 0 cJ (by simp only[go_sem,Y,Bu]) ⟨rfl,aF _,rfl⟩ ?_;rintro k H2 ⟨rfl,j,hf⟩ b;simp only[Bu];rcases aI k 22 with a|f
 .have e:decide ((k:Int)<22)=true:=bl O;have e1:=Z7 k;obtain⟨x,d⟩:∃x,kB[k]?=some x:=⟨_,aZ (by simpa[kB]using a)⟩;have hd:kB.drop k=x::kB.drop (k+1):=by
   have c:k<kB.length:=by simpa[kB]using a
   rw[js c];rw[aZ c]at d;rw[cW d]
  have hv:rZ.toArray.toList[k]?=some (.string ⟨⟨x⟩⟩):=by simp[rZ,d]
  have tk:(s.drop i).take (s.length-i)=s.drop i:=yU (by simp);rw[hd,List.find?_cons]at hf;refine eb e ?_;refine L4 (n:=k) rfl rfl (by exact Lz) Rd (by exact gM) rfl rfl a hv ?_;refine dI ?_;refine X5 (l:=[.string ⟨⟨s⟩⟩]) rfl hs (.inr ⟨gM,rfl⟩) ?_;apply RG;simp only[go_sem,fW,yu,tk];refine⟨O,?_⟩;refine X4 rfl HQ (J0 _ _ _) ?_;rintro v H2⟨rfl,rfl⟩;cases hp:x.isPrefixOf (s.drop i)
  .rw[hp]at hf;refine dq e1 ?_;exact b (k+1) _ _ O cJ (by simp only[go_sem,Y,Bu]) ⟨rfl,a,hf⟩
  .rw[hp]at hf;refine ai ?_;exact aU (r:=[_,_]) rfl ⟨by unfold Bx;rw[hf];rfl,rfl⟩
 .have:k=22:=by omega
  subst this;have e:decide ((22:Int)<22)=false:=by decide
  apply RG;simp only[go_sem,E,pt,dL,e];exact aU (r:=[_,_]) rfl ⟨by unfold Bx;rw[hf];rfl,rfl⟩
end Go.Proofs.YtfaclfkpnmcmlaaGreatDoor
namespace Go.Proofs
open Go.Shelf
def lays171_ren:Go.Shelf.Ren:=⟨fun|171=>268|243=>295|246=>308|283=>315|284=>316|285=>317|286=>318|129=>280|317=>321|318=>322|319=>323|320=>324|337=>325|338=>326|n=>n,fun|3=>3|9=>9|2=>2|4=>4|171=>398|0=>0|53=>366|37=>268|5=>5|173=>400|212=>406|51=>23|20=>20|213=>407|46=>325|232=>408|233=>409|n=>n,fun|17=>3|18=>4|19=>5|n=>n⟩
theorem lays171:Go.Proofs.Lays.n171 prog lays171_ren:={
 mixed:=by kernel_rfl
 f129:=func280.trans (congrArg some (by kernel_rfl))
 f171:=func268.trans (congrArg some (by kernel_rfl))
 f243:=func295.trans (congrArg some (by kernel_rfl))
 f246:=func308.trans (congrArg some (by kernel_rfl))
 f283:=func315.trans (congrArg some (by kernel_rfl))
 f284:=func316.trans (congrArg some (by kernel_rfl))
 f285:=func317.trans (congrArg some (by kernel_rfl))
 f286:=func318.trans (congrArg some (by kernel_rfl))
 f317:=func321.trans (congrArg some (by kernel_rfl))
 f318:=func322.trans (congrArg some (by kernel_rfl))
 f319:=func323.trans (congrArg some (by kernel_rfl))
 f320:=func324.trans (congrArg some (by kernel_rfl))
 f337:=func325.trans (congrArg some (by kernel_rfl))
 f338:=func326.trans (congrArg some (by kernel_rfl))
 t0:=underlying0
 a0:=isAgg0
 z0:=sizeOf0
 v0:=zeroValue0
 t2:=underlying2
 a2:=isAgg2
 z2:=sizeOf2
 v2:=zeroValue2
 t3:=underlying3
 a3:=isAgg3
 z3:=sizeOf3
 v3:=zeroValue3
 t4:=underlying4
 a4:=isAgg4
 z4:=sizeOf4
 v4:=zeroValue4
 t5:=underlying5
 a5:=isAgg5
 z5:=sizeOf5
 v5:=zeroValue5
 t9:=underlying9
 a9:=isAgg9
 z9:=sizeOf9
 v9:=zeroValue9
 t20:=underlying20
 a20:=isAgg20
 z20:=sizeOf20
 v20:=zeroValue20
 t37:=underlying268
 a37:=isAgg268
 z37:=sizeOf268
 v37:=zeroValue268
 t46:=underlying325
 a46:=isAgg325
 z46:=sizeOf325
 v46:=zeroValue325
 t51:=underlying23
 a51:=isAgg23
 z51:=sizeOf23
 v51:=zeroValue23
 t53:=underlying366
 a53:=isAgg366
 z53:=sizeOf366
 v53:=zeroValue366
 t171:=underlying398
 a171:=isAgg398
 z171:=sizeOf398
 v171:=zeroValue398
 t173:=underlying400
 a173:=isAgg400
 z173:=sizeOf400
 v173:=zeroValue400
 t212:=underlying406
 a212:=isAgg406
 z212:=sizeOf406
 v212:=zeroValue406
 t213:=underlying407
 a213:=isAgg407
 z213:=sizeOf407
 t232:=underlying408
 a232:=isAgg408
 z232:=sizeOf408
 v232:=zeroValue408
 t233:=underlying409
 a233:=isAgg409
 z233:=sizeOf409
 v233:=zeroValue409
 g17:=by kernel_rfl
 g18:=by kernel_rfl
 g19:=by kernel_rfl }
def laysC172_ren:Go.Shelf.Ren:=⟨fun|172=>267|244=>293|245=>294|247=>303|279=>304|280=>305|281=>306|282=>307|287=>312|316=>313|171=>268|205=>314|321=>319|322=>320|243=>295|246=>308|283=>315|284=>316|285=>317|286=>318|129=>280|317=>321|318=>322|319=>323|320=>324|337=>325|338=>326|n=>n,fun|9=>9|3=>3|75=>284|76=>285|4=>4|5=>5|167=>383|37=>268|0=>0|85=>384|2=>2|168=>386|53=>366|175=>393|46=>325|210=>396|127=>343|145=>405|143=>403|21=>21|171=>398|173=>400|212=>406|51=>23|20=>20|213=>407|232=>408|233=>409|80=>223|n=>n,fun|15=>1|16=>2|17=>3|18=>4|19=>5|n=>n⟩
theorem laysC172:Go.Proofs.LaysC.n172 prog laysC172_ren:={
 mixed:=by kernel_rfl
 f129:=func280.trans (congrArg some (by kernel_rfl))
 f171:=func268.trans (congrArg some (by kernel_rfl))
 f172:=func267.trans (congrArg some (by kernel_rfl))
 f205:=func314.trans (congrArg some (by kernel_rfl))
 f243:=func295.trans (congrArg some (by kernel_rfl))
 f244:=func293.trans (congrArg some (by kernel_rfl))
 f245:=func294.trans (congrArg some (by kernel_rfl))
 f246:=func308.trans (congrArg some (by kernel_rfl))
 f247:=func303.trans (congrArg some (by kernel_rfl))
 f279:=func304.trans (congrArg some (by kernel_rfl))
 f280:=func305.trans (congrArg some (by kernel_rfl))
 f281:=func306.trans (congrArg some (by kernel_rfl))
 f282:=func307.trans (congrArg some (by kernel_rfl))
 f283:=func315.trans (congrArg some (by kernel_rfl))
 f284:=func316.trans (congrArg some (by kernel_rfl))
 f285:=func317.trans (congrArg some (by kernel_rfl))
 f286:=func318.trans (congrArg some (by kernel_rfl))
 f287:=func312.trans (congrArg some (by kernel_rfl))
 f316:=func313.trans (congrArg some (by kernel_rfl))
 f317:=func321.trans (congrArg some (by kernel_rfl))
 f318:=func322.trans (congrArg some (by kernel_rfl))
 f319:=func323.trans (congrArg some (by kernel_rfl))
 f320:=func324.trans (congrArg some (by kernel_rfl))
 f321:=func319.trans (congrArg some (by kernel_rfl))
 f322:=func320.trans (congrArg some (by kernel_rfl))
 f337:=func325.trans (congrArg some (by kernel_rfl))
 f338:=func326.trans (congrArg some (by kernel_rfl))
 t0:=underlying0
 a0:=isAgg0
 z0:=sizeOf0
 v0:=zeroValue0
 t2:=underlying2
 a2:=isAgg2
 z2:=sizeOf2
 v2:=zeroValue2
 t3:=underlying3
 a3:=isAgg3
 z3:=sizeOf3
 v3:=zeroValue3
 t4:=underlying4
 a4:=isAgg4
 z4:=sizeOf4
 v4:=zeroValue4
 t5:=underlying5
 a5:=isAgg5
 z5:=sizeOf5
 v5:=zeroValue5
 t9:=underlying9
 a9:=isAgg9
 z9:=sizeOf9
 v9:=zeroValue9
 t20:=underlying20
 a20:=isAgg20
 z20:=sizeOf20
 v20:=zeroValue20
 t21:=underlying21
 a21:=isAgg21
 z21:=sizeOf21
 v21:=zeroValue21
 t37:=underlying268
 a37:=isAgg268
 z37:=sizeOf268
 v37:=zeroValue268
 t46:=underlying325
 a46:=isAgg325
 z46:=sizeOf325
 v46:=zeroValue325
 t51:=underlying23
 a51:=isAgg23
 z51:=sizeOf23
 v51:=zeroValue23
 t53:=underlying366
 a53:=isAgg366
 z53:=sizeOf366
 v53:=zeroValue366
 t75:=underlying284
 a75:=isAgg284
 z75:=sizeOf284
 v75:=zeroValue284
 t76:=underlying285
 a76:=isAgg285
 z76:=sizeOf285
 v76:=zeroValue285
 t85:=underlying384
 a85:=isAgg384
 z85:=sizeOf384
 v85:=zeroValue384
 t127:=underlying343
 a127:=isAgg343
 z127:=sizeOf343
 v127:=zeroValue343
 t143:=underlying403
 a143:=isAgg403
 z143:=sizeOf403
 v143:=zeroValue403
 t145:=underlying405
 a145:=isAgg405
 z145:=sizeOf405
 v145:=zeroValue405
 t167:=underlying383
 a167:=isAgg383
 z167:=sizeOf383
 v167:=zeroValue383
 t168:=underlying386
 a168:=isAgg386
 z168:=sizeOf386
 v168:=zeroValue386
 t171:=underlying398
 a171:=isAgg398
 z171:=sizeOf398
 v171:=zeroValue398
 t173:=underlying400
 a173:=isAgg400
 z173:=sizeOf400
 v173:=zeroValue400
 t175:=underlying393
 a175:=isAgg393
 z175:=sizeOf393
 v175:=zeroValue393
 t210:=underlying396
 a210:=isAgg396
 z210:=sizeOf396
 v210:=zeroValue396
 t212:=underlying406
 a212:=isAgg406
 z212:=sizeOf406
 v212:=zeroValue406
 t213:=underlying407
 a213:=isAgg407
 z213:=sizeOf407
 t232:=underlying408
 a232:=isAgg408
 z232:=sizeOf408
 v232:=zeroValue408
 t233:=underlying409
 a233:=isAgg409
 z233:=sizeOf409
 v233:=zeroValue409
 g15:=by kernel_rfl
 g16:=by kernel_rfl
 g17:=by kernel_rfl
 g18:=by kernel_rfl
 g19:=by kernel_rfl
 t80:=underlying223
 a80:=isAgg223
 z80:=sizeOf223
 v80:=zeroValue223
 i0:=by kernel_rfl
 i2:=by kernel_rfl
 i3:=by kernel_rfl
 i4:=by kernel_rfl
 i5:=by kernel_rfl
 i9:=by kernel_rfl
 i20:=by kernel_rfl
 i21:=by kernel_rfl
 i37:=by kernel_rfl
 i46:=by kernel_rfl
 i51:=by kernel_rfl
 i53:=by kernel_rfl
 i75:=by kernel_rfl
 i76:=by kernel_rfl
 i80:=by kernel_rfl
 i85:=by kernel_rfl
 i127:=by kernel_rfl
 i143:=by kernel_rfl
 i145:=by kernel_rfl
 i167:=by kernel_rfl
 i168:=by kernel_rfl
 i171:=by kernel_rfl
 i173:=by kernel_rfl
 i175:=by kernel_rfl
 i210:=by kernel_rfl
 i212:=by kernel_rfl
 i232:=by kernel_rfl
 i233:=by kernel_rfl
 m15:=by kernel_rfl
 m16:=by kernel_rfl
 m17:=by kernel_rfl
 m18:=by kernel_rfl
 m19:=by kernel_rfl
 c0:=by kernel_rfl
 c2:=by kernel_rfl
 c3:=by kernel_rfl
 c4:=by kernel_rfl
 c5:=by kernel_rfl
 c9:=by kernel_rfl
 c20:=by kernel_rfl
 c21:=by kernel_rfl
 c37:=by kernel_rfl
 c46:=by kernel_rfl
 c51:=by kernel_rfl
 c53:=by kernel_rfl
 c75:=by kernel_rfl
 c76:=by kernel_rfl
 c80:=by kernel_rfl
 c85:=by kernel_rfl
 c127:=by kernel_rfl
 c143:=by kernel_rfl
 c145:=by kernel_rfl
 c167:=by kernel_rfl
 c168:=by kernel_rfl
 c171:=by kernel_rfl
 c173:=by kernel_rfl
 c175:=by kernel_rfl
 c210:=by kernel_rfl
 c212:=by kernel_rfl
 c213:=by kernel_rfl
 c232:=by kernel_rfl
 c233:=by kernel_rfl }
open Go.RowKit in
theorem strconv_Atoi_ok(s:ByteArray)(a:s.size<=9223372036854775806)(v:Int)(h:Lib.atoiAll s.data.toList=.ok v)(w:World):
  Calls prog 267 #[.string s] w fun e b=>e=.returned (.tuple #[.int .i64 v,.nilIface])/\(b=w\/∃t,b=Lib.bytesWorld w 5 t):=Any.strconv_Atoi_ok laysC172 s a v h w
open Go.RowKit in
theorem strconv_Atoi_syntax(s:ByteArray)(a:s.size<=281474976710656)(h:Lib.atoiAll s.data.toList=Lib.NumEnd.syntax)(ev:Value)(w:World)(hv:w.cell? ⟨1,0,none⟩=some ev)(b:ev=.nilIface\/∃d f,ev=.iface d f):
  Calls prog 267 #[.string s] w fun e c=>∃N,e=.returned (.tuple #[.int .i64 (0),.iface 386 (.pointer (some ⟨N,0,none⟩))])/\w.heap.size<=N/\c.heap[N]?=some (.cells #[.string ⟨#[65,116,111,105]⟩,.string s,ev] 396 (0,0))/\Below w.heap.size w c:=Any.strconv_Atoi_syntax laysC172 s a h ev w hv b
theorem laysM171:Go.Proofs.LaysM.n171 prog lays171_ren:={ lays171 with
 i0:=by kernel_rfl
 i2:=by kernel_rfl
 i3:=by kernel_rfl
 i4:=by kernel_rfl
 i5:=by kernel_rfl
 i9:=by kernel_rfl
 i20:=by kernel_rfl
 i37:=by kernel_rfl
 i46:=by kernel_rfl
 i51:=by kernel_rfl
 i53:=by kernel_rfl
 i171:=by kernel_rfl
 i173:=by kernel_rfl
 i212:=by kernel_rfl
 i232:=by kernel_rfl
 i233:=by kernel_rfl
 m17:=by kernel_rfl
 m18:=by kernel_rfl
 m19:=by kernel_rfl }
open Go.RowKit in
theorem strconv_Atoi_range(s:ByteArray)(a:s.size<=281474976710656)(h:Lib.atoiAll s.data.toList=.range)(ev:Value)(w:World)(hv:w.cell? ⟨2,0,none⟩=some ev)(b:ev=.nilIface\/∃d f,ev=.iface d f):
  Calls prog 267 #[.string s] w fun e c=>∃N,e=.returned (.tuple #[.int .i64 (Lib.atoiSat s.data.toList),.iface 386 (.pointer (some ⟨N,0,none⟩))])/\w.heap.size<=N/\c.heap[N]?=some (.cells #[.string ⟨#[65,116,111,105]⟩,.string s,ev] 396 (0,0))/\Below w.heap.size w c:=Any.strconv_Atoi_range laysC172 s a h ev w hv b
open Go.Sort in
theorem strconv_Itoa (n:Int) (h0:-9223372036854775808<=n) (h1:n<=9223372036854775807) (w:World) (a:Lib.TabIs prog w "internal/strconv.uint64pow10" .u64 Lib.pow10Tab) :
  Calls prog 268 #[.int .i64 n] w fun e b=>e=.returned (.string ⟨(Lib.itoa n).toArray⟩)/\∃k os,b=grow (w.drewN k) os:=Any.strconv_Itoa laysM171 n h0 h1 w a
end Go.Proofs
