import Derived.Test.YtfaclfkpnmcmlaaGreatDoorH12
set_option maxHeartbeats 8000000
set_option linter.all false
namespace Go.Proofs.YtfaclfkpnmcmlaaGreatDoor
open Go Go.Sx Dg Syn
def qI:aO Tryz.prog 201:=⟨_,Tryz.func201,rfl,rfl⟩
def BN:aO Tryz.prog 202:=⟨_,Tryz.func202,rfl,rfl⟩
def Sl.nil{α:Type}(R:PH->List Value->α->Prop)(I:PH):Sl R I (.slice none 0 0) ([]:List α):=⟨none,0,rfl,.inl rfl⟩
def YK(pb:Nat)(lv fv ov:Value)(o:Nat)(hs:List aB)(F:Syn.bW->aB->Syn.bW)(e:List cO)(I0:PH)(x:Nat×Value×Value×Value)(H:PH):Prop:=
 ∃I D A B,H=U [I,sg pb (cg lv fv ov x.2.2.2 o),D,A,B]/\Dj [I,sg pb (cg lv fv ov x.2.2.2 o),D,A,B]/\I0.le I/\x.1<=hs.length/\eF I D x.2.2.2 (e++((hs.take x.1).foldl F ⟨[],[],[]⟩).e)/\bQ I A x.2.1 ((hs.take x.1).foldl F ⟨[],[],[]⟩).l/\jy I B x.2.2.1 ((hs.take x.1).foldl F ⟨[],[],[]⟩).f
def RN(r:Syn.bW):Value->PH->List PH->Prop:=fun v I2 rs=>∃A B va vb,rs=[A,B]/\v=.tuple #[va,vb]/\bQ I2 A va r.l/\jy I2 B vb r.f
def Um(pb kind slot:Nat)(vh:Value)(n:Nat)(x:Nat×Value×Value×Value):St:=⟨dn 55 [(0,.v (pt pb)),(2,.v (.int .u8 kind)),(3,.v (iv slot)),(10,.v x.2.1),(11,.v x.2.2.1),(16,.v vh),(17,.v (iv n)),(18,.v (iv x.1))],[]⟩
variable{I:PH}
theorem P0{D:PH}{pb:Nat}{ts:List Tok}{lv fv ov dv vf:Value}{o kind slot:Nat}{f:ar}{e:List cO}(h:zr I ts lv fv)(hf:eR I vf f)(fn:FN ts.length f)(he:eF I D dv e)(hm:e.length+(named ts f kind slot).e.length<=ux):
  aK Tryz.prog 201 #[pt pb,vf,.int .u8 kind,iv slot] I [sg pb (cg lv fv ov dv o),D] (PP pb lv fv ov o (e++(named ts f kind slot).e) (RN (named ts f kind slot))):=by
 intro hd;have hl:=h.len;refine ah 55 Tryz.func201 fun w0=>?_
 try simp only[iv,pt]
 refine aT ?_;refine DY hd [0,1] rfl kU rfl (ps:=[sg pb _]) (F:=[D]) rfl (kW h hf fn) fun v I2 qs b4 aS hq=>?_;obtain⟨rfl,hH⟩:=hq;obtain⟨ha,hc,rfl,_⟩:=id hH;simp only[aaz,aaA]at b4 |-;refine dP ?_;rw[lR]at hm |-;have hN:∀x∈bE ts f,kS ts x:=fun x hx=>b9 h.ok fn hx;have cA:=fM h.ok fn;have ct:=hH;generalize bE ts f=ac at *;refine aR b4 fun cn=>?_;refine aR cn fun cm=>?_;refine bf cm [2,3,0,1] fun cl=>?_;refine aA (fun x=>ac.length-x.1) (Um pb kind slot (.slice ha ac.length hc) ac.length) (YK pb lv fv ov o ac (cE kind slot) e I2) (0,.slice none 0 0,.slice none 0 0,dv) gP (by simp only[go_sem,aa6,Um]) ?_ ?_
 ·exact⟨I2,D,PH.no,PH.no,rfl,cl,abW _,aaL _,by simpa using eF.le he aS,Ow.nil _ _ _ _,Ow.nil _ _ _ _⟩
 rintro⟨i,va,vb,dv⟩ H ⟨I3,D3,A3,B3,rfl,a5,am,ci,hE,hA,hB⟩ an;simp only at ci hE hA hB;simp only[Um];have cr:qO I3 (.slice ha ac.length hc) ac:=ct.le am;have bx:FN ts.length ((ac.take i).foldl (cE kind slot) ⟨[],[],[]⟩).f:=zm fun x hx=>hN x (abf hx);have c0:=bx.len;rcases aaf i ac.length with ba|cB
 ·have a9:decide ((i:Int)<(ac.length:Int))=true:=by simp;omega
  have e1:=wrap64 (n:=i+1) ab;have b2:IntKind.i64.wrap ((i:Int)+1)=((i+1:Nat):Int):=by rw[<-e1];congr 1
  obtain⟨x,hx⟩:∃x,ac[i]?=some x:=⟨_,aak ba⟩;have ca:=aaV hx;have bb:=hN x ca;obtain⟨b,off,cs,rfl,cp,a7⟩:=cr.load l7.len hx;obtain⟨xa,xk,rfl,aq⟩:=cp;have ak:=dm (g:=cE kind slot) (z:=⟨[],[],[]⟩) hx;have ao:=oE (g:=cE kind slot) (fun r=>r.e.length) (fun z y=>by unfold cE;split<;>simp) ac (i+1) ⟨[],[],[]⟩;rw[ak]at ao;have cx:=rF (kind:=kind) (slot:=slot) (ac.take i) ⟨[],[],[]⟩;simp only[aaO,abF]at cx;apply RG;simp only[go_sem,a9,iv,pt];refine⟨ab,?_⟩;refine XN (l:=[iv x.at',sD xa xk x.cond,rD x.cond,.int .u8 x.kind,.string ⟨⟨x.text⟩⟩]) (v:=.agg #[iv x.at',sD xa xk x.cond,rD x.cond,.int .u8 x.kind,.string ⟨⟨x.text⟩⟩]) rfl (cellsU a5 (.head _) a7) (.inl ⟨gI,rfl⟩) ?_;by_cases hk:x.kind=1
  ·have b1:((x.kind:Int) != 1)=false:=by simp[hk]
   apply RG;simp only[go_sem,a9,iv,pt,sD,rD,b1,abQ,abK];refine WZ rfl Q8 My fun v H2 hv=>?_;obtain⟨rfl,rfl⟩:=hv;cases hw:dG x.text
   ·refine dg ?_;have aa:(ac.take (i+1)).foldl (cE kind slot) ⟨[],[],[]⟩=⟨((ac.take i).foldl (cE kind slot) ⟨[],[],[]⟩).l++[⟨kind,x.text,x.at',slot,[],x.cond⟩],Syn.join ((ac.take i).foldl (cE kind slot) ⟨[],[],[]⟩).f (x.at'+1) x.cond,((ac.take i).foldl (cE kind slot) ⟨[],[],[]⟩).e⟩:=by rw[ak];unfold cE;rw[ZV (by simp[hk,hw])]
    have cb:=bb.lt (.inr ab);have e2:=wrap64 (n:=x.at'+1) ab;have cy:IntKind.i64.wrap ((x.at':Int)+1)=((x.at'+1:Nat):Int):=by rw[<-e2];congr 1
    refine ax a5 (by exact dQ) rfl rfl rfl rfl rfl bg fun nb I4 a3 aj cc=>?_;refine dg ?_;refine bf a3 [2,0,1,3] fun b3=>?_;obtain⟨bs,a1,bd⟩:=hA;obtain⟨xsa,xsc,rfl⟩:=a1.slice;refine dZ (m:=1) b3 (by exact dQ) a1 rfl rfl rfl rfl (cellsU b3 (.head _) (az (l:=[.int .u8 kind,.string ⟨⟨x.text⟩⟩,.int .i64 x.at',.int .i64 slot,.slice none 0 0,.slice xa (T.subs x.cond).length xk,iv (T.plc (T.subs x.cond) x.cond)]) cc (by simp[aD,Value.cells]) (by simp[aD,Value.cells,iv]))) rfl rfl ab (by unfold maxLen;omega) fun v' I5 A4 cj a2 b6=>?_;obtain⟨na,nc,rfl⟩:=b6.slice;obtain⟨ta,tc,rfl⟩:=hB.shape;apply RG;simp only[go_sem,iv,pt,sD,rD,cy];refine ad cj [3,1,2,0] [B3] [sg pb _,D3,A4] rfl ej rfl (bK (a:=x.at'+1) (hB.le (abV aj a2)) (aq.le (abV aj a2)) bx.ok.2 (fun t ht=>by have:=bx.le t ht;omega) ab ab) fun v I6 qs a6 a4 hq=>?_;obtain⟨B4,rfl,b5⟩:=hq;obtain⟨ta2,tc2,rfl⟩:=b5.shape;simp only[aaz,aaA]at a6 |-;apply RG;simp only[go_sem,iv,pt,sD,rD,b2];refine bf a6 [1,2,3,0] fun bc=>?_;have a0:=abV aj (abV a2 a4);refine an (i+1,.slice na (((ac.take i).foldl (cE kind slot) ⟨[],[],[]⟩).l.length+1) nc,.slice ta2 (Syn.join ((ac.take i).foldl (cE kind slot) ⟨[],[],[]⟩).f (x.at'+1) x.cond).length tc2,dv) _ _ dt gP (by simp only[go_sem,aa6,Um]) ⟨I6,D3,A4,B4,rfl,bc,abV am a0,ba,by simp only;rw[aa];exact hE.le a0,⟨bs++[.int .u8 kind,.string ⟨⟨x.text⟩⟩,.int .i64 x.at',.int .i64 slot,.slice none 0 0,.slice xa (T.subs x.cond).length xk,iv (T.plc (T.subs x.cond) x.cond)],?_,?_⟩,by simp only;rw[aa];exact b5⟩
    ·simp only;rw[aa];simp only[aa9,aaJ];exact b6
    ·simp only;rw[aa];exact LR.app (bd.mono fun _ _ h=>bm.le h a0) (.one (bm.mk (n:=⟨kind,x.text,x.at',slot,[],x.cond⟩) (aq.le a0) (Sl.nil _ _) lM))
   ·refine dg ?_;have aa:(ac.take (i+1)).foldl (cE kind slot) ⟨[],[],[]⟩={ ((ac.take i).foldl (cE kind slot) ⟨[],[],[]⟩)with e:=((ac.take i).foldl (cE kind slot) ⟨[],[],[]⟩).e++cJ x 10 }:=by rw[ak];unfold cE;rw[aaq (.inr hw)]
    refine ad a5 [0,1,2,3] [sg pb _,D3] [A3,B3] rfl kX rfl (ow (h.le (abV aS am)) bb.le aq hE (by rw[<-ak,aa]at ao;simp[cJ]at ao |-;omega)) fun v I4 qs a3 aj hq=>?_;obtain⟨dv2,D4,rs,rfl,b0,rfl⟩:=hq;simp only[aaz,aaA]at a3 |-;apply RG;simp only[go_sem,iv,pt,sD,rD,b2];exact an (i+1,va,vb,dv2) _ _ dt gP (by simp only[go_sem,aa6,Um]) ⟨I4,D4,A3,B3,rfl,a3,abV am aj,ba,by simp only;rw[aa,<-aaT];exact b0,by simp only;rw[aa];exact hA.le aj,by simp only;rw[aa];exact hB.le aj⟩
  ·have b1:((x.kind:Int) != 1)=true:=by simp;omega
   apply RG;simp only[go_sem,a9,iv,pt,sD,rD,b1,abQ,abK];have aa:(ac.take (i+1)).foldl (cE kind slot) ⟨[],[],[]⟩={ ((ac.take i).foldl (cE kind slot) ⟨[],[],[]⟩)with e:=((ac.take i).foldl (cE kind slot) ⟨[],[],[]⟩).e++cJ x 10 }:=by rw[ak];unfold cE;rw[aaq (.inl hk)]
   refine ad a5 [0,1,2,3] [sg pb _,D3] [A3,B3] rfl kX rfl (ow (h.le (abV aS am)) bb.le aq hE (by rw[<-ak,aa]at ao;simp[cJ]at ao |-;omega)) fun v I4 qs a3 aj hq=>?_;obtain⟨dv2,D4,rs,rfl,b0,rfl⟩:=hq;simp only[aaz,aaA]at a3 |-;apply RG;simp only[go_sem,iv,pt,sD,rD,b2];exact an (i+1,va,vb,dv2) _ _ dt gP (by simp only[go_sem,aa6,Um]) ⟨I4,D4,A3,B3,rfl,a3,abV am aj,ba,by simp only;rw[aa,<-aaT];exact b0,by simp only;rw[aa];exact hA.le aj,by simp only;rw[aa];exact hB.le aj⟩
 ·have cf:i=ac.length:=by omega
  subst cf;have a9:=Z6 ac.length;rw[aaS]at hE hA hB;apply RG;simp only[go_sem,a9,iv,pt];exact af rfl a5 (r:=[va,vb]) rfl (abV aS am) ⟨_,D3,[A3,B3],rfl,hE,A3,B3,va,vb,rfl,rfl,hA,hB⟩
def Ui(pb slot:Nat)(vh:Value)(n:Nat)(x:Nat×Value×Value×Value):St:=⟨dn 52 [(0,.v (pt pb)),(2,.v (iv slot)),(8,.v x.2.1),(9,.v x.2.2.1),(14,.v vh),(15,.v (iv n)),(16,.v (iv x.1))],[]⟩
theorem P5{D:PH}{pb:Nat}{ts:List Tok}{lv fv ov dv vf:Value}{o slot:Nat}{f:ar}{e:List cO}(h:zr I ts lv fv)(hf:eR I vf f)(fn:FN ts.length f)(he:eF I D dv e)(hm:e.length+(sW ts f slot).e.length<=ux):
  aK Tryz.prog 202 #[pt pb,vf,iv slot] I [sg pb (cg lv fv ov dv o),D] (PP pb lv fv ov o (e++(sW ts f slot).e) (RN (sW ts f slot))):=by
 intro hd;have hl:=h.len;refine ah 52 Tryz.func202 fun w0=>?_
 try simp only[iv,pt]
 refine aT ?_;refine DY hd [0,1] rfl kU rfl (ps:=[sg pb _]) (F:=[D]) rfl (kW h hf fn) fun v I2 qs cb a3 hq=>?_;obtain⟨rfl,hH⟩:=hq;obtain⟨ha,hc,rfl,_⟩:=id hH;simp only[aaz,aaA]at cb |-;refine dP ?_;rw[oj]at hm |-;have hN:∀x∈bE ts f,kS ts x:=fun x hx=>b9 h.ok fn hx;have cy:=fM h.ok fn;have cr:=hH;generalize bE ts f=ac at *;refine aR cb fun cm=>?_;refine aR cm fun cl=>?_;refine bf cl [2,3,0,1] fun cj=>?_;refine aA (fun x=>ac.length-x.1) (Ui pb slot (.slice ha ac.length hc) ac.length) (YK pb lv fv ov o ac (cD slot) e I2) (0,.slice none 0 0,.slice none 0 0,dv) gP (by simp only[go_sem,aa6,Ui]) ?_ ?_
 ·exact⟨I2,D,PH.no,PH.no,rfl,cj,abW _,aaL _,by simpa using eF.le he a3,Ow.nil _ _ _ _,Ow.nil _ _ _ _⟩
 rintro⟨i,va,vb,dv⟩ H ⟨I3,D3,A3,B3,rfl,bb,aq,ci,hE,hA,hB⟩ a0;simp only at ci hE hA hB;simp only[Ui];have cp:qO I3 (.slice ha ac.length hc) ac:=cr.le aq;have bd:FN ts.length ((ac.take i).foldl (cD slot) ⟨[],[],[]⟩).f:=zq fun x hx=>hN x (abf hx);have cB:=bd.len;rcases aaf i ac.length with b1|cA
 ·have a9:decide ((i:Int)<(ac.length:Int))=true:=by simp;omega
  have e1:=wrap64 (n:=i+1) ab;have ca:IntKind.i64.wrap ((i:Int)+1)=((i+1:Nat):Int):=by rw[<-e1];congr 1
  obtain⟨x,hx⟩:∃x,ac[i]?=some x:=⟨_,aak b1⟩;have cc:=aaV hx;have b3:=hN x cc;obtain⟨b,off,cs,rfl,cn,bc⟩:=cp.load l7.len hx;obtain⟨xa,xk,rfl,aS⟩:=cn;have am:=dm (g:=cD slot) (z:=⟨[],[],[]⟩) hx;have a4:=oE (g:=cD slot) (fun r=>r.e.length) (fun z y=>by unfold cD;split<;>simp) ac (i+1) ⟨[],[],[]⟩;rw[am]at a4;have cx:=rV (slot:=slot) (ac.take i) ⟨[],[],[]⟩;simp only[aaO,abF]at cx;apply RG;simp only[go_sem,a9,iv,pt];refine⟨ab,?_⟩;refine XN (l:=[iv x.at',sD xa xk x.cond,rD x.cond,.int .u8 x.kind,.string ⟨⟨x.text⟩⟩]) (v:=.agg #[iv x.at',sD xa xk x.cond,rD x.cond,.int .u8 x.kind,.string ⟨⟨x.text⟩⟩]) rfl (cellsU bb (.head _) bc) (.inl ⟨gI,rfl⟩) ?_;cases hi:(x.text == [105,110,116])
  ·cases hb:(x.text == [98,111,111,108])
   ·apply RG;simp only[go_sem,a9,iv,pt,sD,rD,hi,hb,abQ,abK];have aa:(ac.take (i+1)).foldl (cD slot) ⟨[],[],[]⟩={ ((ac.take i).foldl (cD slot) ⟨[],[],[]⟩)with e:=((ac.take i).foldl (cD slot) ⟨[],[],[]⟩).e++cJ x 10 }:=by rw[am];unfold cD;rw[aaq ⟨fun k=>by rw[k]at hi;exact absurd hi bg,fun k=>by rw[k]at hb;exact absurd hb bg⟩]
    refine ad bb [0,1,2,3] [sg pb _,D3] [A3,B3] rfl kX rfl (ow (h.le (abV a3 aq)) b3.le aS hE (by rw[<-am,aa]at a4;simp[cJ]at a4 |-;omega)) fun v I4 qs a7 aj hq=>?_;obtain⟨dv2,D4,rs,rfl,ct,rfl⟩:=hq;simp only[aaz,aaA]at a7 |-;apply RG;simp only[go_sem,iv,pt,sD,rD,ca];exact a0 (i+1,va,vb,dv2) _ _ dt gP (by simp only[go_sem,aa6,Ui]) ⟨I4,D4,A3,B3,rfl,a7,abV aq aj,b1,by simp only;rw[aa,<-aaT];exact ct,by simp only;rw[aa];exact hA.le aj,by simp only;rw[aa];exact hB.le aj⟩
   ·apply RG;simp only[go_sem,a9,iv,pt,sD,rD,hi,hb,abQ,abK];have aa:(ac.take (i+1)).foldl (cD slot) ⟨[],[],[]⟩=⟨((ac.take i).foldl (cD slot) ⟨[],[],[]⟩).l++[⟨5,x.text,x.at',slot,[],x.cond⟩],Syn.join ((ac.take i).foldl (cD slot) ⟨[],[],[]⟩).f (x.at'+1) x.cond,((ac.take i).foldl (cD slot) ⟨[],[],[]⟩).e⟩:=by rw[am];unfold cD;rw[ZV (fun k=>k.2 (eq_of_beq hb))]
    have b2:=b3.lt (.inl (by rw[eq_of_beq hb];decide));have e2:=wrap64 (n:=x.at'+1) ab;have b6:IntKind.i64.wrap ((x.at':Int)+1)=((x.at'+1:Nat):Int):=by rw[<-e2];congr 1
    refine ax bb (by exact dQ) rfl rfl rfl rfl rfl bg fun nb I4 a7 aj b4=>?_;refine dg ?_;refine bf a7 [2,0,1,3] fun ba=>?_;obtain⟨bs,an,a6⟩:=hA;obtain⟨xsa,xsc,rfl⟩:=an.slice;refine dZ (m:=1) ba (by exact dQ) an rfl rfl rfl rfl (cellsU ba (.head _) (az (l:=[.int .u8 5,.string ⟨⟨x.text⟩⟩,.int .i64 x.at',.int .i64 slot,.slice none 0 0,.slice xa (T.subs x.cond).length xk,iv (T.plc (T.subs x.cond) x.cond)]) b4 (by simp[aD,Value.cells]) (by simp[aD,Value.cells,iv]))) rfl rfl ab (by unfold maxLen;omega) fun v' I5 A4 b5 ao b0=>?_;obtain⟨na,nc,rfl⟩:=b0.slice;obtain⟨ta,tc,rfl⟩:=hB.shape;apply RG;simp only[go_sem,iv,pt,sD,rD,b6];refine ad b5 [3,1,2,0] [B3] [sg pb _,D3,A4] rfl ej rfl (bK (a:=x.at'+1) (hB.le (abV aj ao)) (aS.le (abV aj ao)) bd.ok.2 (fun t ht=>by have:=bd.le t ht;omega) ab ab) fun v I6 qs a2 a1 hq=>?_;obtain⟨B4,rfl,bx⟩:=hq;obtain⟨ta2,tc2,rfl⟩:=bx.shape;simp only[aaz,aaA]at a2 |-;apply RG;simp only[go_sem,iv,pt,sD,rD,ca];refine bf a2 [1,2,3,0] fun a5=>?_;have ak:=abV aj (abV ao a1);refine a0 (i+1,.slice na (((ac.take i).foldl (cD slot) ⟨[],[],[]⟩).l.length+1) nc,.slice ta2 (Syn.join ((ac.take i).foldl (cD slot) ⟨[],[],[]⟩).f (x.at'+1) x.cond).length tc2,dv) _ _ dt gP (by simp only[go_sem,aa6,Ui]) ⟨I6,D3,A4,B4,rfl,a5,abV aq ak,b1,by simp only;rw[aa];exact hE.le ak,⟨bs++[.int .u8 5,.string ⟨⟨x.text⟩⟩,.int .i64 x.at',.int .i64 slot,.slice none 0 0,.slice xa (T.subs x.cond).length xk,iv (T.plc (T.subs x.cond) x.cond)],?_,?_⟩,by simp only;rw[aa];exact bx⟩
    ·simp only;rw[aa];simp only[aa9,aaJ];exact b0
    ·simp only;rw[aa];exact LR.app (a6.mono fun _ _ h=>bm.le h ak) (.one (bm.mk (n:=⟨5,x.text,x.at',slot,[],x.cond⟩) (aS.le ak) (Sl.nil _ _) lM))
  ·apply RG;simp only[go_sem,a9,iv,pt,sD,rD,hi,abQ,abK];have aa:(ac.take (i+1)).foldl (cD slot) ⟨[],[],[]⟩=⟨((ac.take i).foldl (cD slot) ⟨[],[],[]⟩).l++[⟨5,x.text,x.at',slot,[],x.cond⟩],Syn.join ((ac.take i).foldl (cD slot) ⟨[],[],[]⟩).f (x.at'+1) x.cond,((ac.take i).foldl (cD slot) ⟨[],[],[]⟩).e⟩:=by rw[am];unfold cD;rw[ZV (fun k=>k.1 (eq_of_beq hi))]
   have b2:=b3.lt (.inl (by rw[eq_of_beq hi];decide));have e2:=wrap64 (n:=x.at'+1) ab;have b6:IntKind.i64.wrap ((x.at':Int)+1)=((x.at'+1:Nat):Int):=by rw[<-e2];congr 1
   refine ax bb (by exact dQ) rfl rfl rfl rfl rfl bg fun nb I4 a7 aj b4=>?_;refine dg ?_;refine bf a7 [2,0,1,3] fun ba=>?_;obtain⟨bs,an,a6⟩:=hA;obtain⟨xsa,xsc,rfl⟩:=an.slice;refine dZ (m:=1) ba (by exact dQ) an rfl rfl rfl rfl (cellsU ba (.head _) (az (l:=[.int .u8 5,.string ⟨⟨x.text⟩⟩,.int .i64 x.at',.int .i64 slot,.slice none 0 0,.slice xa (T.subs x.cond).length xk,iv (T.plc (T.subs x.cond) x.cond)]) b4 (by simp[aD,Value.cells]) (by simp[aD,Value.cells,iv]))) rfl rfl ab (by unfold maxLen;omega) fun v' I5 A4 b5 ao b0=>?_;obtain⟨na,nc,rfl⟩:=b0.slice;obtain⟨ta,tc,rfl⟩:=hB.shape;apply RG;simp only[go_sem,iv,pt,sD,rD,b6];refine ad b5 [3,1,2,0] [B3] [sg pb _,D3,A4] rfl ej rfl (bK (a:=x.at'+1) (hB.le (abV aj ao)) (aS.le (abV aj ao)) bd.ok.2 (fun t ht=>by have:=bd.le t ht;omega) ab ab) fun v I6 qs a2 a1 hq=>?_;obtain⟨B4,rfl,bx⟩:=hq;obtain⟨ta2,tc2,rfl⟩:=bx.shape;simp only[aaz,aaA]at a2 |-;apply RG;simp only[go_sem,iv,pt,sD,rD,ca];refine bf a2 [1,2,3,0] fun a5=>?_;have ak:=abV aj (abV ao a1);refine a0 (i+1,.slice na (((ac.take i).foldl (cD slot) ⟨[],[],[]⟩).l.length+1) nc,.slice ta2 (Syn.join ((ac.take i).foldl (cD slot) ⟨[],[],[]⟩).f (x.at'+1) x.cond).length tc2,dv) _ _ dt gP (by simp only[go_sem,aa6,Ui]) ⟨I6,D3,A4,B4,rfl,a5,abV aq ak,b1,by simp only;rw[aa];exact hE.le ak,⟨bs++[.int .u8 5,.string ⟨⟨x.text⟩⟩,.int .i64 x.at',.int .i64 slot,.slice none 0 0,.slice xa (T.subs x.cond).length xk,iv (T.plc (T.subs x.cond) x.cond)],?_,?_⟩,by simp only;rw[aa];exact bx⟩
   ·simp only;rw[aa];simp only[aa9,aaJ];exact b0
   ·simp only;rw[aa];exact LR.app (a6.mono fun _ _ h=>bm.le h ak) (.one (bm.mk (n:=⟨5,x.text,x.at',slot,[],x.cond⟩) (aS.le ak) (Sl.nil _ _) lM))
 ·have cf:i=ac.length:=by omega
  subst cf;have a9:=Z6 ac.length;rw[aaS]at hE hA hB;apply RG;simp only[go_sem,a9,iv,pt];exact af rfl bb (r:=[va,vb]) rfl (abV a3 aq) ⟨_,D3,[A3,B3],rfl,hE,A3,B3,va,vb,rfl,rfl,hA,hB⟩
def gy:aO Tryz.prog 205:=⟨_,Tryz.func205,rfl,rfl⟩
def Pr:aO Tryz.prog 261:=⟨_,Tryz.func261,rfl,rfl⟩
variable{xs:List Value}{e:TypeId}{cur:Array Value}{n size:Nat}
def oI{g cap p:Nat}{cs:List Value}(hl:xs.length=n*size)(h1:n<=cap)(h2:cap<=maxLen)(h3:cur.size=cap*size)(h4:cur.toList.take (n*size)=xs)(hp:p+cs.length<=n*size):
  mh (sg g (.cells (br cur.toList p cs).toArray e (0,0))) e size (.slice (some ⟨g,0,none⟩) n cap) n (br xs p cs):=
 mh.of_sg (by rw[aX];exact hl) h1 h2 (by simp[aX];exact h3) (by
  show (br cur.toList p cs).take (n*size)=_;rw[oC _ _ _ _ hp,h4])
variable{c:List Value}{i:Nat}
def om{α:Type}{R:List Value->α->Prop}(hR:∀c a,R c a->c.length=n){l:List α}{k:Nat}{a:α}{cs:List Value}(h:LR R xs l)(hi:i<l.length)(hc:(xs.drop (i*n)).take n=c)(hk:k+cs.length<=n)(ha:R (br c k cs) a):LR R (br xs (i*n+k) cs) (l.set i a):=by
 have ac:=h.len hR;have aj:(i+1)*n<=l.length*n:=aaQ _ hi;rw[aaP,abj]at aj;have ak:c.length=n:=by rw[<-hc];simp;omega
 have aa:=h.set hR hi ha;have e:br xs (i*n+k) cs=xs.take (i*n)++br c k cs++xs.drop ((i+1)*n):=by
  rw[fE _ _ _ ab,fE _ _ _ ab];have e1:xs.take (i*n+k)=xs.take (i*n)++c.take k:=by
   rw[<-hc,aa4,aaN ab,List.take_add]
  have e2:xs.drop (i*n+k+cs.length)=c.drop (k+cs.length)++xs.drop ((i+1)*n):=by
   have h3:(xs.drop (i*n)).drop n=xs.drop ((i+1)*n):=by rw[aa3,aaP,abj]
   have h4:xs.drop (i*n)=c++xs.drop ((i+1)*n):=by rw[<-hc,<-h3,abq]
   rw[Nat.add_assoc,<-aa3,h4,List.drop_append_of_le_length ab]
  rw[e1,e2];simp
 rw[e];exact aa
variable{v:Value}{A:PH}
def Ow.open'{α:Type}{R:PH->List Value->α->Prop}{l:List α}(h:Ow R e size I A v l)(hn:0<l.length)(hR:∀c a,R I c a->c.length=size):
  ∃g cap cur xs,v=.slice (some ⟨g,0,none⟩) l.length cap/\A=sg g (.cells cur e (0,0))/\l.length<=cap/\cap<=maxLen/\cur.size=cap*size/\cur.toList.take (l.length*size)=xs/\xs.length=l.length*size/\LR (R I) xs l:=by
 obtain⟨xs,h1,h2⟩:=h;obtain⟨g,cap,cur,e1,e2,e3,e4,e5,e6⟩:=h1.sg hn;exact⟨g,cap,cur,xs,e1,e2,e3,e4,e5,e6,h2.len hR,h2⟩
def gQ{α:Type}{R:List Value->α->Prop}(hR:∀c a,R c a->c.length=n){g:Nat}{l:List α}{k m:Nat}(h:LR R xs l)(hi:i<l.length)(ak:l.length*n<=cur.size)(ac:cur.toList.take (l.length*n)=xs)(hc:(xs.drop (i*n)).take n=c)(hk:k+m<=n):
  aP (sg g (.cells cur e (0,0))) g (i*n+k) ((c.drop k).take m):=by
 have aa:=h.len hR;have aj:(i+1)*n<=l.length*n:=aaQ _ hi;rw[aaP,abj]at aj;have am:c.length=n:=by rw[<-hc];simp;omega
 have h0:aP (sg g (.cells cur e (0,0))) g 0 xs:=ay ab (by rw[aa1,aa];exact ac);have h1:=(h0.sub (i*n) n ab).sub k m (by rw[hc];omega)
 rwa [hc,ZZ]at h1
def NE:Tryz.prog.underlying 33=some (.slice 60):=by obtain⟨i,z,h,_⟩:=dQ;exact h
def V7:∃i,Tryz.prog.info? 60=some i/\i.size=7:=by obtain⟨i,z,_,h,_,h2,_⟩:=dQ;exact⟨i,h,h2⟩
def Ty{H:PH}{a:Option Addr}{c:Nat}(hc:n<=c)(hs:n=0\/∀x,a=some x->x.spot=none):bO Tryz.prog 261 #[.slice a n c] H fun v H2=>v=.slice a n n/\H2=H:=by
 refine ah 9 Tryz.func261 fun w0=>?_;refine aT ?_;refine II (e:=60) (size:=7) (h:=n) (m:=n) rfl rfl (by exact NE) (by exact V7) rfl rfl rfl (ZR _) hc ?_;have:sO a 7 0 n=a:=by
  rcases hs with rfl|hs
  ·simp[sO]
  ·exact yB hs
 apply RG;simp only[go_sem,this];exact aJ (r:=[_]) rfl ⟨rfl,rfl⟩
def bm.ones{n:Nd}(h:bm I c n):c.all Sx.one=true:=by
 obtain⟨vk,a,k,e,_,hk,_⟩:=h.shape;obtain⟨x,y,rfl,_⟩:=hk;rw[e];rfl
def Ow.cap{α:Type}{R:PH->List Value->α->Prop}{l:List α}(h:Ow R e size I A v l)(hR:∀c a,R I c a->c.length=size):DZ v:=by
 rcases abn l.length with h0|h0
 ·obtain⟨a,c,rfl⟩:=h.shape;show l.length<=c;omega
 ·obtain⟨g,cap,cur,xs,rfl,_,h1,_⟩:=h.open' h0 hR;exact h1
def Ow.capN{α:Type}{R:PH->List Value->α->Prop}{l:List α}(h:Ow R e size I A v l)(hR:∀c a,R I c a->c.length=size):sB v:=by
 rcases abn l.length with h0|h0
 ·obtain⟨a,c,rfl⟩:=h.shape;exact⟨ab,fun h=>by omega⟩
 ·obtain⟨g,cap,cur,xs,rfl,_,h1,h2,_⟩:=h.open' h0 hR;exact⟨h1,fun _=>h2⟩
variable{l:List Nd}
def Oi{ks:List Nd}{n:Nd}(hn:l[i]?=some n):(give (l.take i) ks++l.drop i)[i]?=some n/\(give (l.take i) ks++l.drop i).set i { n with kids:=n.kids++ks }=give (l.take (i+1)) ks++l.drop (i+1)/\i<l.length:=by
 have aa:i<l.length:=by
  rcases aaf i l.length with h|h
  ·exact h
  ·rw[aan h]at hn;cases hn
 have hl:(give (l.take i) ks).length=i:=by simp[give];omega
 have hd:l.drop i=n::l.drop (i+1):=by
  rw[aaK aa];rw[aak aa]at hn;rw[aaZ hn]
 refine⟨?_,?_,aa⟩
 ·rw[aaH ab,hl,Nat.sub_self,hd];rfl
 ·rw[List.set_append_right _ _ ab,hl,Nat.sub_self,hd,abR];have:give (l.take (i+1)) ks=give (l.take i) ks++[{ n with kids:=n.kids++ks }]:=by
   unfold give;rw[aaM aa,abP];rw[aak aa]at hn;rw[aaZ hn];rfl
  rw[this,aaT];rfl
def Vo(v vk:Value)(n:Nat)(i:Nat):St:=⟨dn 25 [(0,.v v),(1,.v vk),(7,.v (iv n)),(8,.v (iv i))],[]⟩
def Zl(v:Value)(l ks:List Nd)(I0:PH)(i:Nat)(H:PH):Prop:=∃I A,H=U [I,A]/\Dj [I,A]/\I0.le I/\i<=l.length/\bQ I A v (give (l.take i) ks++l.drop i)
theorem iV{vk:Value}{ks:List Nd}(hA:bQ I A v l)(hk:eE I vk ks)(hl:l.length<=aN)(hm:∀n∈l,n.kids.length+ks.length<=aN):
  aK Tryz.prog 205 #[v,vk] I [A] fun v2 I2 qs=>∃A2,qs=[A2]/\bQ I2 A2 v2 (give l ks):=by
 intro hd;obtain⟨va,vc,rfl⟩:=hA.shape;unfold aN at hl hm;refine ah 25 Tryz.func205 fun w0=>?_;refine aT ?_;refine aA (fun x=>l.length-x) (Vo (.slice va l.length vc) vk l.length) (Zl (.slice va l.length vc) l ks I) 0 bM (by simp only[go_sem,aa6,Vo]) ?_ ?_
 ·exact⟨I,A,rfl,hd,abW _,aaL _,by simpa[give]using hA⟩
 rintro i H ⟨I1,A1,rfl,a0,aa,hi,bb⟩ ac;simp only[Vo];rcases aaf i l.length with aS|cf
 ·have h9:decide ((i:Int)<(l.length:Int))=true:=by simp;omega
  have e1:=wrap64 (n:=i+1) ab;have bs:IntKind.i64.wrap ((i:Int)+1)=((i+1:Nat):Int):=by rw[<-e1];congr 1
  obtain⟨n,hn⟩:∃n,l[i]?=some n:=⟨_,aak aS⟩;obtain⟨g1,g2,_⟩:=Oi (ks:=ks) hn;have hL:(give (l.take i) ks++l.drop i).length=l.length:=by simp[give];omega
  obtain⟨g,cap,cur,xs,ev,rfl,c1,c2,c3,c4,c5,a4⟩:=bb.open' ab bm.len;rw[hL]at ev c1 c4 c5;cases ev
  have a9:=a4.get bm.len g1;obtain⟨kv,na,nk,bd,a3,a1,aq⟩:=a9.shape;obtain⟨ka,kc,rfl,a7⟩:=id a1;have ca:l.length*7<=vc*7:=aaQ _ c1;have aj:=gQ (k:=4) (m:=1) (e:=60) (g:=g) (cur:=cur) bm.len a4 (i:=i) (by rw[hL];exact aS) (by rw[hL];omega) (by rw[hL];exact c4) bd ab;simp only[abx,aa1,abA,abz]at aj;have cb:=hm n (aaV hn);have cc:(i+1)*7<=l.length*7:=aaQ _ aS;have a5:eE I1 vk ks:=hk.le aa;obtain⟨sa,sc,rfl,b0⟩:=id a5;have fin:∀(I2:PH) (vn:Value) (an:Option Addr) (cn:Nat),vn=.slice an (n.kids++ks).length cn->I1.le I2->eE I2 vn (n.kids++ks)->sB vn->bQ I2 (sg g (.cells (br cur.toList (i*7+4) [vn]).toArray 60 (0,0))) (.slice (some ⟨g,0,none⟩) l.length vc) (give (l.take (i+1)) ks++l.drop (i+1)):=by
   intro I2 vn an cn e bc h1 h2;rw[<-g2];refine⟨_,?_,om bm.len (a4.mono fun _ _ h=>bm.le h bc) (by rw[hL];exact aS) bd (k:=4) (cs:=[vn]) (by simp) ?_⟩
   ·rw[aa0,hL];exact oI c5 c1 c2 c3 c4 (by simp;omega)
   ·exact bm.mk (n:={ n with kids:=n.kids++ks }) (a3.le bc) h1 h2
  apply RG;simp only[go_sem,h9,iv];refine⟨ab,?_⟩;refine XN (l:=[.slice ka n.kids.length kc]) rfl (by simpa using cellsU a0 (.tail _ (.head _)) aj) (.inr ⟨PL,rfl⟩) ?_;apply RG;simp only[go_sem,h9,iv];refine WZ rfl Pr (Ty aq.1 (by
   rcases a7 with h0|⟨b,off,ys,rfl,_⟩
   ·exact .inl (by rw[h0];rfl)
   ·exact .inr fun x hx=>by cases hx;rfl)) fun v H2 hv=>?_
  obtain⟨rfl,rfl⟩:=hv;refine dP ?_;rcases abn ks.length with a2|a2
  ·have a6:ks=[]:=List.length_eq_zero_iff.1 a2;subst a6;refine yq (by exact dQ) rfl rfl rfl (ZR _) rfl ?_;refine dP ?_;refine⟨ab,?_⟩;refine bw a0 rfl rfl rfl rfl rfl (by exact Ke) (by simp;omega) fun ba=>?_;apply RG;simp only[go_sem,iv,bs];refine ac (i+1) _ _ (by show l.length-(i+1)<l.length-i;omega) (bJ (by simp only[go_sem,aa6,iv,aaO])) (by simp only[go_sem,aa6,Vo]) ⟨I1,_,rfl,ba,aa,aS,?_⟩;have:=fin I1 (.slice ka n.kids.length n.kids.length) ka n.kids.length (by simp) (abW _) ⟨ka,n.kids.length,by simp,by simpa using a7⟩ ⟨ZR _,fun h=>ZS aq.1 (aq.2 h)⟩;exact this
  ·obtain⟨ya,yo,ys,rfl,bx,am⟩:∃b off xs,sa=some ⟨b,off,none⟩/\aP I1 b off xs/\LR (bm I1) xs ks:=by
    rcases b0 with h0|h0
    ·rw[h0]at a2;simp at a2
    ·exact h0
   obtain⟨olds,b3,b2,b1⟩:∃olds,(n.kids.length=0\/∃b off,ka=some ⟨b,off,none⟩/\aP I1 b off olds)/\olds.length=n.kids.length*7/\LR (bm I1) olds n.kids:=by
    rcases a7 with h0|⟨b,off,zs,e1,e2,e3⟩
    ·exact⟨[],.inl (by rw[h0];rfl),by rw[h0];rfl,by rw[h0];rfl⟩
    ·exact⟨zs,.inr ⟨b,off,e1,e2⟩,e3.len bm.len,e3⟩
   refine FT a0 (by exact dQ) rfl rfl rfl ab rfl (b3.imp id fun⟨b,off,e,h⟩=>⟨b,off,e,cellsU a0 (.head _) h⟩) b2 (cellsU a0 (.head _) bx) (am.len bm.len) (am.ones fun _ _ h=>bm.ones h) (by unfold maxLen;omega) ab fun ng ncap I2 ba ao ak b4=>?_;refine dP ?_;refine⟨ab,?_⟩;refine bw ba rfl rfl rfl rfl rfl (by exact Ke) (by simp;omega) fun b6=>?_;apply RG;simp only[go_sem,iv,bs];refine ac (i+1) _ _ (by show l.length-(i+1)<l.length-i;omega) bM (by simp only[go_sem,aa6,Vo]) ⟨I2,_,rfl,b6,abV aa ao,aS,?_⟩;exact fin I2 (.slice (some ⟨ng,0,none⟩) (n.kids.length+ks.length) ncap) (some ⟨ng,0,none⟩) ncap (by simp) ao ⟨_,ncap,by rw[aa9],.inr ⟨ng,0,_,rfl,b4,(b1.app am).mono fun _ _ h=>bm.le h ao⟩⟩ ⟨ak.1,fun _=>ak.2⟩
 ·have b5:i=l.length:=by omega
  subst b5;have h9:=Z6 l.length;rw[aaS,abH,aa6]at bb;apply RG;simp only[go_sem,h9,iv];exact af rfl a0 (r:=[_]) rfl aa ⟨A1,rfl,bb⟩
def jj:aO Tryz.prog 138:=⟨_,Tryz.func138,rfl,rfl⟩
def QF:aO Tryz.prog 222:=⟨_,Tryz.func222,rfl,rfl⟩
def N6:aO Tryz.prog 223:=⟨_,Tryz.func223,rfl,rfl⟩
def HC:aO Tryz.prog 263:=⟨_,Tryz.func263,rfl,rfl⟩
def wv:aO Tryz.prog 291:=⟨_,Tryz.func291,rfl,rfl⟩
section
variable {C:Cx} {k:List Item} {σ:St} {α:Type} {R:PH->List Value->α->Prop}
variable{l:List PH}
def bl{ol rem:List Oper}{o:Oper}{t e:TypeId}{size bytes:Nat}{x y:Operand}{v vy:Value}{xs ys:List α}{I A:PH}(hd:Dj (I::A::l))(ht:jv C.P t e size bytes)(hA:Ow R e size I A v xs)(hS:Sl R I vy ys)(hR:∀{I J c a},R I c a->I.le J->R J c a)(hn:∀{I} c a,R I c a->c.length=size)(h1:∀{I} c a,R I c a->c.all Sx.one=true)
  (hw:aH ol σ o=some true) (am:o.op=.call ⟨.builtin .append,#[x,y],#[t,t]⟩) (hx:ev σ x=.v v) (hy:ev σ y=.v vy) (hb:(xs.length+ys.length)*bytes<=140737488355328) (aq:xs.length+ys.length<=maxLen)
  (hk:∀a c I2 A2,Dj (I2::A2::l)->I.le I2->Ow R e size I2 A2 (.slice a (xs++ys).length c) (xs++ys)->RC C (.op ol rem k) (σ.put o.dst (.v (.slice a (xs++ys).length c))) (U (I2::A2::l))):RC C (.op ol (o::rem) k) σ (U (I::A::l)):=by
 obtain⟨ya,yc,rfl,hS⟩:=hS;rcases hS with rfl|⟨b,off,zs,rfl,hc,hr⟩
 ·have aj:=hA.cap fun c a h=>hn c a h;obtain⟨va,vc,rfl⟩:=hA.shape;refine yq ht hw am hx aj hy ?_;have:=hk va vc I A hd (abW _) (by simpa using hA);simpa using this
 ·obtain⟨bs,ac,an⟩:=hA;refine dZ hd ht ac hw am hx hy (cellsU hd (.head _) hc) (hr.len fun c a h=>hn c a h) (hr.ones fun c a h=>h1 c a h) hb aq fun v' I2 A2 ao aa ak=>?_;obtain⟨a,c,rfl⟩:=ak.slice;have e:xs.length+ys.length=(xs++ys).length:=by simp
  have:=hk a c I2 A2 ao aa ⟨bs++zs,by rw[e]at ak;exact ak,LR.app (an.mono fun _ _ h=>hR h aa) (hr.mono fun _ _ h=>hR h aa)⟩;rw[e];exact this
def fP{ol:List Oper}{fr:iK}{str:ip}{i:Nat}{lo:List (Nat×Oper)}{o:Oper}{t e:TypeId}{size bytes:Nat}{x y:Operand}{v vy:Value}{xs ys:List α}{I A:PH}(hd:Dj (I::A::l))(ht:jv C.P t e size bytes)(hA:Ow R e size I A v xs)(hS:Sl R I vy ys)(hR:∀{I J c a},R I c a->I.le J->R J c a)(hn:∀{I} c a,R I c a->c.length=size)(h1:∀{I} c a,R I c a->c.all Sx.one=true)
  (hs:str.h.contains i=false) (an:str.j.contains i=false) (hw:aH ol σ o=some true) (aj:o.op=.call ⟨.builtin .append,#[x,y],#[t,t]⟩) (hx:ev σ x=.v v) (hy:ev σ y=.v vy) (hb:(xs.length+ys.length)*bytes<=140737488355328) (aS:xs.length+ys.length<=maxLen)
  (hk:∀a c I2 A2,Dj (I2::A2::l)->I.le I2->Ow R e size I2 A2 (.slice a (xs++ys).length c) (xs++ys)->RD C ol fr str lo k (σ.put o.dst (.v (.slice a (xs++ys).length c))) (U (I2::A2::l))):RD C ol fr str ((i,o)::lo) k σ (U (I::A::l)):=by
 obtain⟨ya,yc,rfl,hS⟩:=hS;rcases hS with rfl|⟨b,off,zs,rfl,hc,hr⟩
 ·have ak:=hA.cap fun c a h=>hn c a h;obtain⟨va,vc,rfl⟩:=hA.shape;obtain⟨a,b⟩:=tE (H:=U (I::A::l)) ht aj hx ak hy;refine uB hw a (by rw[aj];rfl) (b.mono fun sv H2 ⟨e1,e2⟩=>⟨l9.non hs an,?_⟩);subst e1;subst e2;have:=hk va vc I A hd (abW _) (by simpa using hA);simpa using this
 ·obtain⟨bs,ac,ao⟩:=hA;refine j3 hd ht ac hs an hw aj hx hy (cellsU hd (.head _) hc) (hr.len fun c a h=>hn c a h) (hr.ones fun c a h=>h1 c a h) hb aS fun v' I2 A2 aq aa am=>?_;obtain⟨a,c,rfl⟩:=am.slice;have e:xs.length+ys.length=(xs++ys).length:=by simp
  have:=hk a c I2 A2 aq aa ⟨bs++zs,by rw[e]at am;exact am,LR.app (ao.mono fun _ _ h=>hR h aa) (hr.mono fun _ _ h=>hR h aa)⟩;rw[e];exact this
end
variable{a:Option Addr}{h:aB}{I:PH}
def ji{k:Nat}(am:h.at'<2^61)(hr:cX I (.agg #[sD a k h.cond,rD h.cond]) h.cond):
  aK Tryz.prog 138 #[yL a k h] I [] fun v I2 qs=>qs=[]/\eR I2 v (bv h):=by
 intro hd;have e1:=wrap64 (n:=h.at'+1) ab;have ak:IntKind.i64.wrap ((h.at':Int)+1)=((h.at'+1:Nat):Int):=by rw[<-e1];congr 1
 refine ah 10 Tryz.func138 fun w0=>?_
 try simp only[yL,iv,sD,rD]
 apply RG;simp only[go_sem,ak];refine ax hd (by exact jH) rfl rfl rfl rfl rfl bg fun nb I2 aj aa ac=>?_;refine aT ?_;refine af rfl aj (r:=[_]) rfl aa ⟨rfl,_,_,rfl,.inr ⟨nb,0,[iv (h.at'+1),sD a k h.cond,rD h.cond],rfl,az ac (by simp[aD,Value.cells]) (by simp[aD,Value.cells,iv,sD,rD]),.one ⟨_,_,rfl,hr.le aa⟩⟩⟩
def Hv{vf:Value}{f:ar}(hf:eR I vf f)(hl:f.length<=2^20):aK Tryz.prog 263 #[vf] I [] fun v I2 qs=>∃A,qs=[A]/\jy I2 A v f:=by
 intro hd;obtain⟨fa,fc,rfl,ak⟩:=id hf;refine ah 8 Tryz.func263 fun w0=>?_;cases fa with
 |none=>
  have am:f=[]:=by
   rcases ak with h|⟨b,off,xs,e,_⟩
   ·exact h
   ·cases e
  subst am;refine aT ?_;refine nG rfl rfl (by exact zG) rfl rfl ?_;apply RG;simp only[go_sem,Option.isNone];refine aR hd fun aj=>?_;exact af rfl aj (r:=[_]) rfl (abW _) ⟨_,rfl,Ow.nil _ _ _ _⟩
 |some a=>
  refine aT ?_;refine nG rfl rfl (by exact zG) rfl rfl ?_;apply RG;simp only[go_sem,Option.isNone];refine fx hd (by exact jH) rfl rfl rfl rfl rfl bg fun b A aj aa=>?_;refine aT ?_;refine bl aj (by exact jH) (xs:=([]:ar)) (R:=iD) ⟨[],aa,rfl⟩ hf (fun{I J c a} h k=>iD.le h k) (fun{I} c a h=>iD.len c a h) (fun{I} c a h=>iD.ones h) rfl rfl rfl rfl (by simp only[aaO];omega) (by simp only[aaO];unfold maxLen;omega) fun a2 c2 I2 A2 an ac ao=>?_;apply RG;simp only[go_sem,aaA];exact af rfl an (r:=[_]) rfl ac ⟨_,rfl,ao⟩
def Lm{H:PH}{s:bq}:bO Tryz.prog 223 #[.string ⟨⟨s⟩⟩] H fun v H2=>v=.int .i64 (if dX s=9 then -1 else (dX s:Int))/\H2=H:=by
 refine ah 22 Tryz.func223 fun w0=>?_;cases h0:(s == [124,124])
 rotate_left
 ·apply RG;simp only[go_sem,h0];exact aJ (r:=[.int .i64 0]) rfl ⟨by rw[show dX s=0 from by rw[eq_of_beq h0];decide];rfl,rfl⟩
 cases h1:(s == [38,38])
 rotate_left
 ·apply RG;simp only[go_sem,h0,h1];exact aJ (r:=[.int .i64 1]) rfl ⟨by rw[show dX s=1 from by rw[eq_of_beq h1];decide];rfl,rfl⟩
 cases h2:(s == [61,61])
 rotate_left
 ·apply RG;simp only[go_sem,h0,h1,h2];exact aJ (r:=[.int .i64 2]) rfl ⟨by rw[show dX s=2 from by rw[eq_of_beq h2];decide];rfl,rfl⟩
 cases h3:(s == [33,61])
 rotate_left
 ·apply RG;simp only[go_sem,h0,h1,h2,h3];exact aJ (r:=[.int .i64 2]) rfl ⟨by rw[show dX s=2 from by rw[eq_of_beq h3];decide];rfl,rfl⟩
 cases h4:(s == [60])
 rotate_left
 ·apply RG;simp only[go_sem,h0,h1,h2,h3,h4];exact aJ (r:=[.int .i64 2]) rfl ⟨by rw[show dX s=2 from by rw[eq_of_beq h4];decide];rfl,rfl⟩
 cases h5:(s == [60,61])
 rotate_left
 ·apply RG;simp only[go_sem,h0,h1,h2,h3,h4,h5];exact aJ (r:=[.int .i64 2]) rfl ⟨by rw[show dX s=2 from by rw[eq_of_beq h5];decide];rfl,rfl⟩
 cases h6:(s == [62])
 rotate_left
 ·apply RG;simp only[go_sem,h0,h1,h2,h3,h4,h5,h6];exact aJ (r:=[.int .i64 2]) rfl ⟨by rw[show dX s=2 from by rw[eq_of_beq h6];decide];rfl,rfl⟩
 cases h7:(s == [62,61])
 rotate_left
 ·apply RG;simp only[go_sem,h0,h1,h2,h3,h4,h5,h6,h7];exact aJ (r:=[.int .i64 2]) rfl ⟨by rw[show dX s=2 from by rw[eq_of_beq h7];decide];rfl,rfl⟩
 cases h8:(s == [43])
 rotate_left
 ·apply RG;simp only[go_sem,h0,h1,h2,h3,h4,h5,h6,h7,h8];exact aJ (r:=[.int .i64 3]) rfl ⟨by rw[show dX s=3 from by rw[eq_of_beq h8];decide];rfl,rfl⟩
 cases h9:(s == [45])
 rotate_left
 ·apply RG;simp only[go_sem,h0,h1,h2,h3,h4,h5,h6,h7,h8,h9];exact aJ (r:=[.int .i64 3]) rfl ⟨by rw[show dX s=3 from by rw[eq_of_beq h9];decide];rfl,rfl⟩
 cases aa:(s == [42])
 rotate_left
 ·apply RG;simp only[go_sem,h0,h1,h2,h3,h4,h5,h6,h7,h8,h9,aa];exact aJ (r:=[.int .i64 4]) rfl ⟨by rw[show dX s=4 from by rw[eq_of_beq aa];decide];rfl,rfl⟩
 cases ac:(s == [47])
 rotate_left
 ·apply RG;simp only[go_sem,h0,h1,h2,h3,h4,h5,h6,h7,h8,h9,aa,ac];exact aJ (r:=[.int .i64 4]) rfl ⟨by rw[show dX s=4 from by rw[eq_of_beq ac];decide];rfl,rfl⟩
 cases aj:(s == [37])
 rotate_left
 ·apply RG;simp only[go_sem,h0,h1,h2,h3,h4,h5,h6,h7,h8,h9,aa,ac,aj];exact aJ (r:=[.int .i64 4]) rfl ⟨by rw[show dX s=4 from by rw[eq_of_beq aj];decide];rfl,rfl⟩
 apply RG;simp only[go_sem,h0,h1,h2,h3,h4,h5,h6,h7,h8,h9,aa,ac,aj];have q0:s≠xU:=fun e=>by rw[e]at h0;exact absurd h0 bg
 have q1:s≠nK:=fun e=>by rw[e]at h1;exact absurd h1 bg
 have q2:s≠wT:=fun e=>by rw[e]at h2;exact absurd h2 bg
 have q3:s≠Si:=fun e=>by rw[e]at h3;exact absurd h3 bg
 have q4:s≠Uc:=fun e=>by rw[e]at h4;exact absurd h4 bg
 have q5:s≠TZ:=fun e=>by rw[e]at h5;exact absurd h5 bg
 have q6:s≠S1:=fun e=>by rw[e]at h6;exact absurd h6 bg
 have q7:s≠Ss:=fun e=>by rw[e]at h7;exact absurd h7 bg
 have q8:s≠ym:=fun e=>by rw[e]at h8;exact absurd h8 bg
 have q9:s≠jS:=fun e=>by rw[e]at h9;exact absurd h9 bg
 have q10:s≠Fi:=fun e=>by rw[e]at aa;exact absurd aa bg
 have q11:s≠EG:=fun e=>by rw[e]at ac;exact absurd ac bg
 have q12:s≠FM:=fun e=>by rw[e]at aj;exact absurd aj bg
 have q:dX s=9:=by
  unfold dX;rw[ZV q0,ZV q1,ZV (by simp[q2,q3,q4,q5,q6,q7]),ZV (by simp[q8,q9]),ZV (by simp[q10,q11,q12])]
 exact aJ (r:=[.int .i64 (-1)]) rfl ⟨by rw[q];rfl,rfl⟩
open Go Go.Sx Dg Syn
def LK{H:PH}{b k:Nat}(hb:aP H b 0 [iv k])(hk:k<=5){c:Nat}:bO Tryz.prog 222 #[yL a c h,pt b] H fun v H2=>v=.bool (ti k h)/\H2=H:=by
 refine ah 14 Tryz.func222 fun w0=>?_
 try simp only[yL,iv,pt,sD,rD]
 refine aT ?_;refine eP [0,1,2,3,4,5,7,6,8,9,10] [7] [6] ?_;by_cases h3:h.kind=3
 ·have h6:((h.kind:Int) == 3)=true:=by simp[h3]
  apply au;simp only[go_sem,h6,iv,pt];refine W7 (l:=[iv k]) rfl hb (.inr ⟨jq,rfl⟩) ?_;apply au;simp only[go_sem,h6,iv,pt];refine tH rfl rfl rfl rfl N6 Lm fun v H2 hv=>?_;obtain⟨rfl,rfl⟩:=hv;refine⟨l9.le (abW _),?_⟩;apply au;simp only[go_sem,h6,iv,pt];refine aw ?_;refine aT ?_;refine aJ (r:=[.bool ((if dX h.text=9 then -1 else (dX h.text:Int)) == (k:Int))]) rfl ⟨?_,rfl⟩;show Value.bool _=Value.bool (ti k h);congr 1;unfold ti;rw[h3];by_cases e:dX h.text=k
  ·subst e;rw[ZV ab];simp
  ·simp only[e];split<;>simp<;>omega
 ·have h6:((h.kind:Int) == 3)=false:=by simp;omega
  apply au;simp only[go_sem,h6,iv,pt];refine aw ?_;refine aT ?_;exact aJ (r:=[.bool false]) rfl ⟨by simp[gv,ti,h3],rfl⟩
def BT{hb kind:Nat}{c:Nat}(hc:aP I hb 0 [iv h.at',sD a c h.cond,rD h.cond,.int .u8 h.kind,.string ⟨⟨h.text⟩⟩])(hr:cX I (.agg #[sD a c h.cond,rD h.cond]) h.cond):
  aK Tryz.prog 291 #[.int .u8 kind,pt hb] I [] fun v I2 qs=>∃A,qs=[A]/\bQ I2 A v [gz kind h 0]:=by
 intro hd;have h1:=hc.sub 0 1 (by simp);have h2:=hc.sub 1 2 (by simp);simp only[abx,aa1,abA,abz,ZZ]at h1 h2;refine ah 11 Tryz.func291 fun w0=>?_
 try simp only[pt]
 refine aT ?_;refine XN (l:=[_]) rfl (cellsU hd (.head _) h1) (.inr ⟨jq,rfl⟩) ?_;refine aT ?_;refine XN (l:=[_,_]) (v:=.agg #[_,_]) rfl (cellsU hd (.head _) h2) (.inl ⟨r9,rfl⟩) ?_;refine lY ?_;refine fx hd (by exact dQ) rfl rfl rfl rfl rfl bg fun b A ac aa=>?_;refine aT ?_;refine af rfl ac (r:=[_]) rfl (abW _) ⟨A,rfl,_,aa,?_⟩;exact .one (bm.mk (n:=gz kind h 0) hr (Sl.nil _ _) lM)
def rU:aO Tryz.prog 83:=⟨_,Tryz.func83,rfl,rfl⟩
def Bl:aO Tryz.prog 144:=⟨_,Tryz.func144,rfl,rfl⟩
def Gf:aO Tryz.prog 204:=⟨_,Tryz.func204,rfl,rfl⟩
section
variable {ts:List Tok} {f:ar}
end
def Uq(ts:List Tok)(r:Syn.bW):Value->PH->List PH->Prop:=fun v I2 rs=>RN r v I2 rs/\FN ts.length r.f/\r.l.length<=aN
section
variable (pb:Nat) (ts:List Tok) (lv fv ov:Value)
def WF(fid o:Nat)(args:Value->Array Value)(f:ar)(r:Syn.bW):Prop:=
 ∀{I D:PH} {dv vf:Value} {e:List cO},zr I ts lv fv->eR I vf f->FN ts.length f->eF I D dv e->e.length+r.e.length<=ux->
  aK Tryz.prog fid (args vf) I [sg pb (cg lv fv ov dv o),D] (PP pb lv fv ov o (e++r.e) (Uq ts r))
def WH(fid o:Nat)(args:Value->Array Value)(h:aB)(r:Syn.bW):Prop:=
 ∀{I D:PH} {dv:Value} {a:Option Addr} {k:Nat} {e:List cO},zr I ts lv fv->kS ts h->cX I (.agg #[sD a k h.cond,rD h.cond]) h.cond->eF I D dv e->e.length+r.e.length<=ux->
  aK Tryz.prog fid (args (yL a k h)) I [sg pb (cg lv fv ov dv o),D] (PP pb lv fv ov o (e++r.e) (Uq ts r))
def fH(fid:Nat):Value:=.func (.func fid) #[pt pb] #[]
def vQ:Syn.Call->Syn.bW->Prop
 | .line k o f slot,r=>k<=5->o<=64->WF pb ts lv fv ov 144 o (fun vf=>#[pt pb,iv k,vf,iv slot]) f r
 | .unary o f slot,r=>o<=64->WF pb ts lv fv ov 220 o (fun vf=>#[pt pb,vf,iv slot]) f r
 | .inside o f slot,r=>o<=64->WF pb ts lv fv ov 270 o (fun vf=>#[pt pb,vf,iv slot]) f r
 | .listed par o f,r=>o<=64->WF pb ts lv fv ov 206 o (fun vf=>#[pt pb,vf,fH pb (if par then 207 else 83)]) f r
 | .behind typ o f sign slot,r=>o<=64->sign≠[]->WF pb ts lv fv ov 204 o (fun vf=>#[pt pb,vf,.string ⟨⟨sign⟩⟩,fH pb (if typ then 202 else 83),iv slot]) f r
 | .vrb o f,r=>o<=64->WF pb ts lv fv ov 137 o (fun vf=>#[pt pb,vf]) f r
 | .function o f,r=>o<=64->WF pb ts lv fv ov 139 o (fun vf=>#[pt pb,vf]) f r
 | .block o f slot,r=>o<=64->WF pb ts lv fv ov 208 o (fun vf=>#[pt pb,vf,iv slot]) f r
 | .stmt o h,r=>o<=64->WH pb ts lv fv ov 264 o (fun vh=>#[pt pb,vh]) h r
 | .branch o h slot,r=>o<=64->h.text≠[]->WH pb ts lv fv ov 292 o (fun vh=>#[pt pb,vh,iv slot]) h r
 |_,_=>True
def kP(n:Nat):Prop:=∀m,m<n->∀x r,run ts m x=some r->vQ pb ts lv fv ov x r
end
section
variable {pb:Nat} {ts:List Tok} {lv fv ov:Value}
variable{o:Nat}
def qA(kind slot:Nat)(f:ar):WF pb ts lv fv ov 201 o (fun vf=>#[pt pb,vf,.int .u8 kind,iv slot]) f (named ts f kind slot):=by
 intro I D dv vf e h hf fn he hm;refine(P0 h hf fn he hm).mono fun v I2 qs _ hq=>?_;obtain⟨dv2,D2,rs,e1,e2,e3⟩:=hq;have:=lC h.ok fn kind slot;exact⟨dv2,D2,rs,e1,e2,e3,iy h.ok fn kind slot,by have:=h.len;unfold aN;omega⟩
def BM(slot:Nat)(f:ar):WF pb ts lv fv ov 202 o (fun vf=>#[pt pb,vf,iv slot]) f (sW ts f slot):=by
 intro I D dv vf e h hf fn he hm;refine(P5 h hf fn he hm).mono fun v I2 qs _ hq=>?_;obtain⟨dv2,D2,rs,e1,e2,e3⟩:=hq;have:=Ij h.ok fn slot;exact⟨dv2,D2,rs,e1,e2,e3,sP h.ok fn slot,by have:=h.len;unfold aN;omega⟩
def rT{slot:Nat}{f:ar}{r:Syn.bW}(hw:vQ pb ts lv fv ov (.line 0 o f slot) r)(ho:o<=64):WF pb ts lv fv ov 83 o (fun vf=>#[pt pb,vf,iv slot]) f r:=by
 intro I D dv vf e h hf fn he hm hd;refine ah 14 Tryz.func83 fun w0=>?_
 try simp only[iv,pt]
 refine aT ?_;refine ad hd [0,1] [sg pb _,D] [] rfl Bl rfl (hw (aaL _) ho h hf fn he hm) fun v I2 qs ac aa hq=>?_;obtain⟨dv2,D2,rs,rfl,hE,⟨A,B,va,vb,rfl,rfl,hA,hB⟩,hF⟩:=hq;simp only[aaz,aaA,aa6]at ac |-;refine aT ?_;exact af rfl ac (r:=[va,vb]) rfl aa ⟨dv2,D2,[A,B],rfl,hE,⟨A,B,va,vb,rfl,rfl,hA,hB⟩,hF⟩
end
open Go Go.Sx Dg Syn
section
variable {pb:Nat} {ts:List Tok} {lv fv ov:Value}
variable{r:Syn.bW}{n:Nat}
def bR{x:Syn.Call}(h:Syn.run ts n x=some r):∃m,n=m+1/\Syn.step ts (Syn.run ts m) x=some r:=by
 cases n with
 |zero=>cases h
 |succ m=>exact⟨m,rfl,h⟩
def bU{α β:Type}{a:Option α}{f:α->Option β}{q:β}(h:(a >>= f)=some q):∃x,a=some x/\f x=some q:=by
 cases a with
 |none=>cases h
 |some x=>exact⟨x,rfl,h⟩
variable{typ:Bool}
def Sb{m o slot:Nat}{g:ar}{a:Syn.bW}(ih:kP pb ts lv fv ov n)(hm:m<n)(ho:o<=64)(h:wu ts (Syn.run ts m) typ o g slot=some a):WF pb ts lv fv ov (if typ then 202 else 83) o (fun vf=>#[pt pb,vf,iv slot]) g a/\aO Tryz.prog (if typ then 202 else 83):=by
 cases typ
 ·exact⟨rT (ih m hm _ _ h) ho,rU⟩
 ·cases h
  exact⟨BM slot g,BN⟩
def WR(pb slot:Nat)(rv vout vh:Value)(n:Nat)(x:Nat×Value):St:=⟨dn 52 [(0,.v (pt pb)),(3,.v rv),(4,.v (iv slot)),(13,.v vout),(14,.v x.2),(27,.v vh),(28,.v (iv n)),(29,.v (iv x.1))],[]⟩
def Xf(pb:Nat)(lv fv ov dv:Value)(o:Nat)(J:ar->aB->ar)(z:ar)(hs:List aB)(Fr:List PH)(I0:PH)(x:Nat×Value)(H:PH):Prop:=
 ∃I A,H=U (I::sg pb (cg lv fv ov dv o)::A::Fr)/\Dj (I::sg pb (cg lv fv ov dv o)::A::Fr)/\I0.le I/\x.1<=hs.length/\jy I A x.2 ((hs.take x.1).foldl J z)
theorem LA(ih:kP pb ts lv fv ov n){o:Nat}{f:ar}{sign:bq}{slot:Nat}(hr:Syn.run ts n (.behind typ o f sign slot)=some r):vQ pb ts lv fv ov (.behind typ o f sign slot) r:=by
 obtain⟨m,rfl,hs⟩:=bR hr;have a1:Syn.behind ts (Syn.run ts m) typ o f sign slot=some r:=hs;unfold Syn.behind at a1;obtain⟨yes,out,cc⟩:∃yes out,aM ts f (bD sign)=(yes,out):=⟨_,_,rfl⟩;rw[cc]at a1;simp only at a1;obtain⟨a,ha,e⟩:=bU a1;cases e
 clear a1 hs hr;intro ho cf I D dv vf e h hf fn he hm hd;obtain⟨cx,cA⟩:=Sb ih (aba m) ho ha;have hl:=h.len;refine ah 52 Tryz.func204 fun w0=>?_
 try simp only[iv,pt,fH]
 refine aT ?_;refine ad hd [0,1] [] [sg pb _,D] rfl jl rfl (kM (s:=sign)) fun v I2 qs cm ao hq=>?_;obtain⟨rfl,cp⟩:=hq;simp only[aaz,aaA]at cm |-;obtain⟨fi,first,cap,rfl,gi,ci⟩:=id cp;refine aT ?_;refine ad cm [0,1] [sg pb _] [D] rfl jD rfl (jC (h.le ao) (eR.le hf ao) fn cp) fun v I3 qs cl b0 hq=>?_;obtain⟨A,B,va,vb,rfl,rfl,hA,hB⟩:=hq;simp only[aaz,aaA]at cl |-;have hY:=fm h.ok fn (is:=bD sign);have cn:=gE h.ok fn (bD sign);have bb:=dC h.ok fn (bD sign);rw[cc]at hA hB hY cn bb;simp only at hA hB hY cn bb;obtain⟨ya,yc,rfl⟩:=hA.shape;obtain⟨ba,bc,rfl⟩:=hB.shape;refine aT ?_;refine bf cl [1,0,2,3] fun c2=>?_;refine ae c2 fun I4 c1 an dj=>?_;have c4:qO I4 (.slice ya yes.length yc) yes:=Ow.sl (R:=l7) (fun{I J c a} h k=>l7.le h k) hA an dj;refine aR c1 fun c0=>?_;refine bf c0 [1,0,2,3] fun cB=>?_;refine aA (fun x=>yes.length-x.1) (WR pb slot (fH pb (if typ then 202 else 83)) (.slice ba out.length bc) (.slice ya yes.length yc) yes.length) (Xf pb lv fv ov dv o joinH1 [] yes [B,D] I4) (0,.slice none 0 0) (bJ (by simp only[go_sem,aa6,iv,pt,fH])) (by simp only[go_sem,aa6,WR]) ?_ ?_
 ·exact⟨I4,PH.no,rfl,cB,abW _,aaL _,Ow.nil _ _ _ _⟩
 rintro⟨i,vat⟩ H ⟨I5,A5,rfl,b1,ak,hi,a7⟩ a2;simp only at hi a7;simp only[WR];have c6:qO I5 (.slice ya yes.length yc) yes:=c4.le ak;have a6:FN ts.length ((yes.take i).foldl joinH1 []):=m8 (fun x hx=>⟨(hY x (abf hx)).1,qo cf (hY x (abf hx)).1 (hY x (abf hx)).2⟩) (FN.nil _);have dx:=a6.len;rcases aaf i yes.length with cj|dw
 ·have bd:decide ((i:Int)<(yes.length:Int))=true:=by simp;omega
  have e1:=wrap64 (n:=i+1) ab;have ds:IntKind.i64.wrap ((i:Int)+1)=((i+1:Nat):Int):=by rw[<-e1];congr 1
  obtain⟨x,hx⟩:∃x,yes[i]?=some x:=⟨_,aak cj⟩;have cb:=hY x (aaV hx);have ct:=qo cf cb.1 cb.2;have e2:=wrap64 (n:=x.at'+1) ab;have dk:IntKind.i64.wrap ((x.at':Int)+1)=((x.at'+1:Nat):Int):=by rw[<-e2];congr 1
  obtain⟨b,off,cs,rfl,c3,a5⟩:=c6.load l7.len hx;obtain⟨xa,xk,rfl,bs⟩:=c3;have a0:=dm (g:=joinH1) (z:=[]) hx;obtain⟨ta,tc,rfl⟩:=a7.shape;apply RG;simp only[go_sem,bd,iv,pt,fH];refine⟨ab,?_⟩;refine XN (l:=[iv x.at',sD xa xk x.cond,rD x.cond,.int .u8 x.kind,.string ⟨⟨x.text⟩⟩]) (v:=.agg #[iv x.at',sD xa xk x.cond,rD x.cond,.int .u8 x.kind,.string ⟨⟨x.text⟩⟩]) rfl (cellsU b1 (.head _) a5) (.inl ⟨gI,rfl⟩) ?_;apply RG;simp only[go_sem,bd,iv,pt,sD,rD,dk];refine ad b1 [1,0,2,3] [A5] [sg pb _,B,D] rfl ej rfl (bK (a:=x.at'+1) a7 bs a6.ok.2 (fun t ht=>by have:=a6.le t ht;omega) ab ab) fun v I6 qs a9 bx hq=>?_;obtain⟨A6,rfl,b6⟩:=hq;obtain⟨ta2,tc2,rfl⟩:=b6.shape;simp only[aaz,aaA]at a9 |-;apply RG;simp only[go_sem,iv,pt,sD,rD,ds];refine bf a9 [1,0,2,3] fun aq=>?_;rw[show Syn.join ((yes.take i).foldl joinH1 []) (x.at'+1) x.cond=(yes.take (i+1)).foldl joinH1 [] from a0.symm]at b6 |-;exact a2 (i+1,.slice ta2 _ tc2) _ _ dt (bJ (by simp only[go_sem,aa6,iv,pt,fH])) (by simp only[go_sem,aa6,WR]) ⟨I6,A6,rfl,aq,abV ak bx,cj,b6⟩
 ·have cy:i=yes.length:=by omega
  subst cy;have bd:=Z6 yes.length;rw[aaS]at a7 a6;apply RG;simp only[go_sem,bd,iv,pt,fH];refine bf b1 [1,0,2,3] fun a9=>?_;refine ae a9 fun I6 aq aj ca=>?_;have hG:eR I6 vat (yes.foldl joinH1 []):=Ow.sl (R:=iD) (fun{I J c a} h k=>iD.le h k) a7 aj ca;have aS:=abV ao (abV b0 (abV an (abV ak aj)));refine ll ?_;refine ad aq [0,2,1] [sg pb _,D] [B] rfl cA rfl (cx (h.le aS) hG a6 (he.le aS) hm) fun v I7 qs a4 am hq=>?_;obtain⟨dv2,D2,rs,rfl,c8,⟨A7,B7,vl,vg,rfl,rfl,dd,dc⟩,cr,c5⟩:=hq;simp only[aaz,aaA]at a4 |-;refine ll ?_;refine bf a4 [3,0,1,2,4] fun b4=>?_;refine ae b4 fun I8 b3 aa b5=>?_;have c7:eR I8 vg a.f:=Ow.sl (R:=iD) (fun{I J c a} h k=>iD.le h k) dc aa b5;have da:jy I8 B (.slice ba out.length bc) out:=(hB.le (abV an (abV ak aj))).le (abV am aa);refine ad b3 [3,0,1,2] [B] [sg pb _,D2,A7] rfl eI rfl (cS (N:=ts.length) ab da bb c7 cr) fun v I9 qs a3 ac hq=>?_;obtain⟨B9,rfl,c9⟩:=hq;simp only[aaz,aaA]at a3 |-;refine ll ?_;refine bf a3 [1,2,3,0] fun b2=>?_;refine af rfl b2 (r:=[vl,v]) rfl (abV aS (abV am (abV aa ac))) ⟨dv2,D2,[A7,B9],rfl,c8.le (abV aa ac),⟨A7,B9,vl,v,rfl,rfl,dd.le (abV aa ac),c9⟩,bb.joinAll cr,c5⟩
end
open Go Go.Sx Dg Syn
def Qs:aO Tryz.prog 207:=⟨_,Tryz.func207,rfl,rfl⟩
def Hc:aO Tryz.prog 137:=⟨_,Tryz.func137,rfl,rfl⟩
def O2:aO Tryz.prog 139:=⟨_,Tryz.func139,rfl,rfl⟩
def Bd:aO Tryz.prog 206:=⟨_,Tryz.func206,rfl,rfl⟩
def sK:aO Tryz.prog 208:=⟨_,Tryz.func208,rfl,rfl⟩
section
variable {pb:Nat} {ts:List Tok} {lv fv ov:Value}
def cW{l ks r:List Nd}(h:jb l ks=some r):∀n∈l,n.kids.length+ks.length<=aN:=by
 unfold jb at h;split at h
 ·rename_i h2;intro n hn;simpa using List.all_eq_true.1 h2 n hn
 ·cases h
def cw(l ks:List Nd):(give l ks).length=l.length:=by simp[give]
variable{v:Value}
def bQ.sl{I J A:PH}{l:List Nd}(h:bQ I A v l)(h1:I.le J)(h2:A.le J):eE J v l:=Ow.sl (R:=bm) (fun{I J c a} h k=>bm.le h k) h h1 h2
def jy.sl{I J A:PH}{l:ar}(h:jy I A v l)(h1:I.le J)(h2:A.le J):eR J v l:=Ow.sl (R:=iD) (fun{I J c a} h k=>iD.le h k) h h1 h2
def TP.sl{I J A:PH}{l:List aB}(h:TP I A v l)(h1:I.le J)(h2:A.le J):qO J v l:=Ow.sl (R:=l7) (fun{I J c a} h k=>l7.le h k) h h1 h2
variable{r:Syn.bW}{o:Nat}
theorem Og{f:ar}(rec:Syn.sY)(hr:Syn.item ts rec true o f=some r):WF pb ts lv fv ov 207 o (fun vf=>#[pt pb,vf,iv 0]) f r:=by
 unfold Syn.item at hr;simp only[ZT]at hr;obtain⟨g,e1,ht⟩:∃g e1,Syn.take ts (named ts f 4 0).f bA=(g,e1):=⟨_,_,rfl⟩;rw[ht]at hr;simp only at hr;obtain⟨l,hg,e⟩:=bU hr;cases e
 have a7:=bu hg;have a9:=cW hg;subst a7;clear hg hr;intro I D dv vf e h hf fn he hm hd;have hl:=h.len;have tne:bA≠[]:=by decide
 have nl:=lC h.ok fn 4 0;have nf:=iy h.ok fn 4 0;have tf:=dK h.ok nf tne;rw[ht]at tf;simp only[aa9]at hm;refine ah 30 Tryz.func207 fun w0=>?_
 try simp only[iv,pt]
 refine aT ?_;refine ad hd [0,1] [sg pb _,D] [] rfl qI rfl (qA (kind:=4) (slot:=0) (f:=f) h hf fn he ab) fun v I2 qs a6 an hq=>?_;obtain⟨dv2,D2,rs,rfl,b4,⟨A2,B2,va2,vb2,rfl,rfl,cj,cb⟩,_,_⟩:=hq;simp only[aaz,aaA,aa6]at a6 |-;refine aT ?_;refine bf a6 [3,0,1,2] fun bs=>?_;refine ae bs fun I3 bd aj ca=>?_;have b1:eR I3 vb2 _:=cb.sl aj ca;have k3:=abV an aj;refine aT ?_;refine ad bd [0,1,2] [sg pb _,D2] [A2] rfl iG rfl (kf (s:=bA) (h.le k3) b1 nf tne (b4.le aj) (by rw[ht];simp only[aa9];omega)) fun v I4 qs a5 am hq=>?_;obtain⟨dv4,D4,rs,rfl,a1,B4,rfl,a2⟩:=hq;rw[ht]at a1 a2;simp only at a1 a2;simp only[aaz,aaA,aa6]at a5 |-;refine aT ?_;refine bf a5 [2,0,1,3] fun bc=>?_;refine ae bc fun I5 bb ac b6=>?_;have b0:eR I5 v g:=a2.sl ac b6;have k5:=abV k3 (abV am ac);refine aT ?_;refine ad bb [0,1,2] [sg pb _,D4] [A2] rfl BN rfl (BM (slot:=0) (f:=g) (h.le k5) b0 tf (a1.le ac) (by simp only[aa9];omega)) fun v I6 qs a4 aq hq=>?_;obtain⟨dv6,D6,rs,rfl,b3,⟨A6,B6,va6,vb6,rfl,rfl,ci,b5⟩,b2,_⟩:=hq;simp only[aaz,aaA,aa6]at a4 |-;refine aT ?_;refine bf a4 [2,0,1,3,4] fun ba=>?_;refine ae ba fun I7 a0 aa cf=>?_;have bx:eE I7 va6 _:=ci.sl aa cf;have a3:=abV aj (abV am (abV ac (abV aq aa)));refine aT ?_;refine ad a0 [3,0,1,2] [A2] [sg pb _,D6,B6] rfl gy rfl (iV (cj.le a3) bx (by unfold aN;omega) a9) fun v I8 qs ao ak hq=>?_;obtain⟨A8,rfl,cc⟩:=hq;simp only[aaz,aaA,aa6]at ao |-;refine aT ?_;refine bf ao [1,2,0,3] fun aS=>?_
 refine af rfl aS (r:=[v,vb6]) rfl (abV an (abV a3 ak)) ⟨dv6,D6,[A8,B6],rfl,?_,⟨A8,B6,v,vb6,rfl,rfl,cc,b5.le (abV aa ak)⟩,b2,by simp only[cw];unfold aN;omega⟩;have:=b3.le (abV aa ak);simpa[aaT]using this
theorem Fc{n:Nat}(ih:kP pb ts lv fv ov n){f:ar}(hr:Syn.run ts n (.vrb o f)=some r):vQ pb ts lv fv ov (.vrb o f) r:=by
 obtain⟨m,rfl,hs⟩:=bR hr;have a2:Syn.jQ ts (Syn.run ts m) o f=some r:=hs;unfold Syn.jQ at a2;simp only at a2;obtain⟨g1,e1,ht⟩:∃g e1,Syn.take ts (named ts f 2 0).f bA=(g,e1):=⟨_,_,rfl⟩;rw[ht]at a2;simp only at a2;obtain⟨c,hc,cx⟩:=bU a2;obtain⟨l1,b1,ct⟩:=bU cx;obtain⟨l2,b0,bc⟩:=bU ct;obtain⟨g2,e2,bb⟩:∃g e1,Syn.take ts c.f a8=(g,e1):=⟨_,_,rfl⟩;rw[bb]at bc;simp only at bc;cases bc
 have bx:=cW b1;have bs:=cW b0;obtain rfl:=bu b1;obtain rfl:=bu b0;clear a2 cx ct hs hr b1 b0;intro ho I D dv vf e h hf fn he hm hd;have hl:=h.len;have tne:bA≠[]:=by decide
 have tne2:a8≠[]:=by decide
 have nl:=lC h.ok fn 2 0;have nf:=iy h.ok fn 2 0;have tf:=dK h.ok nf tne;rw[ht]at tf;simp only[aa9]at hm;refine ah 40 Tryz.func137 fun w0=>?_
 try simp only[iv,pt]
 refine aT ?_;refine ad hd [0,1] [sg pb _,D] [] rfl qI rfl (qA (kind:=2) (slot:=0) (f:=f) h hf fn he ab) fun v I2 qs cB bd hq=>?_;obtain⟨dv2,D2,rs,rfl,dk,⟨A2,B2,va2,vb2,rfl,rfl,d2,dI⟩,_,_⟩:=hq;simp only[aaz,aaA,aa6]at cB |-;refine aT ?_;refine bf cB [3,0,1,2] fun c6=>?_;refine ae c6 fun I3 c5 am dA=>?_;have da:eR I3 vb2 _:=dI.sl am dA;have k3:=abV bd am;refine aT ?_;refine ad c5 [0,1,2] [sg pb _,D2] [A2] rfl iG rfl (kf (s:=bA) (h.le k3) da nf tne (dk.le am) (by rw[ht];simp only[aa9];omega)) fun v I4 qs cA a4 hq=>?_;obtain⟨dv4,D4,rs,rfl,cj,B4,rfl,cl⟩:=hq;rw[ht]at cj cl;simp only at cj cl;simp only[aaz,aaA,aa6]at cA |-;refine aT ?_;refine bf cA [2,0,1,3] fun c4=>?_;refine ae c4 fun I5 c3 ak dy=>?_;have c9:eR I5 v g1:=cl.sl ak dy;have k5:=abV k3 (abV a4 ak);refine aT ?_;refine ad c3 [0,1,2] [sg pb _,D4] [A2] rfl BN rfl (BM (slot:=0) (f:=g1) (h.le k5) c9 tf (cj.le ak) (by simp only[aa9];omega)) fun v I6 qs cy a3 hq=>?_;obtain⟨dv6,D6,rs,rfl,dj,⟨A6,B6,va6,vb6,rfl,rfl,d1,dx⟩,dc,_⟩:=hq;simp only[aaz,aaA,aa6]at cy |-;refine aT ?_;refine bf cy [2,0,1,3,4] fun c2=>?_;refine ae c2 fun I7 cc ac d0=>?_;have c7:eE I7 va6 _:=d1.sl ac d0;refine bf cc [2,0,1,3] fun cb=>?_;refine ae cb fun I8 ca aa dw=>?_;have c8:eR I8 vb6 _:=dx.sl (abV ac aa) dw;have k8:=abV k5 (abV a3 (abV ac aa));refine aT ?_
 refine ad ca [0,1,2] [sg pb _,D6] [A2] rfl Gf rfl (ih m (aba m) _ _ hc ho bg (h.le k8) c8 dc (dj.le (abV ac aa)) (by simp only[aa9];omega)) fun v I9 qs ba aS hq=>?_;obtain⟨dv9,D9,rs,rfl,dd,⟨A9,B9,va9,vb9,rfl,rfl,dT,ds⟩,c0,_⟩:=hq;simp only[aaz,aaA,aa6]at ba |-;have c1:=abV am (abV a4 (abV ak (abV a3 (abV ac (abV aa aS)))));refine aT ?_;refine ad ba [4,0,1,2,3] [A2] [sg pb _,D9,A9,B9] rfl gy rfl (iV (d2.le c1) (eE.le c7 (abV aa aS)) (by unfold aN;omega) bx) fun v ed qs a9 aq hq=>?_;obtain⟨A10,rfl,cr⟩:=hq;simp only[aaz,aaA,aa6]at a9 |-;refine aT ?_;refine bf a9 [3,0,1,2,4] fun b6=>?_;refine ae b6 fun ea b5 aj cp=>?_;have cf:eE ea va9 _:=dT.sl (abV aq aj) cp;refine aT ?_;refine ad b5 [0,1,2,3] [A10] [sg pb _,D9,B9] rfl gy rfl (iV (cr.le aj) cf (by rw[cw];unfold aN;omega) bs) fun v ec qs a7 a5 hq=>?_;obtain⟨A12,rfl,cn⟩:=hq;simp only[aaz,aaA,aa6]at a7 |-;refine aT ?_;refine bf a7 [3,0,1,2] fun b4=>?_;refine ae b4 fun d3 b3 ao cm=>?_;have k913:=abV aq (abV aj (abV a5 ao));have ci:eR d3 vb9 _:=ds.sl k913 cm;have cs:=abV k8 (abV aS k913);refine aT ?_;refine ad b3 [1,2,0] [sg pb _,D9] [A12] rfl iG rfl (kf (s:=a8) (h.le cs) ci c0 tne2 (dd.le k913) (by rw[bb];simp only[aa9];omega)) fun v2 eb qs a6 an hq=>?_;obtain⟨dv14,D14,rs,rfl,a0,B14,rfl,a1⟩:=hq;rw[bb]at a0 a1;simp only at a0 a1
 simp only[aaz,aaA,aa6]at a6 |-;refine aT ?_;refine bf a6 [0,1,3,2] fun b2=>?_;have tf2:=dK h.ok c0 tne2;rw[bb]at tf2;refine af rfl b2 (r:=[v,v2]) rfl (abV cs an) ⟨dv14,D14,[A12,B14],rfl,?_,⟨A12,B14,v,v2,rfl,rfl,cn.le (abV ao an),a1⟩,tf2,by simp only[cw];unfold aN;omega⟩;simpa[aaT]using a0
theorem Fa{n:Nat}(ih:kP pb ts lv fv ov n){f:ar}(hr:Syn.run ts n (.function o f)=some r):vQ pb ts lv fv ov (.function o f) r:=by
 obtain⟨m,rfl,hs⟩:=bR hr;have a9:Syn.function ts (Syn.run ts m) o f=some r:=hs;unfold Syn.function at a9;simp only at a9;obtain⟨b,hb,cy⟩:=bU a9;obtain⟨c,hc,cx⟩:=bU cy;obtain⟨d,c1,ct⟩:=bU cx;obtain⟨l1,b0,cs⟩:=bU ct;obtain⟨l2,bx,cr⟩:=bU cs;obtain⟨l3,bs,c0⟩:=bU cr;cases c0
 have bd:=cW b0;have bc:=cW bx;have bb:=cW bs;obtain rfl:=bu b0;obtain rfl:=bu bx;obtain rfl:=bu bs;clear a9 cy cx ct cs cr hs hr b0 bx bs;intro ho I D dv vf e h hf fn he hm hd;have hl:=h.len;have nl:=lC h.ok fn 3 0;have nf:=iy h.ok fn 3 0;simp only[aa9]at hm;refine ah 47 Tryz.func139 fun w0=>?_
 try simp only[iv,pt]
 refine aT ?_;refine ad hd [0,1] [sg pb _,D] [] rfl qI rfl (qA (kind:=3) (slot:=0) (f:=f) h hf fn he ab) fun v I2 qs cB ba hq=>?_;obtain⟨dv2,D2,rs,rfl,dx,⟨A2,B2,va2,vb2,rfl,rfl,ec,d1⟩,_,_⟩:=hq;simp only[aaz,aaA,aa6]at cB |-;refine aT ?_;refine bf cB [3,0,1,2] fun c7=>?_;refine ae c7 fun I3 c6 aq d0=>?_;have dd:eR I3 vb2 _:=d1.sl aq d0;have k3:=abV ba aq;refine aT ?_;refine ad c6 [0,1,2] [sg pb _,D2] [A2] rfl Bd rfl (ih m (aba m) _ _ hb ho (h.le k3) dd nf (dx.le aq) (by simp only[aa9];omega)) fun v I4 qs cA a1 hq=>?_;obtain⟨dv4,D4,rs,rfl,dw,⟨A4,B4,va4,vb4,rfl,rfl,eb,dT⟩,dk,_⟩:=hq;simp only[aaz,aaA,aa6]at cA |-;refine aT ?_;refine bf cA [2,0,1,3,4] fun c5=>?_;refine ae c5 fun I5 c4 an ea=>?_;have c9:eE I5 va4 _:=eb.sl an ea;refine bf c4 [2,0,1,3] fun c3=>?_;refine ae c3 fun I6 c2 am dI=>?_;have dc:eR I6 vb4 _:=dT.sl (abV an am) dI;have k6:=abV k3 (abV a1 (abV an am));refine aT ?_;refine ad c2 [0,1,2] [sg pb _,D4] [A2] rfl Gf rfl (ih m (aba m) _ _ hc ho bg (h.le k6) dc dk (dw.le (abV an am)) (by simp only[aa9];omega)) fun v I7 qs a7 a0 hq=>?_;obtain⟨dv7,D7,rs,rfl,ds,⟨A7,B7,va7,vb7,rfl,rfl,d3,dA⟩,dj,_⟩:=hq;simp only[aaz,aaA,aa6]at a7 |-;refine aT ?_;refine bf a7 [2,0,1,3,4] fun ca=>?_;refine ae ca fun I8 b6 ak d2=>?_;have c8:eE I8 va7 _:=d3.sl ak d2;refine bf b6 [2,0,1,3] fun b5=>?_;refine ae b5 fun I9 b4 aj dy=>?_;have da:eR I9 vb7 _:=dA.sl (abV ak aj) dy;have k9:=abV k6 (abV a0 (abV ak aj))
 refine aT ?_;refine ad b4 [0,1,2] [sg pb _,D7] [A2] rfl sK rfl (ih m (aba m) _ _ c1 ho (h.le k9) da dj (ds.le (abV ak aj)) (by simp only[aa9];omega)) fun v ei qs a6 ac hq=>?_;obtain⟨dv10,D10,rs,rfl,cf,⟨A10,B10,va10,vb10,rfl,rfl,cp,ci⟩,cc,_⟩:=hq;simp only[aaz,aaA,aa6]at a6 |-;refine aT ?_;refine bf a6 [2,0,1,3,4] fun b3=>?_;refine ae b3 fun ed b2 aa cn=>?_;have cb:eE ed va10 _:=cp.sl aa cn;have k210:=abV aq (abV a1 (abV an (abV am (abV a0 (abV ak (abV aj (abV ac aa)))))));have k611:=abV am (abV a0 (abV ak (abV aj (abV ac aa))));have k911:=abV aj (abV ac aa);refine aT ?_;refine ad b2 [3,0,1,2] [A2] [sg pb _,D10,B10] rfl gy rfl (iV (ec.le k210) (eE.le c9 k611) (by unfold aN;omega) bd) fun v eg qs a5 ao hq=>?_;obtain⟨A12,rfl,cm⟩:=hq;simp only[aaz,aaA,aa6]at a5 |-;refine aT ?_;refine ad a5 [0,1,2,3] [A12] [sg pb _,D10,B10] rfl gy rfl (iV cm (eE.le c8 (abV k911 ao)) (by rw[cw];unfold aN;omega) bc) fun v ef qs a4 aS hq=>?_;obtain⟨A13,rfl,cl⟩:=hq;simp only[aaz,aaA,aa6]at a4 |-;refine aT ?_;refine ad a4 [0,1,2,3] [A13] [sg pb _,D10,B10] rfl gy rfl (iV cl (eE.le cb (abV ao aS)) (by rw[cw,cw];unfold aN;omega) bb) fun v ee qs a3 a2 hq=>?_;obtain⟨A14,rfl,cj⟩:=hq;simp only[aaz,aaA,aa6]at a3 |-;refine aT ?_;refine bf a3 [1,2,0,3] fun b1=>?_
 have k1114:=abV aa (abV ao (abV aS a2));refine af rfl b1 (r:=[v,vb10]) rfl (abV k9 (abV ac k1114)) ⟨dv10,D10,[A14,B10],rfl,?_,⟨A14,B10,v,vb10,rfl,rfl,cj,ci.le k1114⟩,cc,by simp only[cw];unfold aN;omega⟩;simpa[aaT]using cf.le k1114
end
end Go.Proofs.YtfaclfkpnmcmlaaGreatDoor
