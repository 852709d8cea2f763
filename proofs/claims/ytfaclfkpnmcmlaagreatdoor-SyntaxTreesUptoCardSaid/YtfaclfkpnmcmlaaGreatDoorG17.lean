import Derived.Test.YtfaclfkpnmcmlaaGreatDoorG14
import Derived.Test.YtfaclfkpnmcmlaaGreatDoorG15
import Derived.Test.YtfaclfkpnmcmlaaGreatDoorG16
set_option maxHeartbeats 8000000
set_option linter.all false
open Go.Proofs.Tryz
namespace Go.Proofs.YtfaclfkpnmcmlaaGreatDoor
open Go Go.Sx Dg Syn
variable{α:Type}{C:Cx}
def EL{kx:List Item}{c:Cf}{σ:St}{H:PH}(S:α->St)(Z:α->PH->Prop)
  (first:(∀a b H',fj (S a).tm b.tm->gH (S a).bx b.bx->Z a H'->RC C (.st kx) b H')->RC C c σ H)
  (rest:∀a H,Z a H->RC C (.st kx) (S a) H):RC C c σ H:=first fun a b H' h1 h2 h3=>fd h1 h2 (rest a H' h3)
def PJ:ay prog 276:=⟨_,func276,rfl,rfl⟩
def g6(v a vb vc:Value)(x:Nat×Nat):St:=⟨dn 141 [(0,.v v),(1,.v a),(2,.v vb),(3,.v vc),(9,.v (E x.2)),(10,.v (E x.1))],[]⟩
def pJ(v a vb vc:Value)(st i j:Nat):St:=⟨dn 141 [(0,.v v),(1,.v a),(2,.v vb),(3,.v vc),(9,.v (E i)),(10,.v (E st)),(11,.v (E j))],[]⟩
def pK(v a vb vc:Value)(st i j:Nat):St:=⟨dn 141 [(0,.v v),(1,.v a),(2,.v vb),(3,.v vc),(9,.v (E i)),(10,.v (E st)),(12,.v (E j))],[]⟩
variable{d:Array Nd}{v vc:Value}{I:PH}
def TG{A:PH}{a b:Nat}(hA:aT I A v d.toList)(hc:gu az aO vc)(c1:a<b)(hb:b<=d.size)(hn:d.size<=bF):
  aI prog 276 #[v,E a,E b,vc] I [A] fun r I2 qs=>∃A2,qs=[A2]/\aT I2 A2 v (Sort.partialInsertionSort aO d a b).1.toList/\r=.bool (Sort.partialInsertionSort aO d a b).2:=by
 intro hd;unfold bF at hn;obtain⟨f,fst,cap,rfl,gf,cf⟩:=id hc;obtain⟨g0,Z,rfl⟩:=Ow.addr hA O;refine aG 141 func276 fun w0=>?_
 try simp only[E]
 have w1:IntKind.i64.wrap ((a:Int)+1)=((a+1:Nat):Int):=by have e0:(a:Int)+1=((a+1:Nat):Int):=O;rw[e0];exact wrap64 O
 refine db w1 ?_;refine bz (fun x=>5-x.1) (g6 (.slice (some ⟨g0,0,none⟩) d.size Z) (E a) (E b) (.func (.func f) fst cap)) (fun x H=>∃I2 A2 d2,H=U [I2,A2]/\Dj [I2,A2]/\I.le I2/\x.1<=5/\a+1<=x.2/\x.2<=b/\d2.size=d.size/\aT I2 A2 (.slice (some ⟨g0,0,none⟩) d.size Z) d2.toList/\Sort.partialIns aO a b (5-x.1) x.2 d2=Sort.partialInsertionSort aO d a b) (0,a+1) ae (by simp only[go_sem,ab,g6]) ?_ ?_
 .exact⟨I,A,d,rfl,hd,ax _,bg _,aW _,c1,rfl,hA,rfl⟩
 rintro⟨st,i0⟩ H ⟨I2,A2,d2,rfl,cn,a5,ct,c0,ck,b2,cr,n⟩ a4;simp only at ct c0 ck n;simp only[g6];rcases aB st 5 with c2|c5
 .have cb:decide ((st:Int)<5)=true:=ar O;have ws:IntKind.i64.wrap ((st:Int)+1)=((st+1:Nat):Int):=by have e0:(st:Int)+1=((st+1:Nat):Int):=O;rw[e0];exact wrap64 O
  obtain⟨s,hs⟩:∃s,5-st=s+1:=⟨5-st-1,O⟩;rw[hs,Sort.partialIns]at n;have cx:5-(st+1)=s:=O;refine aj cb ?_;apply gl (fun x=>b-x) (fun x=>g6 (.slice (some ⟨g0,0,none⟩) d.size Z) (E a) (E b) (.func (.func f) fst cap) (st,x)) (fun x H=>∃S A3,H=U [S,A3]/\Dj [S,A3]/\I2.le S/\aT S A3 (.slice (some ⟨g0,0,none⟩) d.size Z) d2.toList/\i0<=x/\x<=b/\Sort.scanSorted aO d2 b x=Sort.scanSorted aO d2 b i0) (fun x H=>∃S A3,H=U [S,A3]/\Dj [S,A3]/\I2.le S/\aT S A3 (.slice (some ⟨g0,0,none⟩) d.size Z) d2.toList/\i0<=x/\x<=b/\x=Sort.scanSorted aO d2 b i0) i0
  .exact ae
  .exact(by simp only[go_sem,ab,g6])
  .exact⟨I2,A2,rfl,cn,ax _,cr,aW _,ck,rfl⟩
  .rintro x H ⟨S,A3,rfl,C,V,P,cc,bx,e⟩ al ag;simp only[g6];rw[Sort.scanSorted]at e;rcases aB x b with ba|ba
   .have a9:=Z5 x b;obtain⟨x,rfl⟩:∃x',x=x'+1:=⟨x-1,O⟩;have p1:=mP (j:=x) O;have p2:IntKind.i64.wrap (((x+1:Nat):Int)+1)=((x+1+1:Nat):Int):=by have e0:((x+1:Nat):Int)+1=((x+1+1:Nat):Int):=O;rw[e0];exact wrap64 O
    obtain⟨g,cp,cur,ci,cj,ev,rfl,b5,ri,rj,li,lj,ki,kj,a3⟩:=Ow.two P (fun{I} c a h=>az.len c a h) (fun{I J c a} h k=>az.le h k) (i:=x+1) (j:=x) O O;rw[b2]at ev b5;simp only[Value.slice.injEq,bv,Addr.mk.injEq,dm,dP]at ev;obtain⟨eg,ek⟩:=ev;subst eg;subst ek;refine av ?_;refine aV [0,1,2,3,4,5,6,7,8,9,10,11,12,13,14,15,16,17] [8,13] [] ?_;refine eS a9 p1 ?_;refine⟨O,?_⟩;refine Xc (l:=ci) (v:=.agg ci.toArray) rfl (cellsU C (.tail _ (.head _)) (by simpa using ki)) (.inl ⟨by rw[li];exact bK,rfl⟩) ?_;refine eS a9 p1 ?_;refine⟨O,?_⟩;refine Xc (l:=cj) (v:=.agg cj.toArray) rfl (cellsU C (.tail _ (.head _)) (by simpa using kj)) (.inl ⟨by rw[lj];exact bK,rfl⟩) ?_;refine eS a9 p1 ?_;refine cv C [0] [] [_] rfl gf rfl (cf S _ _ _ _ ri rj) ?_;rintro v I4 qs ap ac⟨rfl,z,rfl,hz⟩;simp only[Z3]at ap |-;refine aC ?_;apply an;rw[rG]at e;cases hl:aO d2[x+1]! d2[x]! with
    |true=>rw[hl]at hz;rw[ad (by simp[hl])]at e;apply bU 3;simp only[go_sem,E,hz,bX];exact ag (x+1) _ _ ae (by simp only[go_sem,ab,g6]) ⟨I4,_,rfl,ap,Y V ac,aT.le P ac,cc,bx,e⟩
    |false=>rw[hl]at hz;rw[ak (by simp[hl];omega)]at e;apply RG;simp only[go_sem,E,hz,cF,p2];exact al (x+1+1) _ _ O ae (by simp only[go_sem,ab,g6]) ⟨I4,_,rfl,ap,Y V ac,aT.le P ac,O,O,e⟩
   .have a9:decide ((x:Int)<(b:Int))=false:=aS O;rw[ad (by simp;omega)]at e;refine av ?_;refine aV [0,1,2,3,4,5,6,7,8,9,10,11,12,13,14,15,16,17] [8,13] [] ?_;refine aM a9 ?_;apply an;apply bU 3;simp only[go_sem,E];exact ag x _ _ ae (by simp only[go_sem,ab,g6]) ⟨S,A3,rfl,C,V,P,cc,bx,e⟩
  rintro i H ⟨S,A3,rfl,C,V,P,c4,c3,cy⟩;simp only[g6];rw[<-cy]at n;simp only at n;have k3:=Y a5 V;by_cases b3:i=b
  .have bs:((i:Int) == (b:Int))=true:=by rw[b3];simp
   rw[ak b3]at n;refine aj bs ?_;exact ao rfl C (r:=[.bool true]) rfl k3 ⟨A3,rfl,by rw[<-n];exact P,by rw[<-n];rfl⟩
  have bs:((i:Int) == (b:Int))=false:=by rw[hU];omega
  rw[ad b3]at n;have w3:IntKind.i64.wrap ((b:Int)-(a:Int))=((b-a:Nat):Int):=by rw[fa O O];omega
  by_cases cs:b-a<50
  .have ca:decide (((b-a:Nat):Int)<50)=true:=ar O;rw[ak cs]at n;refine lr bs w3 ca ?_;exact ao rfl C (r:=[.bool false]) rfl k3 ⟨A3,rfl,by rw[<-n];exact P,by rw[<-n];rfl⟩
  have ca:decide (((b-a:Nat):Int)<50)=false:=aS O;rw[ad cs]at n;obtain⟨i,rfl⟩:∃x',i=x'+1:=⟨i-1,O⟩;have p1:=mP (j:=i) O;rw[rG]at n;refine lr bs w3 ca ?_;obtain⟨g,cp,cur,ci,cj,ev,rfl,b5,ri,rj,li,lj,ki,kj,a3⟩:=Ow.two P (fun{I} c a h=>az.len c a h) (fun{I J c a} h k=>az.le h k) (i:=i+1) (j:=i) O O;rw[b2]at ev b5;simp only[Value.slice.injEq,bv,Addr.mk.injEq,dm,dP]at ev;obtain⟨eg,ek⟩:=ev;subst eg;subst ek;have mi:((i+1)+1)*7<=d.size*7:=bS _ O;have mj:(i+1)*7<=d.size*7:=bS _ O;refine aV [0,1,2,3,4,5,6,7,8,9,10,11,12,13,14,15,16,17] [9,13] [] ?_;refine aM p1 ?_;refine⟨O,?_⟩;refine Xc (l:=cj) (v:=.agg cj.toArray) rfl (cellsU C (.tail _ (.head _)) (by simpa using kj)) (.inl ⟨by rw[lj];exact bK,rfl⟩) ?_;refine aM p1 ?_;refine⟨O,?_⟩;refine Xc (l:=ci) (v:=.agg ci.toArray) rfl (cellsU C (.tail _ (.head _)) (by simpa using ki)) (.inl ⟨by rw[li];exact bK,rfl⟩) ?_;refine aM p1 ?_;refine⟨O,?_⟩;refine cg C rfl rfl rfl rfl rfl (cR (az.ones rj)) (by rw[lj];exact dF) (by rw[lj];omega) fun a6=>?_;refine aM p1 ?_;refine⟨O,?_⟩;refine cg a6 rfl rfl rfl rfl rfl (cR (az.ones ri)) (by rw[li];exact dF) (by rw[li];simp[eJ];omega) fun ap=>?_;apply an;have bo:=a3 S (ax _);obtain⟨d4,ed4⟩:∃d4,d4=Sort.swp d2 (i+1) i:=⟨_,rfl⟩;have b1:d4.size=d.size:=by rw[ed4,gQ];exact b2
  rw[<-ed4]at bo n;have w5:IntKind.i64.wrap (((i+1:Nat):Int)-(a:Int))=((i+1-a:Nat):Int):=by rw[fa O O];omega
  have w6:IntKind.i64.wrap ((b:Int)-((i+1:Nat):Int))=((b-(i+1):Nat):Int):=by rw[fa O O];omega
  have w7:IntKind.i64.wrap (((i+1:Nat):Int)+1)=((i+1+1:Nat):Int):=by have e0:((i+1:Nat):Int)+1=((i+1+1:Nat):Int):=O;rw[e0];exact wrap64 O
  obtain⟨d5,B⟩:∃d5,d5=if i+1-a>=2 then Sort.shiftDown aO i d4 else d4:=⟨_,rfl⟩
  rw[<-B]at n;obtain⟨p,w⟩:∃p,p=if b-(i+1)>=2 then Sort.shiftUp aO b (i+1+1) d5 else d5:=⟨_,rfl⟩
  rw[<-w]at n;apply EL (fun _:Unit=>g6 (.slice (some ⟨g0,0,none⟩) d.size Z) (E a) (E b) (.func (.func f) fst cap) (st,i+1)) (fun _ H=>∃I5 A5,H=U [I5,A5]/\Dj [I5,A5]/\S.le I5/\d5.size=d.size/\aT I5 A5 (.slice (some ⟨g0,0,none⟩) d.size Z) d5.toList)
  .intro hm;rcases aB (i+1-a) 2 with a7|a7
   .have b8:decide (((i+1-a:Nat):Int)>=2)=false:=aS O;rw[ad (show ¬(i+1-a>=2) by omega)]at B;apply bU 10;simp only[go_sem,E,w5,b8];exact hm () _ _ ae (by simp only[go_sem,ab,g6]) ⟨S,_,rfl,ap,ax _,by rw[B];exact b1,by rw[B];exact bo⟩
   .have b8:decide (((i+1-a:Nat):Int)>=2)=true:=ar O;rw[ak (show i+1-a>=2 from a7)]at B;refine lr w5 b8 p1 ?_;apply gl (fun x=>x) (fun x=>pJ (.slice (some ⟨g0,0,none⟩) d.size Z) (E a) (E b) (.func (.func f) fst cap) st (i+1) x) (fun x H=>∃t T p,H=U [t,T]/\Dj [t,T]/\S.le t/\x<=i/\p.size=d.size/\aT t T (.slice (some ⟨g0,0,none⟩) d.size Z) p.toList/\Sort.shiftDown aO x p=Sort.shiftDown aO i d4) (fun x H=>∃t T p,H=U [t,T]/\Dj [t,T]/\S.le t/\p.size=d.size/\aT t T (.slice (some ⟨g0,0,none⟩) d.size Z) p.toList/\p=Sort.shiftDown aO i d4) (i)
    .exact ae
    .exact(by simp only[go_sem,ab,pJ])
    .exact⟨S,_,d4,rfl,ap,ax _,aW _,b1,bo,rfl⟩
    .rintro x H ⟨t,T,p,rfl,N,u,hx,K,a0,e⟩ L q;simp only[pJ];cases x with
     |zero=>have b7:decide ((0:Int)>=1)=false:=rfl;rw[Sort.shiftDown]at e;apply bU 8;simp only[go_sem,E,b7];exact q 0 _ _ ae (by simp only[go_sem,ab,pJ]) ⟨t,T,p,rfl,N,u,K,a0,e⟩
     |succ x=>
      have b7:decide (((x+1:Nat):Int)>=1)=true:=ar O;rw[Sort.shiftDown]at e;have W:=mP (j:=x) O;refine aj b7 ?_;obtain⟨gs,cps,curs,R,Q,evs,rfl,aq,ris,rjs,F,D,kis,kjs,aa⟩:=Ow.two a0 (fun{I} c a h=>az.len c a h) (fun{I J c a} h k=>az.le h k) (i:=x+1) (j:=x) O O;rw[K]at evs aq;simp only[Value.slice.injEq,bv,Addr.mk.injEq,dm,dP]at evs;obtain⟨egs,eks⟩:=evs;subst egs;subst eks;refine aV [0,1,2,3,4,5,6,7,8,9,10,11,12] [4,9] [] ?_;refine aM W ?_;refine⟨O,?_⟩;refine Xc (l:=R) (v:=.agg R.toArray) rfl (cellsU N (.tail _ (.head _)) (by simpa using kis)) (.inl ⟨by rw[F];exact bK,rfl⟩) ?_;refine aM W ?_;refine⟨O,?_⟩;refine Xc (l:=Q) (v:=.agg Q.toArray) rfl (cellsU N (.tail _ (.head _)) (by simpa using kjs)) (.inl ⟨by rw[D];exact bK,rfl⟩) ?_;refine aM W ?_;refine cv N [0] [] [_] rfl gf rfl (cf t _ _ _ _ ris rjs) ?_;rintro v X qs o m⟨rfl,z,rfl,G⟩;simp only[Z3]at o |-;refine aC ?_;apply an;cases M:aO p[x+1]! p[x]! with
      |false=>rw[M]at G;rw[ak (by simp[M])]at e;apply bU 2;simp only[go_sem,E,G,cF];exact q (x+1) _ _ ae (by simp only[go_sem,ab,pJ]) ⟨X,_,p,rfl,o,Y u m,K,aT.le a0 m,e⟩
      |true=>rw[M]at G;rw[ad (by simp[M])]at e;apply RG;simp only[go_sem,E,G,bX];have mi:((x+1)+1)*7<=d.size*7:=bS _ O;have mj:(x+1)*7<=d.size*7:=bS _ O;refine aV [0,1,2,3,4,5,6,7,8,9,10,11,12,13,14,15,16,17] [9,13] [] ?_;refine aM W ?_;refine⟨O,?_⟩;refine Xc (l:=Q) (v:=.agg Q.toArray) rfl (cellsU o (.tail _ (.head _)) (by simpa using kjs)) (.inl ⟨by rw[D];exact bK,rfl⟩) ?_;refine aM W ?_;refine⟨O,?_⟩;refine Xc (l:=R) (v:=.agg R.toArray) rfl (cellsU o (.tail _ (.head _)) (by simpa using kis)) (.inl ⟨by rw[F];exact bK,rfl⟩) ?_;refine aM W ?_;refine⟨O,?_⟩;refine cg o rfl rfl rfl rfl rfl (cR (az.ones rjs)) (by rw[D];exact dF) (by rw[D];omega) fun a6=>?_;refine aM W ?_;refine⟨O,?_⟩;refine cg a6 rfl rfl rfl rfl rfl (cR (az.ones ris)) (by rw[F];exact dF) (by rw[F];simp[eJ];omega) fun b4=>?_;apply an;refine aj W ?_;exact L x _ _ O ae (by simp only[go_sem,ab,pJ]) ⟨X,_,_,rfl,b4,Y u m,O,by rw[gQ];exact K,aa X m,e⟩
    rintro y H ⟨I5,A5,d5',rfl,bc,am,bb,bd,cm⟩;exact hm () _ _ (n4 (by simp only[go_sem,ab,pJ,E])) (by simp only[go_sem,ab,g6,pJ]) ⟨I5,A5,rfl,bc,am,by rw[B,<-cm];exact bb,by rw[B,<-cm];exact bd⟩
  rintro _ H ⟨I5,A5,rfl,bc,am,bb,bd⟩;simp only[g6];have k5:=Y k3 am;clear ap bo b1 C P;apply EL (fun _:Unit=>g6 (.slice (some ⟨g0,0,none⟩) d.size Z) (E a) (E b) (.func (.func f) fst cap) (st,i+1)) (fun _ H=>∃X A7,H=U [X,A7]/\Dj [X,A7]/\I5.le X/\p.size=d.size/\aT X A7 (.slice (some ⟨g0,0,none⟩) d.size Z) p.toList)
  .intro hm;rcases aB (b-(i+1)) 2 with a7|a7
   .have a2:decide (((b-(i+1):Nat):Int)>=2)=false:=aS O;rw[ad (show ¬(b-(i+1)>=2) by omega)]at w;apply bU 9;simp only[go_sem,E,w6,a2];exact hm () _ _ ae (by simp only[go_sem,ab,g6]) ⟨I5,_,rfl,bc,ax _,by rw[w];exact bb,by rw[w];exact bd⟩
   .have a2:decide (((b-(i+1):Nat):Int)>=2)=true:=ar O;rw[ak (show b-(i+1)>=2 from a7)]at w;refine lr w6 a2 w7 ?_;apply gl (fun x=>b-x) (fun x=>pK (.slice (some ⟨g0,0,none⟩) d.size Z) (E a) (E b) (.func (.func f) fst cap) st (i+1) x) (fun x H=>∃t T p,H=U [t,T]/\Dj [t,T]/\I5.le t/\i+1+1<=x/\x<=b/\p.size=d.size/\aT t T (.slice (some ⟨g0,0,none⟩) d.size Z) p.toList/\Sort.shiftUp aO b x p=Sort.shiftUp aO b (i+1+1) d5) (fun x H=>∃t T p,H=U [t,T]/\Dj [t,T]/\I5.le t/\p.size=d.size/\aT t T (.slice (some ⟨g0,0,none⟩) d.size Z) p.toList/\p=Sort.shiftUp aO b (i+1+1) d5) (i+1+1)
    .exact ae
    .exact(by simp only[go_sem,ab,pK])
    .exact⟨I5,_,d5,rfl,bc,ax _,aW _,O,bb,bd,rfl⟩
    .rintro x H ⟨t,T,p,rfl,N,u,hx,bx,K,a0,e⟩ L q;simp only[pK];rw[Sort.shiftUp]at e;rcases aB x b with ba|ba
     rotate_left
     .have a1:decide ((x:Int)<(b:Int))=false:=aS O;rw[ad O]at e;apply bU 9;simp only[go_sem,E,a1];exact q x _ _ ae (by simp only[go_sem,ab,pK]) ⟨t,T,p,rfl,N,u,K,a0,e⟩
     .have a1:=Z5 x b;obtain⟨x,rfl⟩:∃x',x=x'+1:=⟨x-1,O⟩;rw[ak ba,rG]at e;have W:=mP (j:=x) O;have q2:IntKind.i64.wrap (((x+1:Nat):Int)+1)=((x+1+1:Nat):Int):=by have e0:((x+1:Nat):Int)+1=((x+1+1:Nat):Int):=O;rw[e0];exact wrap64 O
      refine aj a1 ?_;obtain⟨gs,cps,curs,R,Q,evs,rfl,aq,ris,rjs,F,D,kis,kjs,aa⟩:=Ow.two a0 (fun{I} c a h=>az.len c a h) (fun{I J c a} h k=>az.le h k) (i:=x+1) (j:=x) O O;rw[K]at evs aq;simp only[Value.slice.injEq,bv,Addr.mk.injEq,dm,dP]at evs;obtain⟨egs,eks⟩:=evs;subst egs;subst eks;refine aV [0,1,2,3,4,5,6,7,8,9,10,11,12] [4,9] [] ?_;refine aM W ?_;refine⟨O,?_⟩;refine Xc (l:=R) (v:=.agg R.toArray) rfl (cellsU N (.tail _ (.head _)) (by simpa using kis)) (.inl ⟨by rw[F];exact bK,rfl⟩) ?_;refine aM W ?_;refine⟨O,?_⟩;refine Xc (l:=Q) (v:=.agg Q.toArray) rfl (cellsU N (.tail _ (.head _)) (by simpa using kjs)) (.inl ⟨by rw[D];exact bK,rfl⟩) ?_;refine aM W ?_;refine cv N [0] [] [_] rfl gf rfl (cf t _ _ _ _ ris rjs) ?_;rintro v X qs o m⟨rfl,z,rfl,G⟩;simp only[Z3]at o |-;refine aC ?_;apply an;cases M:aO p[x+1]! p[x]! with
      |false=>rw[M]at G;rw[ak (by simp[M])]at e;apply bU 2;simp only[go_sem,E,G,cF];exact q (x+1) _ _ ae (by simp only[go_sem,ab,pK]) ⟨X,_,p,rfl,o,Y u m,K,aT.le a0 m,e⟩
      |true=>rw[M]at G;rw[ad (by simp[M])]at e;apply RG;simp only[go_sem,E,G,bX];have mi:((x+1)+1)*7<=d.size*7:=bS _ O;have mj:(x+1)*7<=d.size*7:=bS _ O;refine aV [0,1,2,3,4,5,6,7,8,9,10,11,12,13,14,15,16,17] [9,13] [] ?_;refine aM W ?_;refine⟨O,?_⟩;refine Xc (l:=Q) (v:=.agg Q.toArray) rfl (cellsU o (.tail _ (.head _)) (by simpa using kjs)) (.inl ⟨by rw[D];exact bK,rfl⟩) ?_;refine aM W ?_;refine⟨O,?_⟩;refine Xc (l:=R) (v:=.agg R.toArray) rfl (cellsU o (.tail _ (.head _)) (by simpa using kis)) (.inl ⟨by rw[F];exact bK,rfl⟩) ?_;refine aM W ?_;refine⟨O,?_⟩;refine cg o rfl rfl rfl rfl rfl (cR (az.ones rjs)) (by rw[D];exact dF) (by rw[D];omega) fun a6=>?_;refine aM W ?_;refine⟨O,?_⟩;refine cg a6 rfl rfl rfl rfl rfl (cR (az.ones ris)) (by rw[F];exact dF) (by rw[F];simp[eJ];omega) fun b4=>?_;apply an;refine aj q2 ?_;exact L (x+1+1) _ _ O ae (by simp only[go_sem,ab,pK]) ⟨X,_,_,rfl,b4,Y u m,O,O,by rw[gQ];exact K,aa X m,e⟩
    rintro y H ⟨X,A7,d7,rfl,o,m,b0,b6,cl⟩;exact hm () _ _ (n4 (by simp only[go_sem,ab,pK,E])) (by simp only[go_sem,ab,g6,pK]) ⟨X,A7,rfl,o,m,by rw[w,<-cl];exact b0,by rw[w,<-cl];exact b6⟩
  rintro _ H ⟨X,A7,rfl,o,m,b0,b6⟩;simp only[g6];refine aj ws ?_;exact a4 (st+1,i+1) _ _ bC ae (by simp only[go_sem,ab,g6]) ⟨X,A7,p,rfl,o,Y k5 m,by simp only;omega,by simp only;omega,by simp only;omega,b0,b6,by simp only;rw[cx];exact n⟩
 .have cb:decide ((st:Int)<5)=false:=aS O;have:st=5:=O;subst this;rw[Nat.sub_self,Sort.partialIns]at n;refine aj cb ?_;exact ao rfl cn (r:=[.bool false]) rfl a5 ⟨A2,rfl,by rw[<-n];exact cr,by rw[<-n];rfl⟩
def TE{A:PH}{a b pivot:Nat}(hA:aT I A v d.toList)(hc:gu az aO vc)(cc:a<=pivot)(b6:pivot<b)(hb:b<=d.size)(hn:d.size<=bF):
  aI prog 277 #[v,E a,E b,E pivot,vc] I [A] fun r I2 qs=>∃A2,qs=[A2]/\aT I2 A2 v (Sort.partitionEqual aO d a b pivot).2.toList/\r=E (Sort.partitionEqual aO d a b pivot).1:=by
 intro hd;unfold bF at hn;obtain⟨f,fst,cap,rfl,gf,cf⟩:=id hc;obtain⟨g0,V,rfl⟩:=Ow.addr hA O;refine aG 90 func277 fun w0=>?_
 try simp only[E]
 have w1:IntKind.i64.wrap ((a:Int)+1)=((a+1:Nat):Int):=by have e0:(a:Int)+1=((a+1:Nat):Int):=O;rw[e0];exact wrap64 O
 have w2:IntKind.i64.wrap ((b:Int)-1)=((b-1:Nat):Int):=by rw[ja O];omega
 refine af ?_;obtain⟨g,cp,cur,S,R,ev,rfl,L,ri,rj,P,N,ki,kj,C⟩:=Ow.two hA (fun{I} c a h=>az.len c a h) (fun{I J c a} h k=>az.le h k) (i:=a) (j:=pivot) O O;simp only[Value.slice.injEq,bv,Addr.mk.injEq,dm,dP]at ev;obtain⟨eg,ek⟩:=ev;subst eg;subst ek;have mi:(a+1)*7<=d.size*7:=bS _ O;have mj:(pivot+1)*7<=d.size*7:=bS _ O;refine aV [0,1,2,3,4,5,6,7,8,9,10,11,12,13,14,15] [7,11] [] ?_;refine aC ?_;refine⟨O,?_⟩;refine Xc (l:=R) (v:=.agg R.toArray) rfl (cellsU hd (.tail _ (.head _)) (by simpa using kj)) (.inl ⟨by rw[N];exact bK,rfl⟩) ?_;refine aC ?_;refine⟨O,?_⟩;refine Xc (l:=S) (v:=.agg S.toArray) rfl (cellsU hd (.tail _ (.head _)) (by simpa using ki)) (.inl ⟨by rw[P];exact bK,rfl⟩) ?_;refine aC ?_;refine⟨O,?_⟩;refine cg hd rfl rfl rfl rfl rfl (cR (az.ones rj)) (by rw[N];exact dF) (by rw[N];omega) fun a5=>?_;refine aC ?_;refine⟨O,?_⟩;refine cg a5 rfl rfl rfl rfl rfl (cR (az.ones ri)) (by rw[P];exact dF) (by rw[P];simp[eJ];omega) fun b3=>?_;apply an;have bc:=C I (ax _);have ba:(Sort.swp d a pivot).size=d.size:=(gQ _ _ _).trans rfl;obtain⟨d4,ed4⟩:∃d4,d4=Sort.swp d a pivot:=⟨_,rfl⟩;have hP:Sort.partitionEqual aO d a b pivot=Sort.partEqLoop aO a (a+1) (b-1) d4:=by rw[ed4];rfl
 rw[<-ed4]at bc ba;rw[hP];clear hP;refine bW w1 w2 ?_;apply gl (fun x=>x.2+3-x.1) (fun x=>gP (.slice (some ⟨g0,0,none⟩) d.size V) (E a) (.func (.func f) fst cap) x) (fun x H=>∃M A5 n,H=U [M,A5]/\Dj [M,A5]/\I.le M/\n.size=d.size/\aT M A5 (.slice (some ⟨g0,0,none⟩) d.size V) n.toList/\1<=x.1/\x.1<=x.2+2/\x.2<=b-1/\Sort.partEqLoop aO a x.1 x.2 n=Sort.partEqLoop aO a (a+1) (b-1) d4) (fun x H=>∃M A5,H=U [M,A5]/\Dj [M,A5]/\I.le M/\aT M A5 (.slice (some ⟨g0,0,none⟩) d.size V) (Sort.partEqLoop aO a (a+1) (b-1) d4).2.toList/\x.1=(Sort.partEqLoop aO a (a+1) (b-1) d4).1) (a+1,b-1)
 .exact ae
 .exact(by simp only[go_sem,ab,gP])
 .exact⟨I,_,d4,rfl,b3,ax _,ba,bc,by simp only;omega,by simp only;omega,by simp only;omega,rfl⟩
 .rintro⟨i5,D⟩ H ⟨M,A5,n,rfl,cb,a1,X,cj,bx,a3,bs,K⟩ Z aa;simp only at bx a3 bs K;simp only[gP];refine av ?_;apply gl (fun x=>D+2-x) (fun x=>gP (.slice (some ⟨g0,0,none⟩) d.size V) (E a) (.func (.func f) fst cap) (x,D)) (fun x H=>∃o B,H=U [o,B]/\Dj [o,B]/\M.le o/\aT o B (.slice (some ⟨g0,0,none⟩) d.size V) n.toList/\i5<=x/\x<=D+2/\Sort.scanUp (fun y=>!aO n[a]! y) n D x=Sort.scanUp (fun y=>!aO n[a]! y) n D i5) (fun x H=>∃o B,H=U [o,B]/\Dj [o,B]/\M.le o/\aT o B (.slice (some ⟨g0,0,none⟩) d.size V) n.toList/\i5<=x/\x<=D+2/\x=Sort.scanUp (fun y=>!aO n[a]! y) n D i5) i5
  .exact ae
  .exact(by simp only[go_sem,ab,gP])
  .exact⟨M,_,rfl,‹_›,ax _,‹_›,aW _,O,rfl⟩
  .rintro x H ⟨o,B,rfl,u,p,w,a9,Q,e⟩ F q;simp only[gP];rcases aB D x with b0|bo
   .have s:decide (((x:Nat):Int)<=((D:Nat):Int))=false:=aS O;rw[Sort.scanUp,ad (by simp;omega)]at e;have am:=e;refine av ?_;refine aV [0,1,2,3,4,5,6,7,8,9,10,11,12,13,14,15,16] [8,12] [] ?_;refine aM s ?_;apply an;apply bU 3;simp only[go_sem,E];exact q x _ _ ae (by simp only[go_sem,ab,gP]) ⟨o,B,rfl,u,p,w,a9,Q,am⟩
   .have s:decide (((x:Nat):Int)<=((D:Nat):Int))=true:=ar O;rw[Sort.scanUp]at e;have p1:IntKind.i64.wrap ((x:Int)+1)=((x+1:Nat):Int):=by have e0:(x:Int)+1=((x+1:Nat):Int):=O;rw[e0];exact wrap64 O
    obtain⟨g,cp,cur,S,R,ev,rfl,L,ri,rj,P,N,ki,kj,C⟩:=Ow.two w (fun{I} c a h=>az.len c a h) (fun{I J c a} h k=>az.le h k) (i:=x) (j:=a) O O;rw[X]at ev L;simp only[Value.slice.injEq,bv,Addr.mk.injEq,dm,dP]at ev;obtain⟨eg,ek⟩:=ev;subst eg;subst ek;refine av ?_;refine aV [0,1,2,3,4,5,6,7,8,9,10,11,12,13,14,15,16] [8,12] [] ?_;refine aM s ?_;refine⟨O,?_⟩;refine Xc (l:=R) (v:=.agg R.toArray) rfl (cellsU u (.tail _ (.head _)) (by simpa using kj)) (.inl ⟨by rw[N];exact bK,rfl⟩) ?_;refine aM s ?_;refine⟨O,?_⟩;refine Xc (l:=S) (v:=.agg S.toArray) rfl (cellsU u (.tail _ (.head _)) (by simpa using ki)) (.inl ⟨by rw[P];exact bK,rfl⟩) ?_;refine aM s ?_;refine cv u [0] [] [_] rfl gf rfl (cf o _ _ _ _ rj ri) ?_;rintro v Jy qs G m⟨rfl,z,rfl,W⟩;simp only[Z3]at G |-;refine aC ?_;apply an;cases hl:aO n[a]! n[x]! with
    |true=>rw[hl]at W;rw[ad (by simp[hl])]at e;apply bU 3;simp only[go_sem,E,W,bX];exact q (x) _ _ ae (by simp only[go_sem,ab,gP]) ⟨Jy,_,rfl,G,Y p m,aT.le w m,a9,Q,e⟩
    |false=>rw[hl]at W;rw[ak (by simp[hl];omega)]at e;apply RG;simp only[go_sem,E,W,cF,p1];exact F (x+1) _ _ O ae (by simp only[go_sem,ab,gP]) ⟨Jy,_,rfl,G,Y p m,aT.le w m,O,O,e⟩
  rintro t H ⟨I6,A6,rfl,ca,a0,ci,b8,hi6b,a4⟩;simp only[gP];refine av ?_;apply gl (fun x=>x) (fun x=>gP (.slice (some ⟨g0,0,none⟩) d.size V) (E a) (.func (.func f) fst cap) (t,x)) (fun x H=>∃o B,H=U [o,B]/\Dj [o,B]/\I6.le o/\aT o B (.slice (some ⟨g0,0,none⟩) d.size V) n.toList/\x<=D/\Sort.scanDown (fun y=>aO n[a]! y) n t x=Sort.scanDown (fun y=>aO n[a]! y) n t D) (fun x H=>∃o B,H=U [o,B]/\Dj [o,B]/\I6.le o/\aT o B (.slice (some ⟨g0,0,none⟩) d.size V) n.toList/\x<=D/\x=Sort.scanDown (fun y=>aO n[a]! y) n t D) D
  .exact ae
  .exact(by simp only[go_sem,ab,gP])
  .exact⟨I6,_,rfl,‹_›,ax _,‹_›,aW _,rfl⟩
  .rintro x H ⟨o,B,rfl,u,p,w,Q,e⟩ F q;simp only[gP];rcases aB x t with b0|bo
   .have s:decide (((t:Nat):Int)<=((x:Nat):Int))=false:=aS O;have am:x=Sort.scanDown (fun y=>aO n[a]! y) n t D:=by
     rw[<-e];cases x with
     |zero=>rw[Sort.scanDown]
     |succ x=>rw[Sort.scanDown,ad (by simp;omega)]
    refine av ?_;refine aV [0,1,2,3,4,5,6,7,8,9,10,11,12,13,14,15] [8,12] [] ?_;refine aM s ?_;apply an;apply bU 3;simp only[go_sem,E];exact q x _ _ ae (by simp only[go_sem,ab,gP]) ⟨o,B,rfl,u,p,w,Q,am⟩
   .have s:decide (((t:Nat):Int)<=((x:Nat):Int))=true:=ar O;obtain⟨x,rfl⟩:∃x',x=x'+1:=⟨x-1,O⟩;have p1:=mP (j:=x) O;rw[Sort.scanDown]at e;obtain⟨g,cp,cur,S,R,ev,rfl,L,ri,rj,P,N,ki,kj,C⟩:=Ow.two w (fun{I} c a h=>az.len c a h) (fun{I J c a} h k=>az.le h k) (i:=x+1) (j:=a) O O;rw[X]at ev L;simp only[Value.slice.injEq,bv,Addr.mk.injEq,dm,dP]at ev;obtain⟨eg,ek⟩:=ev;subst eg;subst ek;refine av ?_;refine aV [0,1,2,3,4,5,6,7,8,9,10,11,12,13,14,15] [8,12] [] ?_;refine aM s ?_;refine⟨O,?_⟩;refine Xc (l:=R) (v:=.agg R.toArray) rfl (cellsU u (.tail _ (.head _)) (by simpa using kj)) (.inl ⟨by rw[N];exact bK,rfl⟩) ?_;refine aM s ?_;refine⟨O,?_⟩;refine Xc (l:=S) (v:=.agg S.toArray) rfl (cellsU u (.tail _ (.head _)) (by simpa using ki)) (.inl ⟨by rw[P];exact bK,rfl⟩) ?_;refine aM s ?_;refine cv u [0] [] [_] rfl gf rfl (cf o _ _ _ _ rj ri) ?_;rintro v Jy qs G m⟨rfl,z,rfl,W⟩;simp only[Z3]at G |-;refine aC ?_;apply an;cases hl:aO n[a]! n[x+1]! with
    |true=>rw[hl]at W;rw[ak (by simp[hl];omega)]at e;apply RG;simp only[go_sem,E,W,bX,p1];exact F x _ _ O ae (by simp only[go_sem,ab,gP]) ⟨Jy,_,rfl,G,Y p m,aT.le w m,O,e⟩
    |false=>rw[hl]at W;rw[ad (by simp[hl])]at e;apply bU 3;simp only[go_sem,E,W,cF];exact q (x+1) _ _ ae (by simp only[go_sem,ab,gP]) ⟨Jy,_,rfl,G,Y p m,aT.le w m,Q,e⟩
  rintro T H ⟨I7,A7,rfl,al,aq,bb,b7,a2⟩;simp only[gP];rw[Sort.partEqLoop_eq,<-a4,<-a2]at K;have a7:=Y a1 (Y a0 aq);by_cases ac:t>T
  .have a6:decide ((t:Int)>(T:Int))=true:=ar O;rw[ak ac]at K;apply bU 8;simp only[go_sem,E,a6];exact aa (t,T) _ _ ae (by simp only[go_sem,ab,gP]) ⟨I7,A7,rfl,al,a7,by rw[<-K];exact bb,by rw[<-K]⟩
  have a6:decide ((t:Int)>(T:Int))=false:=aS O;rw[ad ac]at K;refine aj a6 ?_;obtain⟨g,cp,cur,S,R,ev,rfl,L,ri,rj,P,N,ki,kj,C⟩:=Ow.two bb (fun{I} c a h=>az.len c a h) (fun{I J c a} h k=>az.le h k) (i:=t) (j:=T) O O;rw[X]at ev L;simp only[Value.slice.injEq,bv,Addr.mk.injEq,dm,dP]at ev;obtain⟨eg,ek⟩:=ev;subst eg;subst ek;have mi:(t+1)*7<=d.size*7:=bS _ O;have mj:(T+1)*7<=d.size*7:=bS _ O;refine aV [0,1,2,3,4,5,6,7,8,9,10,11,12,13,14,15] [7,11] [] ?_;refine aC ?_;refine⟨O,?_⟩;refine Xc (l:=R) (v:=.agg R.toArray) rfl (cellsU al (.tail _ (.head _)) (by simpa using kj)) (.inl ⟨by rw[N];exact bK,rfl⟩) ?_;refine aC ?_;refine⟨O,?_⟩;refine Xc (l:=S) (v:=.agg S.toArray) rfl (cellsU al (.tail _ (.head _)) (by simpa using ki)) (.inl ⟨by rw[P];exact bK,rfl⟩) ?_;refine aC ?_;refine⟨O,?_⟩;refine cg al rfl rfl rfl rfl rfl (cR (az.ones rj)) (by rw[N];exact dF) (by rw[N];omega) fun a5=>?_;refine aC ?_;refine⟨O,?_⟩;refine cg a5 rfl rfl rfl rfl rfl (cR (az.ones ri)) (by rw[P];exact dF) (by rw[P];simp[eJ];omega) fun b2=>?_;apply an;have b5:=C I7 (ax _);have bd:(Sort.swp n t T).size=d.size:=(gQ _ _ _).trans X;have w8:IntKind.i64.wrap ((t:Int)+1)=((t+1:Nat):Int):=by have e0:(t:Int)+1=((t+1:Nat):Int):=O;rw[e0];exact wrap64 O
  have w9:IntKind.i64.wrap ((T:Int)-1)=((T-1:Nat):Int):=by rw[ja O];omega
  refine bW w8 w9 ?_;exact Z (t+1,T-1) _ _ bC ae (by simp only[go_sem,ab,gP]) ⟨I7,_,_,rfl,b2,a7,bd,b5,by simp only;omega,by simp only;omega,by simp only;omega,K⟩
 rintro⟨i9,j9⟩ H ⟨I9,A9,rfl,b1,ap,b4,ag⟩;simp only at ag;simp only[gP];rw[<-ag];refine av ?_;exact ao rfl b1 (r:=[E i9]) rfl ap ⟨A9,rfl,b4,rfl⟩
open Go.Sort (PermIn SortedIn SWO permIn_refl permIn_trans permIn_mono swp_permIn)
def Cy:ay prog 224:=⟨_,func224,rfl,rfl⟩
def OZ:ay prog 147:=⟨_,func147,rfl,rfl⟩
def xi{k:List Item}(S:α->St)(Z:α->PH->Prop){P:Prop}(h1:(∀a H,Z a H->RC C (.st k) (S a) H)->P)(h:∀a H,Z a H->RC C (.st k) (S a) H):P:=h1 h
structure xe where
 a:Nat
 b:Nat
 lim:Nat
 wb:Bool
 wp:Bool
def s7(v vc:Value)(x:xe):St:=⟨dn 148 [(0,.v v),(1,.v (E x.a)),(2,.v (E x.b)),(3,.v (E x.lim)),(4,.v vc),(10,.v (.bool x.wb)),(11,.v (.bool x.wp))],[]⟩
def s8(v vc:Value)(x:xe)(lim:Nat):St:=⟨dn 148 [(0,.v v),(1,.v (E x.a)),(2,.v (E x.b)),(3,.v (E lim)),(4,.v vc),(10,.v (.bool x.wb)),(11,.v (.bool x.wp)),(12,.v (E (x.b-x.a)))],[]⟩
def zz(v vc:Value)(x:xe)(lim:Nat)(y:Nat×Nat):St:=⟨dn 148 [(0,.v v),(1,.v (E x.a)),(2,.v (E x.b)),(3,.v (E lim)),(4,.v vc),(10,.v (.bool x.wb)),(11,.v (.bool x.wp)),(12,.v (E (x.b-x.a))),(13,.v (E y.1)),(14,.v (E y.2))],[]⟩
def jS(v vc:Value)(x:xe)(lim p:Nat):St:=⟨dn 148 [(0,.v v),(1,.v (E x.a)),(2,.v (E x.b)),(3,.v (E lim)),(4,.v vc),(10,.v (.bool x.wb)),(11,.v (.bool x.wp)),(12,.v (E (x.b-x.a))),(13,.v (E p))],[]⟩
def IJ(v:Value)(d:Array Nd)(a b:Nat):Value->PH->List PH->Prop:=fun _ I2 qs=>∃c e,qs=[c]/\aT I2 c v e.toList/\PermIn a b d e/\SortedIn aO a b e
def TF:∀(N:Nat) {I A:PH} {v vc:Value} {d:Array Nd} {a b lim:Nat},b-a<N->aT I A v d.toList->gu az aO vc->a<=b->b<=d.size->d.size<=bF->Sort.Below aO a b d->lim<2^60->
  aI prog 224 #[v,E a,E b,E lim,vc] I [A] (IJ v d a b):=by
 intro N
 induction N with
 |zero=>intro I A v vc d a b lim h;omega
 |succ N ih=>
 intro I A v vc d a b lim hN hA hc c2 hb hn hB bx hd;have cs:=hn;unfold bF at cs;obtain⟨f,fst,cap,rfl,gf,cf⟩:=id hc;obtain⟨va,vk,rfl⟩:=Ow.one' hA;refine aG 148 func224 fun w0=>?_
 try simp only[E]
 refine af ?_;refine bz (fun x=>x.b-x.a) (s7 (.slice va d.size vk) (.func (.func f) fst cap)) (fun x H=>∃I2 A2 c,H=U [I2,A2]/\Dj [I2,A2]/\I.le I2/\aT I2 A2 (.slice va d.size vk) c.toList/\c.size=d.size/\x.a<=x.b/\a<=x.a/\x.b<=b/\x.lim<2^60/\Sort.Below aO x.a x.b c/\∀R,PermIn x.a x.b c R->SortedIn aO x.a x.b R->PermIn a b d R/\SortedIn aO a b R) ⟨a,b,lim,true,true⟩ ae (by simp only[go_sem,ab,s7]) ?_ ?_
 .exact⟨I,A,d,rfl,hd,ax _,hA,rfl,c2,aW _,aW _,bx,hB,fun R h1 h2=>⟨h1,h2⟩⟩
 rintro x H ⟨I2,A2,c,rfl,a9,aa,ba,cl,a1,cn,b5,cm,ca,hG⟩ W;simp only[s7];have V:x.b<=c.size:=O;have bd:c.size<=bF:=O;have w1:IntKind.i64.wrap ((x.b:Int)-(x.a:Int))=((x.b-x.a:Nat):Int):=by rw[fa O O];omega
 rcases aB 12 (x.b-x.a)with c1|bo
 rotate_left
 .have a5:decide (((x.b-x.a:Nat):Int)<=12)=true:=ar O;refine bW w1 a5 ?_;refine ce a9 [0] [A2] [] rfl PD rfl (QR (a:=x.a) (b:=x.b) ba hc V bd O) ?_;rintro v M qs G u⟨K,rfl,Q⟩;simp only[Z3]at G |-;refine av ?_;obtain⟨q1,q2⟩:=Sort.insertionSort_holds wE c x.a x.b a1 V;obtain⟨q3,q4⟩:=hG _ q1 q2;exact ao rfl G (r:=[]) rfl (Y aa u) ⟨K,_,rfl,Q,q3,q4⟩
 have a5:decide (((x.b-x.a:Nat):Int)<=12)=false:=aS O;by_cases cx:x.lim=0
 .have bb:((x.lim:Int) == 0)=true:=by rw[cx];rfl
  refine lr w1 a5 bb ?_;refine ce a9 [0] [A2] [] rfl PE rfl (Qz (a:=x.a) (b:=x.b) ba hc a1 V bd) ?_;rintro v M qs G u⟨K,rfl,Q⟩;simp only[Z3]at G |-;refine av ?_;obtain⟨q1,q2⟩:=Sort.heapSort_holds wE c x.a x.b a1 V;obtain⟨q3,q4⟩:=hG _ q1 q2;exact ao rfl G (r:=[]) rfl (Y aa u) ⟨K,_,rfl,Q,q3,q4⟩
 have bb:((x.lim:Int) == 0)=false:=by rw[hU];omega
 apply xi (s8 (.slice va d.size vk) (.func (.func f) fst cap) x) (fun o H=>∃M K e,H=U [M,K]/\Dj [M,K]/\I2.le M/\aT M K (.slice va d.size vk) e.toList/\PermIn x.a x.b c e/\o<2^60)
 .intro n;cases a6:x.wb
  .apply RG;simp only[go_sem,E,w1,a5,bb,a6,cF];refine ce a9 [0] [A2] [] rfl PF rfl (Ms (a:=x.a) (b:=x.b) ba a1 V bd) ?_;rintro v M qs G u⟨K,e,rfl,a0,Q⟩;simp only[Z3]at G |-;have w2:IntKind.i64.wrap ((x.lim:Int)-1)=((x.lim-1:Nat):Int):=by rw[ja O];omega
   apply bU 6;simp only[go_sem,E,w2];refine fd ?_ ?_ (n (x.lim-1) _ ⟨M,K,e,rfl,G,u,Q,a0,O⟩)
   .simp only[s8,a6];exact ae
   .exact(by simp only[go_sem,ab,s8])
  .apply bU 32;simp only[go_sem,E,w1,a5,bb,a6,bX];refine fd ?_ ?_ (n x.lim _ ⟨I2,A2,c,rfl,a9,ax _,ba,permIn_refl _ _ _,cm⟩)
   .simp only[s8,a6];exact ae
   .exact(by simp only[go_sem,ab,s8])
 rintro o H ⟨M,K,e3,rfl,G,u,Q,a0,F⟩;have ck:=a0.1;simp only[s8];refine av ?_;refine ce G [0] [K] [] rfl PG rfl (TH (a:=x.a) (b:=x.b) Q hc O O O) ?_;rintro v I4 qs a7 Z⟨p,h,T,S,hh,rfl,rfl⟩;simp only[Z3]at a7 |-;have b2:=aT.le Q Z;apply xi (zz (.slice va d.size vk) (.func (.func f) fst cap) x o) (fun y H=>∃M K e,H=U [M,K]/\Dj [M,K]/\I2.le M/\aT M K (.slice va d.size vk) e.toList/\PermIn x.a x.b c e/\x.a<=y.1/\y.1<x.b/\y.2<=2)
 .intro n;by_cases cy:h=2
  .have b4:((h:Int) == 2)=true:=by rw[cy];rfl
   refine aj b4 ?_;refine ce a7 [0] [K] [] rfl PI rfl (Uf (vc:=(.func (.func f) fst cap)) (a:=x.a) (b:=x.b) b2 O O O) ?_;rintro v I5 qs B s⟨A5,rfl,D⟩;simp only[Z3]at B |-;have w3:IntKind.i64.wrap ((x.b:Int)-1)=((x.b-1:Nat):Int):=by rw[ja O];omega
   have w4:IntKind.i64.wrap ((p:Int)-(x.a:Int))=((p-x.a:Nat):Int):=by rw[fa O O];omega
   have w5:IntKind.i64.wrap (((x.b-1:Nat):Int)-((p-x.a:Nat):Int))=((x.b-1-(p-x.a):Nat):Int):=by rw[fa O O];omega
   apply bU 14;simp only[go_sem,E,w3,w4,w5];refine fd ?_ ?_ (n (x.b-1-(p-x.a),1) _ ⟨I5,A5,_,rfl,B,Y u (Y Z s),D,permIn_trans _ _ _ x.a x.b a0 (Sort.reverseRange_holds e3 x.a x.b a1 O),by simp only;omega,by simp only;omega,by simp only;omega⟩)
   .exact ae
   .exact(by simp only[go_sem,ab,zz])
  .have b4:((h:Int) == 2)=false:=by rw[hU];omega
   apply bU 14;simp only[go_sem,E,b4];refine fd ?_ ?_ (n (p,h) _ ⟨I4,K,e3,rfl,a7,Y u Z,b2,a0,T,S,hh⟩)
   .exact ae
   .exact(by simp only[go_sem,ab,zz])
 clear T S hh a7 b2 Z G Q a0 u ck;clear p h I4 M K e3;rintro⟨p,h⟩ H ⟨I5,A5,e5,rfl,B,s,D,w,T,S,hh⟩;have bc:=w.1;simp only at T S hh;simp only[zz];apply xi (jS (.slice va d.size vk) (.func (.func f) fst cap) x o) (fun y H=>∃M K e,H=U [M,K]/\Dj [M,K]/\I2.le M/\aT M K (.slice va d.size vk) e.toList/\PermIn x.a x.b c e/\y=p)
 .intro n;by_cases b6:x.wb=true/\x.wp=true/\h=1
  .obtain⟨g1,g2,g3⟩:=b6;have b3:((h:Int) == 1)=true:=by rw[g3];rfl
   refine lr g1 g2 b3 ?_;refine ce B [0] [A5] [] rfl PJ rfl (TG (a:=x.a) (b:=x.b) D hc O O O) ?_;rintro v I6 qs P t⟨A6,rfl,cb,rfl⟩;simp only[Z3]at P |-;obtain⟨q1,q2⟩:=Sort.partialInsertionSort_holds wE e5 x.a x.b O O (ca.perm V w);have k6:=Y aa (Y s t);cases bs:(Sort.partialInsertionSort aO e5 x.a x.b).2
   .apply bU 3;simp only[go_sem,E,bs];refine fd ?_ ?_ (n p _ ⟨I6,A6,_,rfl,P,Y s t,cb,permIn_trans _ _ _ x.a x.b w q1,rfl⟩)
    .simp only[jS,g1,g2];exact ae
    .exact(by simp only[go_sem,ab,jS])
   .refine aj bs ?_;obtain⟨q3,q4⟩:=hG _ (permIn_trans _ _ _ x.a x.b w q1) (q2 bs);exact ao rfl P (r:=[]) rfl k6 ⟨A6,_,rfl,cb,q3,q4⟩
  .cases g1:x.wb
   .apply bU 14;simp only[go_sem,E,g1];refine fd ?_ ?_ (n p _ ⟨I5,A5,e5,rfl,B,s,D,w,rfl⟩)
    .simp only[jS,g1];exact ae
    .exact(by simp only[go_sem,ab,jS])
   .cases g2:x.wp
    .apply bU 14;simp only[go_sem,E,g1,g2];refine fd ?_ ?_ (n p _ ⟨I5,A5,e5,rfl,B,s,D,w,rfl⟩)
     .simp only[jS,g1,g2];exact ae
     .exact(by simp only[go_sem,ab,jS])
    .have b3:((h:Int) == 1)=false:=by rw[hU];intro e;exact b6 ⟨g1,g2,O⟩
     apply bU 14;simp only[go_sem,E,g1,g2,b3];refine fd ?_ ?_ (n p _ ⟨I5,A5,e5,rfl,B,s,D,w,rfl⟩)
     .simp only[jS,g1,g2];exact ae
     .exact(by simp only[go_sem,ab,jS])
 clear B D w s bc;clear I5 A5 e5;rintro y H ⟨I5,A5,e5,rfl,B,s,D,w,rfl⟩;have bc:=w.1;have b8:=ca.perm V w;have k5:=Y aa s;simp only[jS];have part:∀(C:Cx) (k:List Item),True:=fun _ _=>trivial;clear part;obtain⟨g0,rfl⟩:∃g0,va=some ⟨g0,0,none⟩:=by obtain⟨g,c',ev⟩:=Ow.addr D O;simp only[Value.slice.injEq]at ev;exact⟨g,ev.1⟩
 apply xi (α:=Unit) (fun _=>jS (.slice (some ⟨g0,0,none⟩) d.size vk) (.func (.func f) fst cap) x o y) (fun _ H=>∃I6,H=U [I6,A5]/\Dj [I6,A5]/\I5.le I6)
 .intro n;rcases g9 x.a with b7|b7
  .have a4:decide ((x.a:Int)>0)=false:=aS O;refine av ?_;refine aV [0,1,2,3,4,5,6,7,8,9,10,11,12,13,14,15,16] [8,12] [] ?_;refine aM a4 ?_;apply an;apply bU 2;simp only[go_sem,E];refine fd ?_ ?_ (n () _ ⟨I5,rfl,B,ax _⟩)
   .exact ae
   .exact(by simp only[go_sem,ab,jS])
  .have a4:decide ((x.a:Int)>0)=true:=ar O;have w6:IntKind.i64.wrap ((x.a:Int)-1)=((x.a-1:Nat):Int):=by rw[ja O];omega
   obtain⟨g,cp,cur,ci,cj,ev,rfl,c0,ri,rj,li,lj,ki,kj,cr⟩:=Ow.two D (fun{I} c a h=>az.len c a h) (fun{I J c a} h k=>az.le h k) (i:=x.a-1) (j:=y) O O;rw[bc.trans cl]at ev c0;simp only[Value.slice.injEq,bv,Addr.mk.injEq,dm,dP]at ev;obtain⟨eg,ek⟩:=ev;subst eg;subst ek;refine av ?_;refine aV [0,1,2,3,4,5,6,7,8,9,10,11,12,13,14,15,16] [8,12] [] ?_;refine eS a4 w6 ?_;refine⟨O,?_⟩;refine Xc (l:=ci) (v:=.agg ci.toArray) rfl (cellsU B (.tail _ (.head _)) (by simpa using ki)) (.inl ⟨by rw[li];exact bK,rfl⟩) ?_;refine eS a4 w6 ?_;refine⟨O,?_⟩;refine Xc (l:=cj) (v:=.agg cj.toArray) rfl (cellsU B (.tail _ (.head _)) (by simpa using kj)) (.inl ⟨by rw[lj];exact bK,rfl⟩) ?_;refine eS a4 w6 ?_;refine cv B [0] [] [_] rfl gf rfl (cf I5 _ _ _ _ ri rj) ?_;rintro v I6 qs P t⟨rfl,z,rfl,hz⟩;simp only[Z3]at P |-;refine aC ?_;apply an;cases ac:aO e5[x.a-1]! e5[y]! with
   |true=>
    rw[ac]at hz;apply bU 2;simp only[go_sem,E,hz,bX];refine fd ?_ ?_ (n () _ ⟨I6,rfl,P,t⟩)
    .exact ae
    .exact(by simp only[go_sem,ab,jS])
   |false=>
    rw[ac]at hz;apply RG;simp only[go_sem,E,hz,cF];refine ce P [0] [_] [] rfl PK rfl (TE (a:=x.a) (b:=x.b) (pivot:=y) (aT.le D t) hc T S O O) ?_;rintro v I7 qs aq al⟨A7,rfl,X,rfl⟩;simp only[Z3]at aq |-;obtain⟨m,e7,hx⟩:∃m e7,Sort.partitionEqual aO e5 x.a x.b y=(m,e7):=⟨_,_,rfl⟩;rw[hx]at X |-;obtain⟨r1,r2,r3,r4,r5⟩:=Sort.round_eq wE (Sort.partitionEqual_holds aO) b7 T S O b8 ac hx;refine av ?_;exact W ⟨m,x.b,o,x.wb,x.wp⟩ _ _ bC ae (by simp only[go_sem,ab,s7]) ⟨I7,A7,e7,rfl,aq,Y k5 (Y t al),X,O,r2,by simp only;omega,b5,F,r4,fun R p q=>by obtain⟨s1,s2⟩:=r5 R p q;exact hG R (permIn_trans _ _ _ x.a x.b w s1) s2⟩
 rintro⟨⟩ H ⟨I6,rfl,P,t⟩;simp only[jS];refine av ?_;refine ce P [0] [A5] [] rfl PL rfl (TC (a:=x.a) (b:=x.b) (pivot:=y) (aT.le D t) hc T S O O) ?_;rintro v I7 qs aq al⟨A7,rfl,X,rfl⟩;simp only[Z3]at aq |-;obtain⟨m,ap,e7,hx⟩:∃m ap e7,Sort.partition aO e5 x.a x.b y=(m,ap,e7):=⟨_,_,_,rfl⟩;rw[hx]at X |-;obtain⟨r1,r2,r3,r4,r5,r6,r7⟩:=Sort.round_part wE (Sort.partition_holds aO) T S O b8 hx;have k7:=Y k5 (Y t al);simp only at X;have w7:IntKind.i64.wrap ((m:Int)-(x.a:Int))=((m-x.a:Nat):Int):=by rw[fa O O];omega
 have w8:IntKind.i64.wrap ((x.b:Int)-(m:Int))=((x.b-m:Nat):Int):=by rw[fa O O];omega
 have w9:IntKind.i64.wrap ((((x.b-x.a:Nat):Int)).tdiv 8)=(((x.b-x.a) / 8:Nat):Int):=by rw[show (((x.b-x.a:Nat):Int)).tdiv 8=(((x.b-x.a) / 8:Nat):Int) from rfl,wrap64 O]
 have w10:IntKind.i64.wrap ((m:Int)+1)=((m+1:Nat):Int):=by have e0:(m:Int)+1=((m+1:Nat):Int):=O;rw[e0];exact wrap64 O
 rcases aB (m-x.a) (x.b-m)with ct|ct
 .have am:=Z5 (m-x.a) (x.b-m);apply RG;simp only[go_sem,E,w7,w8,w9,am];refine ce aq [0] [A7] [] rfl Cy rfl (ih (a:=x.a) (b:=m) (lim:=o) O X hc r1 O O r4 F) ?_;rintro v I8 qs a2 ag⟨A8,e8,rfl,b1,a3,b0⟩;simp only[Z3]at a2 |-;obtain⟨t1,t2⟩:=r6 e8 a3 b0;have cc:=a3.1;refine aj w10 ?_;exact W ⟨m+1,x.b,o,decide (((m-x.a:Nat):Int)>=(((x.b-x.a) / 8:Nat):Int)),ap⟩ _ _ bC ae (by simp only[go_sem,ab,s7]) ⟨I8,A8,e8,rfl,a2,Y k7 ag,b1,O,by simp only;omega,by simp only;omega,b5,F,t1,fun R p q=>by obtain⟨s1,s2⟩:=t2 R p q;exact hG R (permIn_trans _ _ _ x.a x.b w s1) s2⟩
 .have am:decide (((m-x.a:Nat):Int)<((x.b-m:Nat):Int))=false:=aS O;apply RG;simp only[go_sem,E,w7,w8,w9,am,w10];refine ce aq [0] [A7] [] rfl Cy rfl (ih (a:=m+1) (b:=x.b) (lim:=o) O X hc O O O r5 F) ?_;rintro v I8 qs a2 ag⟨A8,e8,rfl,b1,a3,b0⟩;simp only[Z3]at a2 |-;obtain⟨t1,t2⟩:=r7 e8 a3 b0;have cc:=a3.1;refine av ?_;exact W ⟨x.a,m,o,decide (((x.b-m:Nat):Int)>=(((x.b-x.a) / 8:Nat):Int)),ap⟩ _ _ bC ae (by simp only[go_sem,ab,s7]) ⟨I8,A8,e8,rfl,a2,Y k7 ag,b1,O,r1,cn,by simp only;omega,F,t1,fun R p q=>by obtain⟨s1,s2⟩:=t2 R p q;exact hG R (permIn_trans _ _ _ x.a x.b w s1) s2⟩
def UZ{A:PH}(m:aT I A v d.toList)(l:gu az aO vc)(k:d.size<=bF):
  aI prog 147 #[v,vc] I [A] (IJ v d 0 d.size):=by
 intro hd;have g:=k;unfold bF at g;obtain⟨f,fst,cap,rfl,w,x⟩:=id l;obtain⟨u,t,rfl⟩:=Ow.one' m;have q:Sort.bitsLen d.size<=41:=(Sort.bitsLen_le_iff d.size 41).2 O;have o:=wS (n:=d.size) O;refine aG 14 func147 fun w0=>?_;refine db o ?_;refine Xa rfl GZ (HE O _) ?_;rintro v H2⟨rfl,rfl⟩;refine av ?_;refine ce hd [0] [A] [] rfl Cy rfl (TF (d.size-0+1) (a:=0) (b:=d.size) (lim:=Sort.bitsLen d.size) O m l (bg _) (aW _) k (.inl rfl) O) ?_;rintro v I2 qs e c⟨s,e2,rfl,j,i,h⟩;simp only[Z3]at e |-;refine av ?_;exact iu rfl e (r:=[]) rfl c ⟨s,e2,rfl,j,i,h⟩
def He:ay prog 84:=⟨_,func84,rfl,rfl⟩
def OY:ay prog 146:=⟨_,func146,rfl,rfl⟩
variable{l:List Nd}
def Nh(o:de I v l)(p:l.length<=bF):aI prog 146 #[v] I [] fun r I2 qs=>∃A,qs=[A]/\aT I2 A r l:=by
 intro hd;obtain⟨q,s,rfl,i⟩:=id o;unfold bF at p;refine aG 8 func146 fun w0=>?_;cases q with
 |none=>
  have j:l=[]:=by
   rcases i with h|⟨b,off,xs,e,_⟩
   .exact h
   .cases e
  subst j;refine af ?_;refine rM rfl rfl (by exact J0) rfl rfl ?_;apply RG;simp only[go_sem,Option.isNone];refine dR hd fun d=>?_;exact ao rfl d (r:=[_]) rfl (ax _) ⟨_,rfl,Ow.nil _ _ _ _⟩
 |some a=>refine af ?_;refine rM rfl rfl (by exact J0) rfl rfl ?_;apply RG;simp only[go_sem,Option.isNone];refine tV hd (by exact lJ) rfl rfl rfl rfl rfl aR fun b A d f=>?_;refine af ?_;refine dX d (by exact lJ) (xs:=([]:List Nd)) (R:=az) ⟨[],f,rfl⟩ o (fun{I J c a} h k=>az.le h k) (fun{I} c a h=>az.len c a h) (fun{I} c a h=>az.ones h) rfl rfl rfl rfl (by simp only[bA];omega) (by simp only[bA];unfold maxLen;omega) fun a2 c2 I2 t m g n=>?_;apply RG;simp only[go_sem,gk];exact ao rfl m (r:=[_]) rfl g ⟨_,rfl,n⟩
def JK:∀(o:List Nd) (n:Nd),aw (j6 o n)<=aw o+(aw n.kids+1)
 | [],n=>by simp only[j6,eK,lL];omega
 |m::o,n=>by
  rw[j6];split
  .simp only[eK,jr];omega
  .have:=JK o n;simp only[eK];omega
def Eg:∀(l o:List Nd),aw (l.foldl jf o)<=aw o+aw l
 | [],o=>aW _
 |n::l,o=>by
  have h1:=Eg l (jf o n);have h2:aw (jf o n)<=aw o+(aw n.kids+1):=by
   unfold jf;split
   .omega
   .exact JK o n
  rw[List.foldl_cons,eK];omega
def EN{c:Cf}{σ:St}{H H':PH}(e:H=H')(h:RC C c σ H'):RC C c σ H:=by rw[e];exact h
variable{o:List Nd}
def TK{j:Nat}{m m':Nd}(d:o[j]?=some m)(f:m'.key=m.key)(y u:Value):vT (o.set j m') y u<->vT o y u:=by
 have c:=(List.getElem?_eq_some_iff.1 d).1;constructor
 .rintro⟨i,x,hi,a,b⟩;rw[pY]at hi;split at hi
  .rename_i e;subst e;cases hi
   exact⟨j,m,d,by rw[a,f],b⟩
  .exact⟨i,x,hi,a,b⟩
 .rintro⟨i,x,hi,a,b⟩;by_cases e:i=j
  .subst e;rw[d]at hi;cases hi
   exact⟨i,m',List.getElem?_set_self c,by rw[a,f],b⟩
  .exact⟨i,x,by rw[List.getElem?_set_ne (fun e2=>e e2.symm)];exact hi,a,b⟩
def TM{n:Nd}(c:∀x∈o,x.key≠n.key)(y u:Value):vT (o++[n]) y u<->(y=ji n.key/\u=E o.length)\/(y≠ji n.key/\vT o y u):=by
 constructor
 .rintro⟨i,x,hi,a,b⟩;rcases aB i o.length with h|h
  .rw[mU h]at hi;refine .inr ⟨fun e=>c x (cH hi) (Hy (a.symm.trans e)),i,x,hi,a,b⟩
  .rw[pW h]at hi;have:i-o.length=0:=by
    rcases g9 (i-o.length)with d|d
    .exact d
    .rw[fW (by simp;omega)]at hi;cases hi
   rw[this]at hi;cases hi
   exact .inl ⟨a,by rw[b];congr 1;omega⟩
 .rintro(⟨a,b⟩|⟨_,i,x,hi,a,b⟩)
  .exact⟨o.length,n,by simp,a,b⟩
  .exact⟨i,x,by rw[mU (List.getElem?_eq_some_iff.1 hi).1];exact hi,a,b⟩
def Ti(h:ii l)(k:fc):ii (fH l k):=mz.2 fun x a=>by obtain⟨n,b,_,_,a⟩:=Da a;exact mz.1 (vK.1 (mz.1 h n b)).2 x a
def NH{k:fc}{d:Nat}(h:eO l<d+1)(b:k∈ks l):eO (fH l k)<d:=by obtain⟨n,a,_⟩:=Db.1 b;have h1:=kS a;rw[nx]at h1;have h2:eO l<=(d-1)+1:=O;have:=F3 (k:=k) h2;omega
def Jx[Inhabited α]{lt:α->α->Bool}{d e:Array α}(p:Sort.PermIn 0 d.size d e)(s:Sort.SortedIn lt 0 d.size e):e.toList.Perm d.toList/\e.toList.Pairwise (fun a b=>lt b a=false):=by
 have g:=p.1;refine⟨?_,List.pairwise_iff_getElem.2 fun i j hi f c=>?_⟩
 .have h:=p.2.2;rw[show e.extract 0 d.size=e by rw[<-g];simp,show d.extract 0 d.size=d by simp]at h;exact h
 .simp only[kA]at hi f;have:=s i j (bg _) c O;rw[getElem!_pos e j f,getElem!_pos e i hi]at this;simpa using this
def pC(b a:Value)(n:Nat)(x:Nat×Value):St:=⟨dn 87 [(3,.v a),(4,.v x.2),(12,.v b),(13,.v (E n)),(14,.v (E x.1))],[]⟩
def H6(l:List Nd)(a:Nat)(b:PH)(x:Nat×Value)(H:PH):Prop:=∃I M A l',H=U [I,M,A,U (l'.map Prod.fst)]/\Dj [I,M,A,U (l'.map Prod.fst)]/\Dj (l'.map Prod.fst)/\b.le I/\x.1<=l.length/\ip prog M a 240 (vT (l'.map Prod.snd))/\Ow eG 60 7 I A x.2 l'/\l'.map Prod.snd=(l.take x.1).foldl jf []
def yV(v:Value)(n i:Nat):St:=⟨dn 87 [(4,.v v),(70,.v v),(71,.v (E n)),(72,.v (E i))],[]⟩
def UX{l':List (PH×Nd)}{j:Nat}{m:Nd}(h:(l'.map Prod.snd)[j]?=some m):∃K,l'[j]?=some (K,m):=by
 rw[fX]at h;cases a:l'[j]? with
 |none=>rw[a]at h;cases h
 |some p=>rw[a]at h;simp only[fO,bv]at h;exact⟨p.1,by rw[<-h]⟩
def SQ:∀(d:Nat) {I:PH} {v:Value} {l:List Nd},eO l<d->de I v l->jB v->ii l->iY l->aw l<=bF->aI prog 84 #[v] I [] fun r I2 qs=>∃A,qs=[A]/\aT I2 A r (dj d l):=by
 intro d
 induction d with
 |zero=>intro I v l h;omega
 |succ d ih=>
 intro I v l c9 hS hC cj d5 du hd;obtain⟨va,vc,rfl,_⟩:=id hS;have fb:=fJ l;unfold bF at du;refine aG 87 func84 fun w0=>?_
 try simp only[E]
 refine af ?_;refine AR 240 hd rfl rfl fun mr M0 es ez=>?_;refine af ?_;refine dR es fun er=>?_;refine dR er fun eq=>?_;refine bq eq [2,0,1] fun em=>?_;apply gl (fun x=>l.length-x.1) (pC (.slice va l.length vc) (.map (some mr)) l.length) (H6 l mr I) (fun x H=>x.1=l.length/\H6 l mr I x H) (0,.slice none 0 0)
 .exact ae
 .exact(by simp only[go_sem,ab,pC])
 .exact⟨I,M0,PH.no,[],rfl,em,List.Pairwise.nil,ax _,bg _,ez.congr fun y u=>⟨fun⟨j,m,h,_⟩=>by simp at h,fun h=>h.elim⟩,Ow.nil _ _ _ _,rfl⟩
 .rintro⟨i,vo⟩ H ⟨I1,S,A1,l',rfl,Q,V,B,hi,a6,D,F⟩ z b7;simp only at hi D F;simp only[pC];obtain⟨oa,oc,rfl⟩:=D.shape;rcases aB i l.length with t|ek
  rotate_left
  .have:i=l.length:=by omega
   subst this;have dl:decide (((l.length:Nat):Int)<(l.length:Int))=false:=ai;apply bU 7;simp only[go_sem,dl,E];exact b7 (l.length,.slice oa l'.length oc) _ _ ae (by simp only[go_sem,ab,pC]) ⟨rfl,I1,S,A1,l',rfl,Q,V,B,aW _,a6,D,F⟩
  have dl:decide ((i:Int)<(l.length:Int))=true:=by simp;omega
  have ds:=mO hC t;obtain⟨n,hn⟩:∃n,l[i]?=some n:=⟨_,aL t⟩;have d1:=cH hn;have ec:=(vK.1 (mz.1 cj n d1)).1;obtain⟨b,off,cs,rfl,et,ca⟩:=Sl.load az.len (de.le hS B) hn;obtain⟨vk,na,nk,rfl,N,w,cc⟩:=et.shape;obtain⟨ka,kc,rfl,_⟩:=id w;have K:=fu.of (l:=l) (fun x hx=>(vK.1 (mz.1 cj x hx)).1) i O;have T:(l.take (i+1)).foldl jf []=jf (l'.map Prod.snd) n:=by rw[iL hn,lP,F];rfl
  rw[<-F]at K;have cm:aw (l'.map Prod.snd)+(aw n.kids+1)<=aw l:=by
   rw[F];have h1:=Eg (l.take i) [];rw[lL,eR]at h1;have h2:aw (l.take (i+1))<=aw l:=by
    conv=>rhs;rw[<-fl (i+1) l]
    rw[jr];omega
   rw[iL hn,jr,eK,lL]at h2;omega
  have ag:=fJ (l'.map Prod.snd);rw[dW]at ag;refine dr dl ?_;refine⟨O,?_⟩;refine Xb (l:=[.int .u8 n.kind,.string ⟨⟨n.text⟩⟩,.int .i64 n.tok,.int .i64 n.slot,.slice ka n.kids.length kc,sD na nk n.cond,rD n.cond]) (v:=.agg #[.int .u8 n.kind,.string ⟨⟨n.text⟩⟩,.int .i64 n.tok,.int .i64 n.slot,.slice ka n.kids.length kc,sD na nk n.cond,rD n.cond]) rfl (cellsU Q (.head _) ca) (.inl ⟨bK,rfl⟩) ?_;refine cz ?_;refine Xa rfl nC (ny N) ?_;rintro v H2⟨rfl,rfl⟩;cases ck:decide (n.cond=.lf false)
  rotate_left
  .have el:n.cond=ff:=by simpa using ck
   apply RG;simp only[go_sem,E,sD,rD,ck,ds];exact z (i+1,.slice oa l'.length oc) _ _ bC ae (by simp only[go_sem,ab,pC]) ⟨I1,S,A1,l',rfl,Q,V,B,t,a6,D,by simp only;rw[T,jf,ak el]⟩
  have ed:n.cond≠ff:=by simpa using ck
  have cf:jf (l'.map Prod.snd) n=j6 (l'.map Prod.snd) n:=ad ed;refine dr ck ?_;refine Xa rfl uX (vr _ _ _ _ _ _ _ _ _ _ _ _) ?_;rintro v H2⟨rfl,rfl⟩;refine cz ?_;have ap:=RO (o9.1 d5 n d1);have d9:=a6.atU Q (.tail _ (.head _));by_cases c6:∃(j:Nat) (m:Nd),(l'.map Prod.snd)[j]?=some m/\m.key=n.key
  .obtain⟨j,m,hj,cy⟩:=c6;obtain⟨Kj,c0⟩:=UX hj;have a3:=(List.getElem?_eq_some_iff.1 c0).1;refine tW (by exact wZ) (by exact CN) mT (key:=ji n.key) rfl rfl rfl rfl d9 ap (E j) true (.inl ⟨rfl,j,m,hj,by rw[cy],rfl⟩) ?_;apply RG;simp only[go_sem,E,sD,rD,bX];have eN:(l'.map Prod.fst)[j]?=some Kj:=by rw[fX,c0];rfl
   obtain⟨ue,ud⟩:=Lx (l:=[I1,S,A1]) Q V eN;have X:Dj [I1,S,A1,Kj,U ((l'.map Prod.fst).eraseIdx j)]:=ud;rw[show U [I1,S,A1,U (l'.map Prod.fst)]=U [I1,S,A1,Kj,U ((l'.map Prod.fst).eraseIdx j)] from ue];clear ue ud;obtain⟨g,cap,cur,xs,ev,rfl,c1,c2,c3,c4,c5,P⟩:=D.open' O eG.len;cases ev
   obtain⟨vkj,ma,mk,a5,bc,aa⟩:=P.get eG.len c0;obtain⟨kja,kjc,rfl⟩:=aa.shape;have al:l'.length*7<=cur.size:=by rw[c3];exact bS _ c1
   have fp:(j+1)*7<=l'.length*7:=bS _ a3;have Z:=qu (k:=5) (m:=2) (e:=60) (g:=g) (cur:=cur) eG.len P (i:=j) a3 al c4 a5 O;simp only[wW,jU,rE,od]at Z;refine aV [0,1,2,3,4,5,6,7,8,9,10,11,12] [6] [] ?_;refine bV ?_;refine⟨O,?_⟩;refine Xc (l:=[sD ma mk m.cond,rD m.cond]) (v:=.agg #[sD ma mk m.cond,rD m.cond]) rfl (by simpa using cellsU X (.tail _ (.tail _ (.head _))) Z) (.inl ⟨nr,rfl⟩) ?_;refine bV ?_;refine cv X [0,1,2,3] [] [S,_,Kj,_] rfl pi rfl (pH bc N) ?_;rintro v I6 qs G q⟨rfl,d0⟩;obtain⟨za,zk,rfl⟩:=d0.shape2;simp only[Z3]at G |-;refine bV ?_;refine⟨O,?_⟩;refine gw G [1,0,2,3] fun W=>?_;refine cg W rfl rfl rfl rfl rfl rfl (by exact Ac) (by simp;omega) fun a4=>?_;refine bV ?_;apply an;have ba:Ow eG 60 7 I6 (sg g (.cells (bi cur.toList (j*7+5) [sD za zk (m.cond.or n.cond),rD (m.cond.or n.cond)]).toArray 60 (0,0))) (.slice (some ⟨g,0,none⟩) l'.length oc) (l'.set j (Kj,{ m with cond:=m.cond.or n.cond })):=by refine⟨_,?_,qJ eG.len (P.mono fun _ _ h=>eG.le h q) (i:=j) a3 a5 (k:=5) (cs:=[sD za zk (m.cond.or n.cond),rD (m.cond.or n.cond)]) (a:=(Kj,{ m with cond:=m.cond.or n.cond })) ai ⟨.slice kja m.kids.length kjc,za,zk,by simp[bi,sD,rD],d0,aT.le aa q⟩⟩;rw[kD];exact ti c5 c1 c2 c3 c4 (by simp;omega)
   have M:Dj [I6,sg g (.cells (bi cur.toList (j*7+5) [sD za zk (m.cond.or n.cond),rD (m.cond.or n.cond)]).toArray 60 (0,0)),S,Kj,U ((l'.map Prod.fst).eraseIdx j)]:=a4
   change RC _ _ _ (U [I6,sg g (.cells (bi cur.toList (j*7+5) [sD za zk (m.cond.or n.cond),rD (m.cond.or n.cond)]).toArray 60 (0,0)),S,Kj,U ((l'.map Prod.fst).eraseIdx j)])
   clear a4 W G X P a5 Z;generalize sg g (.cells (bi cur.toList (j*7+5) [sD za zk (m.cond.or n.cond),rD (m.cond.or n.cond)]).toArray 60 (0,0))=A2 at ba M;obtain⟨g2,cap2,cur2,xs2,ev2,rfl,b1,b2,b3,b4,b5,am⟩:=ba.open' (by rw[kD];omega) eG.len;rw[kD]at ev2 b1 b4 b5;cases ev2
   have ei:(l'.set j (Kj,{ m with cond:=m.cond.or n.cond }))[j]?=some (Kj,{ m with cond:=m.cond.or n.cond }):=List.getElem?_set_self a3;obtain⟨vk2,m2a,m2k,cb,bd,ac⟩:=am.get eG.len ei;obtain⟨k2a,k2c,rfl⟩:=ac.shape;have b6:j<(l'.set j (Kj,{ m with cond:=m.cond.or n.cond })).length:=by rw[kD];exact a3
   have bb:l'.length*7<=cur2.size:=by rw[b3];exact bS _ b1
   have b0:=qu (k:=4) (m:=1) (e:=60) (g:=g) (cur:=cur2) eG.len am (i:=j) b6 (by rw[kD];exact bb) (by rw[kD];exact b4) cb O;simp only[wW,jU,rE,od]at b0;have e8:m.kids.length<=aw (l'.map Prod.snd):=by have h1:=iK (cH hj);have h2:=fJ m.kids;omega
   have e7:=fJ n.kids;refine cz ?_;refine aV [0,1,2,3,4,5,6,7,8,9,10,11,12] [6] [] ?_;refine bV ?_;refine⟨O,?_⟩;refine Xc (l:=[.slice k2a m.kids.length k2c]) (v:=.slice k2a m.kids.length k2c) rfl (by simpa using cellsU M (.tail _ (.head _)) b0) (.inr ⟨xx,rfl⟩) ?_;refine bV ?_;refine gw M [2,0,1,3] fun s=>?_;refine oD s (by exact lJ) (ac) (de.le w q) (fun{I J c a} h k=>az.le h k) (fun{I} c a h=>az.len c a h) (fun{I} c a h=>az.ones h) rfl rfl rfl rfl rfl rfl (by first|omega|(simp only[bf,bA];omega)) (by unfold maxLen;first|omega|(simp only[bf,bA];omega)) fun pa pc I7 K7 C f da=>?_;refine bV ?_;refine⟨O,?_⟩;refine gw C [1,2,0,3] fun a1=>?_;refine cg a1 rfl rfl rfl rfl rfl rfl (by exact Ec) (by simp;omega) fun a0=>?_;refine bV ?_;apply an;have a9:Ow eG 60 7 I7 (sg g (.cells (bi cur2.toList (j*7+4) [.slice pa (m.kids++n.kids).length pc]).toArray 60 (0,0))) (.slice (some ⟨g,0,none⟩) l'.length oc) (l'.set j (K7,{ m with kids:=m.kids++n.kids,cond:=m.cond.or n.cond })):=by have p:=qJ eG.len (am.mono fun _ _ h=>eG.le h f) (i:=j) b6 cb (k:=4) (cs:=[.slice pa (m.kids++n.kids).length pc]) (a:=(K7,{ m with kids:=m.kids++n.kids,cond:=m.cond.or n.cond })) ai ⟨.slice pa (m.kids++n.kids).length pc,m2a,m2k,by simp[bi],bd.le f,da⟩;rw[List.set_set]at p;refine⟨_,?_,p⟩;rw[kD];exact ti b5 b1 b2 b3 b4 (by simp;omega)
   refine dr ds ?_;obtain⟨ue,ud,uk⟩:=Ly (l:=[I7,_,S]) a0 V (by rw[dW];exact a3);have e5:(l'.map Prod.fst).set j K7=(l'.set j (K7,{ m with kids:=m.kids++n.kids,cond:=m.cond.or n.cond })).map Prod.fst:=by rw[List.map_set]
   have e6:(l'.set j (K7,{ m with kids:=m.kids++n.kids,cond:=m.cond.or n.cond })).map Prod.snd=j6 (l'.map Prod.snd) n:=by rw[List.map_set,um K.dist hj cy]
   rw[e5]at ue ud uk;refine EN ue ?_;refine bq ud [1,0,2] fun aq=>?_;refine z (i+1,.slice (some ⟨g,0,none⟩) l'.length oc) _ _ bC ae (by simp only[go_sem,ab,pC]) ⟨I7,S,_,_,rfl,aq,uk,Y B (Y q f),t,?_,?_,?_⟩
   .refine a6.congr fun y u=>?_;rw[e6,um K.dist hj cy];exact TK (m':={ m with kids:=m.kids++n.kids,cond:=m.cond.or n.cond }) hj rfl y u
   .exact a9
   .simp only;rw[e6,T,cf]
  ·
   have cr:∀x∈l'.map Prod.snd,x.key≠n.key:=fun x hx e=>by obtain⟨j,hj⟩:=List.mem_iff_getElem?.1 hx;exact c6 ⟨j,x,hj,e⟩
   refine tW (by exact wZ) (by exact CN) mT (key:=ji n.key) rfl rfl rfl rfl d9 ap (E 0) false (.inr ⟨rfl,rfl,fun u ⟨j,m,hj,hk,_⟩=>c6 ⟨j,m,hj,(Hy hk).symm⟩⟩) ?_;apply RG;simp only[go_sem,E,sD,rD,cF];refine xl (by exact wZ) (by exact CN) (key:=ji n.key) (v:=E l'.length) Q rfl (.inl rfl) rfl rfl rfl a6 ap fun M5 X ey=>?_;refine cz ?_;refine ce X [0,1,2] [] [M5,A1,_] rfl OY rfl (Nh w (by have:=fJ n.kids;unfold bF;omega)) ?_;rintro v I6 qs G q⟨K6,rfl,a7⟩;simp only[Z3]at G |-;obtain⟨qa,qc,rfl⟩:=a7.shape;refine cz ?_;refine cd G (by exact lJ) rfl rfl rfl rfl rfl aR fun nb I7 W f ee=>?_;have ex:Sl eG I7 (.slice (some ⟨nb,0,none⟩) 1 1) [(K6,n)]:=⟨_,_,rfl,.inr ⟨nb,0,_,rfl,bD ee (by simp[aD,Value.cells]) (by simp[aD,Value.cells,E,sD,rD]),.one ⟨.slice qa n.kids.length qc,na,nk,rfl,N.le (Y q f),aT.le a7 f⟩⟩⟩;refine cz ?_;refine bq W [2,1,0,3] fun a4=>?_;refine dX (R:=eG) (xs:=l') (ys:=[(K6,n)]) a4 (by exact lJ) (Ow.le (R:=eG) (fun{I J c a} h k=>eG.le h k) D (Y q f)) ex (fun{I J c a} h k=>eG.le h k) (fun{I} c a h=>eG.len c a h) (fun{I} c a h=>eG.ones h) rfl rfl rfl rfl (by simp only[bf,bA];omega) (by simp only[bf,bA];unfold maxLen;omega) fun ua uc I8 A8 M ct e4=>?_;refine dr ds ?_;have s:Dj [I8,A8,M5,K6,U (l'.map Prod.fst)]:=M;obtain⟨ue,ud,uk⟩:=Lz (l:=[I8,A8,M5]) s V;rw[show l'.map Prod.fst++[K6]=(l'++[(K6,n)]).map Prod.fst by simp]at ue ud uk;refine EN ue ?_;refine bq ud [1,0,2] fun C=>?_;have e6:(l'++[(K6,n)]).map Prod.snd=j6 (l'.map Prod.snd) n:=by rw[un cr];simp
   refine z (i+1,.slice ua (l'++[(K6,n)]).length uc) _ _ bC ae (by simp only[go_sem,ab,pC]) ⟨I8,M5,A8,l'++[(K6,n)],rfl,C,uk,Y B (Y q (Y f ct)),t,?_,e4,by simp only;rw[e6,T,cf]⟩;refine ey.congr fun y u=>?_;rw[e6,un cr,<-show (l'.map Prod.snd).length=l'.length from dW ..];exact TM cr y u
 rintro⟨i,vo⟩ H ⟨hi,I1,S,A1,l',rfl,Q,V,B,_,a6,D,F⟩;simp only at hi D F;subst hi;rw[cB]at F;simp only[pC];obtain⟨oa,oc,rfl⟩:=D.shape;have K:=fu.of (l:=l) (fun x hx=>(vK.1 (mz.1 cj x hx)).1) l.length (aW _);rw[cB,<-F]at K;have cm:aw (l'.map Prod.snd)<=aw l:=by rw[F];have h1:=Eg l [];rw[lL,eR]at h1;exact h1
 have ag:=fJ (l'.map Prod.snd);have d3:(l'.map Prod.snd).length=l'.length:=dW ..;have X:Dj [I1,S,A1,U (l'.map Prod.fst)]:=Q;refine bq X [2,0,1] fun G=>?_;refine bH (c:=.st _) G fun I2 G bx e2=>?_;have ba:aT I2 A1 (.slice oa l'.length oc) (l'.map Prod.snd):=by obtain⟨xs,h1,h2⟩:=D;exact⟨xs,by rw[d3];exact h1,LR.still bx h2 fun p hp=>Y (jk V (List.mem_map.2 ⟨p,hp,rfl⟩)) e2⟩
 rw[<-d3]at ba |-;generalize l'.map Prod.snd=o at *;refine av ?_;have ci:aT I2 A1 (.slice oa o.length oc) o.toArray.toList:=ba;refine ce G [1,0] [A1] [S] rfl OZ rfl (UZ (d:=o.toArray) ci Nm (by simp;unfold bF;omega)) ?_;rintro v I3 qs W cx⟨A3,e3,rfl,a9,d7,d6⟩;simp only[Z3]at W |-;obtain⟨cp,dT⟩:=Jx d7 d6;have hL:e3.toList=(ks l).map (gF l):=K.sorted cp dT;have d2:o.length=((ks l).map (gF l)).length:=by rw[<-hL,cp.length_eq]
 have a9:aT I3 A3 (.slice oa o.length oc) e3.toList:=a9;rw[hL,d2]at a9;rw[d2];clear ba ci D cp dT d6 d7;have cn:=Eh l;have fn:=HB l;have b8:∀n∈(ks l).map (gF l),eO n.kids<d/\ii n.kids/\iY n.kids/\aw n.kids<=2^40:=fun n hn=>by obtain⟨k,eg,rfl⟩:=List.mem_map.1 hn;refine⟨?_,Ti cj k,Ou d5 k,cO (VA l k) du⟩;show eO (fH l k)<d;exact NH c9 eg
 have d4:((ks l).map (gF l)).length<=aw l:=cO (fJ _) cn;rw[De];generalize (ks l).map (gF l)=L at *;refine av ?_;refine bq W [1,0] fun a4=>?_;refine bz (fun i=>L.length-i) (yV (.slice oa L.length oc) L.length) (fun i H=>∃I5 A5,H=U [I5,S,A5]/\Dj [I5,S,A5]/\I3.le I5/\i<=L.length/\aT I5 A5 (.slice oa L.length oc) ((L.take i).map (fun(m:Nd)=>{ m with kids:=dj d m.kids })++L.drop i)) 0 ae (by simp only[go_sem,ab,yV]) ?_ ?_
 .exact⟨I3,A3,rfl,a4,ax _,bg _,a9⟩
 rintro i H ⟨I5,A5,rfl,M,bs,hi,dc⟩ z;simp only[yV];have eh:=Y B (Y bx (Y cx bs));rcases aB i L.length with t|ek
 .have dd:decide ((i:Int)<(L.length:Int))=true:=by simp;omega
  have e1:IntKind.i64.wrap ((i:Int)+1)=((i+1:Nat):Int):=by rw[<-wrap64 (n:=i+1) O];congr 1
  obtain⟨n,hn⟩:∃n,L[i]?=some n:=⟨_,aL t⟩;obtain⟨p1,p2,p3,p4⟩:=b8 n (cH hn);have a2:((L.take i).map (fun(m:Nd)=>{ m with kids:=dj d m.kids })++L.drop i).length=L.length:=by simp;omega
  have ej:((L.take i).map (fun(m:Nd)=>{ m with kids:=dj d m.kids })++L.drop i)[i]?=some n:=by rw[pW (by simp;omega)];simp only[dW,eE,kF (fo t),Nat.sub_self,rA,ln];exact hn
  have ea:((L.take i).map (fun(m:Nd)=>{ m with kids:=dj d m.kids })++L.drop i).set i { n with kids:=dj d n.kids }=(L.take (i+1)).map (fun(m:Nd)=>{ m with kids:=dj d m.kids })++L.drop (i+1):=by
   rw[List.set_append_right _ _ (by simp;omega)];simp only[dW,eE,kF (fo t),Nat.sub_self];rw[iL hn,jV,eD];congr 1;have:L.drop i=n::L.drop (i+1):=by rw[jv t];rw[aL t]at hn;rw[df hn]
   rw[this];rfl
  obtain⟨g,cap,cur,xs,ev,rfl,c1,c2,c3,c4,c5,P⟩:=dc.open' (by rw[a2];omega) az.len;rw[a2]at ev c1 c4 c5;cases ev
  obtain⟨vk,na,nk,a5,N,w,cc⟩:=(P.get az.len ej).shape;obtain⟨ka,kc,rfl,_⟩:=id w;have al:L.length*7<=cur.size:=by rw[c3];exact bS _ c1
  have fr:(i+1)*7<=L.length*7:=bS _ t;have b0:=qu (k:=4) (m:=1) (e:=60) (g:=g) (cur:=cur) az.len P (i:=i) (by rw[a2];exact t) (by rw[a2];exact al) (by rw[a2];exact c4) a5 O;simp only[wW,jU,rE,od]at b0;refine aj dd ?_;refine⟨O,?_⟩;refine Xb (l:=[.slice ka n.kids.length kc]) rfl (by simpa using cellsU M (.tail _ (.tail _ (.head _))) b0) (.inr ⟨xx,rfl⟩) ?_;refine av ?_;refine ce M [0,1] [] [S,_] rfl He rfl (ih p1 w cc p2 p3 p4) ?_;rintro v I6 qs s q⟨K6,rfl,a7⟩;simp only[Z3]at s |-;obtain⟨qa,qc,rfl⟩:=a7.shape;have eU:=a7.capN az.len;refine bq s [0,1,2] fun C=>?_;refine bH C fun I7 C f da=>?_;have eA:de I7 (.slice qa (dj d n.kids).length qc) (dj d n.kids):=aT.sl a7 f da;refine av ?_;refine⟨O,?_⟩;refine bq C [1,0] fun a1=>?_;refine oB a1 rfl rfl rfl rfl rfl (by exact Ec) (by simp;omega) fun a0=>?_;refine aj e1 ?_;refine bq a0 [1,0] fun aq=>?_;have cl:=Y q f;refine z (i+1) _ _ O ae (by simp only[go_sem,ab,yV]) ⟨I7,_,rfl,aq,Y bs cl,t,?_⟩;rw[<-ea];refine⟨_,?_,qJ az.len (P.mono fun _ _ h=>az.le h cl) (i:=i) (by rw[a2];exact t) a5 (k:=4) (cs:=[.slice qa (dj d n.kids).length qc]) (a:={ n with kids:=dj d n.kids }) ai (az.mk (n:={ n with kids:=dj d n.kids }) (N.le cl) eA eU)⟩;rw[kD,a2];exact ti c5 c1 c2 c3 c4 (by simp;omega)
 .have:i=L.length:=by omega
  subst this;have dd:decide (((L.length:Nat):Int)<(L.length:Int))=false:=ai;rw[cB,jw,ab]at dc;refine aj dd ?_;refine bq M [0,1] fun s=>?_;refine bH (c:=.st _) s fun I9 s bo fs=>?_;exact ao rfl s (r:=[_]) rfl (Y eh bo) ⟨A5,rfl,aT.le dc bo⟩
end Go.Proofs.YtfaclfkpnmcmlaaGreatDoor
