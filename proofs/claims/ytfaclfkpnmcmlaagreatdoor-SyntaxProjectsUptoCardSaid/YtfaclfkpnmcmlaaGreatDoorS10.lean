import Derived.Test.YtfaclfkpnmcmlaaGreatDoorS03
import Derived.Test.YtfaclfkpnmcmlaaGreatDoorS08
import Derived.Test.YtfaclfkpnmcmlaaGreatDoorS09
import Derived.Sort.AssemblyPlain
set_option maxHeartbeats 8000000
set_option linter.all false
namespace Go.Proofs.YtfaclfkpnmcmlaaGreatDoor
open Go Go.Sx Dg Syn
theorem xy:aP Tryz.prog 161:=⟨_,Tryz.func161,rfl,rfl⟩
theorem HK:aP Tryz.prog 162:=⟨_,Tryz.func162,rfl,rfl⟩
theorem Jv:aP Tryz.prog 226:=⟨_,Tryz.func226,rfl,rfl⟩
theorem JE:aP Tryz.prog 227:=⟨_,Tryz.func227,rfl,rfl⟩
theorem BV:aP Tryz.prog 232:=⟨_,Tryz.func232,rfl,rfl⟩
theorem BO:aP Tryz.prog 233:=⟨_,Tryz.func233,rfl,rfl⟩
theorem Cb:aP Tryz.prog 281:=⟨_,Tryz.func281,rfl,rfl⟩
theorem Bz:aP Tryz.prog 282:=⟨_,Tryz.func282,rfl,rfl⟩
theorem Cr:aP Tryz.prog 160:=⟨_,Tryz.func160,rfl,rfl⟩
theorem oB:aP Tryz.prog 145:=⟨_,Tryz.func145,rfl,rfl⟩
theorem IH:aP Tryz.prog 149:=⟨_,Tryz.func149,rfl,rfl⟩
theorem JO:aP Tryz.prog 148:=⟨_,Tryz.func148,rfl,rfl⟩
theorem AV:aP Tryz.prog 93:=⟨_,Tryz.func93,rfl,rfl⟩
theorem bv.keep{P:Program}{f:FuncId}{args:Array Value}{I:PH}{w:Value}(h:bv P f args I fun v H2=>v=w/\H2=I):aO P f args I [] fun v I2 qs=>qs=[]/\v=w:=
 bv.toI (h.mono fun v H2 ⟨e1,e2⟩=>⟨by rw[e2];exact Uj _,e1⟩)
def iC(a b:Int):Int:=if a<b then -1 else if b<a then 1 else 0
def z7(a b:bM):Int:=if vj a b=true then -1 else if vj b a=true then 1 else 0
theorem ly:∀(a b:bM),Op.bytesLess a b=vj a b
 |_,[]=>by simp[Op.bytesLess,vj]
 | [],_::_=>rfl
 |x::a,y::b=>by
  have ih:=ly a b;simp only[Op.bytesLess,vj,ih];by_cases h1:x.toNat<y.toNat
  ·have:x<y:=h1;simp[h1,this]
  ·have n1:¬x<y:=h1;by_cases h2:y.toNat<x.toNat
   ·have:(x == y)=false:=by
     rw[Uf];intro e;rw[e]at h2;exact Nat.lt_irrefl _ h2
    simp[h1,h2,n1,this]
   ·have e:x=y:=UInt8.toNat_inj.1 Vi;subst e;simp[h1]
theorem zf(a:Int)(H:PH):bv Tryz.prog 232 #[.int .i64 a] H fun v H2=>v=.bool false/\H2=H:=by
 refine bK Tryz.func232 rfl (by simp[Tryz.ntmps232]) fun w0=>?_;simp only[Tryz.ntmps232];apply RG;simp only[go_sem,bne_self_eq_false];exact aK (r:=[_]) rfl ⟨rfl,rfl⟩
theorem uY(a:Int)(H:PH):bv Tryz.prog 233 #[.int .u8 a] H fun v H2=>v=.bool false/\H2=H:=by
 refine bK Tryz.func233 rfl (by simp[Tryz.ntmps233]) fun w0=>?_;simp only[Tryz.ntmps233];apply RG;simp only[go_sem,bne_self_eq_false];exact aK (r:=[_]) rfl ⟨rfl,rfl⟩
theorem BR(a:Int)(H:PH):bv Tryz.prog 281 #[.int .u8 a] H fun v H2=>v=.bool false/\H2=H:=by
 refine bK Tryz.func281 rfl (by simp[Tryz.ntmps281]) fun w0=>?_;simp only[Tryz.ntmps281];apply RG;simp only[go_sem,bne_self_eq_false];exact aK (r:=[_]) rfl ⟨rfl,rfl⟩
theorem zr(a:bM)(H:PH):bv Tryz.prog 282 #[.string ⟨⟨a⟩⟩] H fun v H2=>v=.bool false/\H2=H:=by
 refine bK Tryz.func282 rfl (by simp[Tryz.ntmps282]) fun w0=>?_;simp only[Tryz.ntmps282];apply RG;simp only[go_sem,bne_self_eq_false];exact aK (r:=[_]) rfl ⟨rfl,rfl⟩
theorem tK(a b:Int)(H:PH):bv Tryz.prog 161 #[.int .i64 a,.int .i64 b] H fun v H2=>v=.int .i64 (iC a b)/\H2=H:=by
 refine ir 20 Tryz.func161 fun w0=>?_;refine Un ?_;refine Pf rfl BV (zf a H) fun v H2 hv=>?_;obtain⟨rfl,rfl⟩:=hv;refine Un ?_;refine Pf rfl BV (zf b H2) fun v H3 hv=>?_;obtain⟨rfl,rfl⟩:=hv;by_cases h1:a<b
 ·have q1:decide (a<b)=true:=Uh h1;apply RG;simp only[go_sem,q1];exact aK (r:=[_]) rfl ⟨by simp[iC,h1,eN],rfl⟩
 ·have q1:decide (a<b)=false:=Ug h1;by_cases h2:b<a
  ·have q2:decide (a>b)=true:=Uh h2;apply RG;simp only[go_sem,q1,q2,TS,T7];exact aK (r:=[_]) rfl ⟨by simp[iC,h1,h2,eN],rfl⟩
  ·have q2:decide (a>b)=false:=Ug h2;apply RG;simp only[go_sem,q1,q2,TS,Ud];exact aK (r:=[_]) rfl ⟨by simp[iC,h1,h2,eN],rfl⟩
theorem CQ(a b:Int)(H:PH):bv Tryz.prog 162 #[.int .u8 a,.int .u8 b] H fun v H2=>v=.int .i64 (iC a b)/\H2=H:=by
 refine ir 20 Tryz.func162 fun w0=>?_;refine Un ?_;refine Pf rfl BO (uY a H) fun v H2 hv=>?_;obtain⟨rfl,rfl⟩:=hv;refine Un ?_;refine Pf rfl BO (uY b H2) fun v H3 hv=>?_;obtain⟨rfl,rfl⟩:=hv;by_cases h1:a<b
 ·have q1:decide (a<b)=true:=Uh h1;apply RG;simp only[go_sem,q1];exact aK (r:=[_]) rfl ⟨by simp[iC,h1,eN],rfl⟩
 ·have q1:decide (a<b)=false:=Ug h1;by_cases h2:b<a
  ·have q2:decide (a>b)=true:=Uh h2;apply RG;simp only[go_sem,q1,q2,TS,T7];exact aK (r:=[_]) rfl ⟨by simp[iC,h1,h2,eN],rfl⟩
  ·have q2:decide (a>b)=false:=Ug h2;apply RG;simp only[go_sem,q1,q2,TS,Ud];exact aK (r:=[_]) rfl ⟨by simp[iC,h1,h2,eN],rfl⟩
theorem Jn(a b:Int)(H:PH):bv Tryz.prog 226 #[.int .u8 a,.int .u8 b] H fun v H2=>v=.int .i64 (iC a b)/\H2=H:=by
 refine ir 20 Tryz.func226 fun w0=>?_;refine Un ?_;refine Pf rfl Cb (BR a H) fun v H2 hv=>?_;obtain⟨rfl,rfl⟩:=hv;refine Un ?_;refine Pf rfl Cb (BR b H2) fun v H3 hv=>?_;obtain⟨rfl,rfl⟩:=hv;by_cases h1:a<b
 ·have q1:decide (a<b)=true:=Uh h1;apply RG;simp only[go_sem,q1];exact aK (r:=[_]) rfl ⟨by simp[iC,h1,eN],rfl⟩
 ·have q1:decide (a<b)=false:=Ug h1;by_cases h2:b<a
  ·have q2:decide (a>b)=true:=Uh h2;apply RG;simp only[go_sem,q1,q2,TS,T7];exact aK (r:=[_]) rfl ⟨by simp[iC,h1,h2,eN],rfl⟩
  ·have q2:decide (a>b)=false:=Ug h2;apply RG;simp only[go_sem,q1,q2,TS,Ud];exact aK (r:=[_]) rfl ⟨by simp[iC,h1,h2,eN],rfl⟩
theorem Fl(a b:bM)(H:PH):bv Tryz.prog 227 #[.string ⟨⟨a⟩⟩,.string ⟨⟨b⟩⟩] H fun v H2=>v=.int .i64 (z7 a b)/\H2=H:=by
 refine ir 20 Tryz.func227 fun w0=>?_;refine Un ?_;refine Pf rfl Bz (zr a H) fun v H2 hv=>?_;obtain⟨rfl,rfl⟩:=hv;refine Un ?_;refine Pf rfl Bz (zr b H2) fun v H3 hv=>?_;obtain⟨rfl,rfl⟩:=hv;by_cases h1:vj a b=true
 ·have q1:Op.bytesLess a b=true:=by rw[ly];exact h1
  apply RG;simp only[go_sem,q1];exact aK (r:=[_]) rfl ⟨by simp[z7,h1,eN],rfl⟩
 ·have q1:Op.bytesLess a b=false:=by rw[ly];simpa using h1
  by_cases h2:vj b a=true
  ·have q2:(a == b)=false:=by rw[Uf];intro e;rw[e,tp.irr]at h2;cases h2
   apply RG;simp only[go_sem,q1,q2,TS,T7];exact aK (r:=[_]) rfl ⟨by simp[z7,h1,h2,eN],rfl⟩
  ·have q2:(a == b)=true:=by rw[beq_iff_eq];exact tp.tri a b (by simpa using h1) (by simpa using h2)
   apply RG;simp only[go_sem,q1,q2,TS,Ud];exact aK (r:=[_]) rfl ⟨by simp[z7,h1,h2,eN],rfl⟩
def wZ:List Int->Int
 | []=>0
 |a::l=>if a=0 then wZ l else a
def Jr(sv:Value)(n:Nat)(i:Nat):St:=⟨dn 18 [(3,.v (.int .i64 0)),(6,.v sv),(7,.v (iv n)),(8,.v (iv i))],[]⟩
theorem OM{H:PH}{b c:Nat}{zs:List Int}(h:aQ H b 0 (zs.map fun z=>.int .i64 z))(hl:zs.length<=100):bv Tryz.prog 160 #[.slice (some ⟨b,0,none⟩) zs.length c] H fun v H2=>v=.int .i64 (wZ zs)/\H2=H:=by
 refine ir 18 Tryz.func160 fun w0=>?_;refine Un ?_;refine aB (fun x=>zs.length-x) (Jr (.slice (some ⟨b,0,none⟩) zs.length c) zs.length) (fun i H2=>H2=H/\i<=zs.length/\wZ (zs.drop i)=wZ zs) 0 Uo (by simp only[go_sem,Tq,Jr]) ⟨rfl,S6 _,rfl⟩ ?_;rintro i H2 ⟨rfl,hi,hz⟩ ac;simp only[Jr];rcases Sw i zs.length with aj|an
 ·have h9:decide ((i:Int)<(zs.length:Int))=true:=by simp;omega
  have e1:=wrap64 (n:=i+1) Vi;have am:IntKind.i64.wrap ((i:Int)+1)=((i+1:Nat):Int):=by rw[<-e1];congr 1
  obtain⟨z,hg⟩:∃z,zs[i]?=some z:=⟨_,SC aj⟩;have hd:zs.drop i=z::zs.drop (i+1):=by
   rw[S5 aj];rw[SC aj]at hg;rw[Tk hg]
  have aa:=h.sub i 1 (by simp;omega);have hm:((zs.map fun z=>Value.int .i64 z).drop i).take 1=[.int .i64 z]:=by
   rw[<-List.map_drop,hd];rfl
  rw[hm,Sf]at aa;rw[hd]at hz;apply RG;simp only[go_sem,h9,iv];refine⟨Vi,?_⟩;refine Qz (l:=[.int .i64 z]) rfl (by simpa using aa) (.inr ⟨mF,rfl⟩) ?_;by_cases h0:z=0
  ·have q:(z != 0)=false:=by simp[h0]
   apply RG;simp only[go_sem,iv,q,am];exact ac (i+1) _ _ Vi Uo (by simp only[go_sem,Tq,Jr]) ⟨rfl,aj,by rw[<-hz];simp[wZ,h0]⟩
  ·have q:(z != 0)=true:=by simp[h0]
   apply RG;simp only[go_sem,iv,q];exact aK (r:=[_]) rfl ⟨by rw[<-hz];simp[wZ,h0,eN],rfl⟩
 ·have ak:i=zs.length:=by omega
  subst ak;have h9:=Z6 zs.length;rw[T4]at hz;apply RG;simp only[go_sem,h9,iv];exact aK (r:=[_]) rfl ⟨by rw[<-hz];rfl,rfl⟩
theorem yz(k t o g:Int)(x:bM)(ea fa:Option Addr)(en ec fn fc:Nat)(H:PH):bv Tryz.prog 145 #[.agg #[.int .u8 k,.string ⟨⟨x⟩⟩,.int .i64 t,.int .i64 o,.slice ea en ec,.slice fa fn fc,.int .i64 g]] H fun v H2=>v=.agg #[.int .i64 o,.int .i64 t,.int .u8 k,.string ⟨⟨x⟩⟩]/\H2=H:=by
 refine ir 12 Tryz.func145 fun w0=>?_;refine Un ?_;exact aK (r:=[.agg #[.int .i64 o,.int .i64 t,.int .u8 k,.string ⟨⟨x⟩⟩]]) (by simp only[Tryz.results145,go_sem]) ⟨rfl,rfl⟩
def LQ(x y:nL):Int:=wZ [iC x.slot y.slot,iC x.tok y.tok,iC x.kind y.kind,z7 x.text y.text]
def nJ(k:nL):Value:=.agg #[.int .i64 k.slot,.int .i64 k.tok,.int .u8 k.kind,.string ⟨⟨k.text⟩⟩]
theorem JH(x y:nL):decide (LQ x y<0)=E4 x y:=by
 unfold LQ E4 iC z7 wZ wZ wZ wZ wZ;by_cases a1:x.slot<y.slot
 ·simp[a1]
 ·by_cases a2:y.slot<x.slot
  ·simp[a1,a2]
  ·by_cases b1:x.tok<y.tok
   ·simp[a1,a2,b1]
   ·by_cases b2:y.tok<x.tok
    ·simp[a1,a2,b1,b2]
    ·by_cases c1:x.kind<y.kind
     ·simp[a1,a2,b1,b2,c1]
     ·by_cases c2:y.kind<x.kind
      ·simp[a1,a2,b1,b2,c1,c2]
      ·cases d1:vj x.text y.text<;>cases d2:vj y.text x.text<;>simp[a1,a2,b1,b2,c1,c2]
theorem D0(x y:nL)(I:PH):aO Tryz.prog 149 #[nJ x,nJ y] I [] fun v I2 qs=>qs=[]/\v=.int .i64 (LQ x y):=by
 intro hd;refine ir 27 Tryz.func149 fun w0=>?_
 try simp only[nJ]
 refine Un ?_;refine V8 [0,1,2,3,5,6,7,8,10,11,12,13,15,16,17,18,4,9,14,19,20,21,22] [] [] ?_;refine Ux ?_;refine IR hd rfl xy (bv.keep (tK x.slot y.slot I)) fun v I2 qs a3 an hq=>?_;obtain⟨rfl,rfl⟩:=hq;refine Ux ?_;refine IR a3 rfl xy (bv.keep (tK x.tok y.tok I2)) fun v I3 qs a2 am hq=>?_;obtain⟨rfl,rfl⟩:=hq;refine Ux ?_;refine IR a2 rfl Jv (bv.keep (Jn x.kind y.kind I3)) fun v I4 qs a1 ak hq=>?_;obtain⟨rfl,rfl⟩:=hq;refine Ux ?_;refine IR a1 rfl JE (bv.keep (Fl x.text y.text I4)) fun v I5 qs a0 aj hq=>?_;obtain⟨rfl,rfl⟩:=hq;refine Ux ?_;refine aZ a0 (by exact qX) rfl rfl rfl rfl rfl Vm fun nb I6 aS ac ao=>?_;refine Ux ?_;refine IR aS rfl Cr (bv.keep (OM (zs:=[iC x.slot y.slot,iC x.tok y.tok,iC x.kind y.kind,z7 x.text y.text]) (az ao (by simp[aE,Value.cells]) (by simp[aE,Value.cells])) (by simp))) fun v I7 qs ap aa hq=>?_;obtain⟨rfl,rfl⟩:=hq;refine Ux ?_;refine aw ?_;refine Un ?_;exact ai rfl ap (r:=[_]) rfl (Ui an (Ui am (Ui ak (Ui aj (Ui ac aa))))) ⟨rfl,rfl⟩
def jT{α:Type}(R:PH->List Value->α->Prop)(lt:α->α->Bool)(vc:Value):Prop:=
 ∃f first cap,vc=.func (.func f) first cap/\aP Tryz.prog f/\∀(J:PH) (x y:α) (cx cy:List Value),R J cx x->R J cy y->
  aO Tryz.prog f (first++[Value.agg cx.toArray,Value.agg cy.toArray].toArray++cap) J [] fun v I2 qs=>qs=[]/\∃z:Int,v=.int .i64 z/\decide (z<0)=lt x y
def cz(x y:Nd):Bool:=E4 x.key y.key
theorem CX{J:PH}{x y:Nd}{cx cy:List Value}(hx:aW J cx x)(hy:aW J cy y):aO Tryz.prog 148 #[.agg cx.toArray,.agg cy.toArray] J [] fun v I2 qs=>qs=[]/\∃z:Int,v=.int .i64 z/\decide (z<0)=cz x y:=by
 intro hd;obtain⟨kv,na,nk,rfl,ap,ac,a2⟩:=hx.shape;obtain⟨kv2,na2,nk2,rfl,an,aa,ao⟩:=hy.shape;obtain⟨ka,kc,rfl,_⟩:=ac;obtain⟨ka2,kc2,rfl,_⟩:=aa;refine ir 10 Tryz.func148 fun w0=>?_
 try simp only[sD,rD,iv]
 refine Un ?_;refine V8 [0,2,1,3,4,5] [] [] ?_;refine Ux ?_;refine IR hd rfl oB (bv.keep (yz _ _ _ _ _ _ _ _ _ _ _ J)) fun v I2 qs a1 am hq=>?_;obtain⟨rfl,rfl⟩:=hq;refine Ux ?_;refine IR a1 rfl oB (bv.keep (yz _ _ _ _ _ _ _ _ _ _ _ I2)) fun v I3 qs a0 ak hq=>?_;obtain⟨rfl,rfl⟩:=hq;refine Ux ?_;refine IR a0 rfl IH (D0 x.key y.key I3) fun v I4 qs aS aj hq=>?_;obtain⟨rfl,rfl⟩:=hq;refine Ux ?_;refine aw ?_;refine Un ?_;exact ai rfl aS (r:=[_]) rfl (Ui am (Ui ak aj)) ⟨rfl,_,rfl,JH _ _⟩
theorem NJ:jT aW cz (.func (.func 148) #[] #[]):=⟨148,#[],#[],rfl,JO,fun J x y cx cy hx hy=>CX hx hy⟩
def uU(x y:bX):Int:=wZ [iC x.tok y.tok,iC x.code y.code]
def g9(x y:bX):Bool:=tS x.key y.key
theorem Ge(x y:bX):decide (uU x y<0)=g9 x y:=by
 unfold uU g9 tS iC wZ wZ wZ bX.key;by_cases a1:x.tok<y.tok
 ·simp[a1]
 ·by_cases a2:y.tok<x.tok
  ·simp[a1,a2]
  ·by_cases b1:x.code<y.code
   ·simp[a1,a2,b1]
   ·by_cases b2:y.code<x.code<;>simp[a1,a2,b1,b2]
theorem yT(x y:bX):(uU x y == 0)=decide (x.key=y.key):=by
 unfold uU iC wZ wZ wZ bX.key;by_cases a1:x.tok<y.tok
 ·have:x.tok≠y.tok:=by omega
  simp[a1,this]
 ·by_cases a2:y.tok<x.tok
  ·have:x.tok≠y.tok:=by omega
   simp[a1,a2,this]
  ·have e:x.tok=y.tok:=by omega
   by_cases b1:x.code<y.code
   ·have:x.code≠y.code:=by omega
    simp[b1,this,e]
   ·by_cases b2:y.code<x.code
    ·have:x.code≠y.code:=by omega
     simp[b1,b2,this,e]
    ·have e2:x.code=y.code:=by omega
     simp[e,e2]
theorem wh{I:PH}{x y:bX}{cx cy:List Value}(hx:dg I cx x)(hy:dg I cy y):aO Tryz.prog 93 #[.agg cx.toArray,.agg cy.toArray] I [] fun v I2 qs=>qs=[]/\v=.int .i64 (uU x y):=by
 intro hd;obtain⟨a1,k1,rfl,h1⟩:=hx;obtain⟨a2,k2,rfl,h2⟩:=hy;refine ir 17 Tryz.func93 fun w0=>?_
 try simp only[sD,rD,iv]
 refine Un ?_;refine V8 [0,1,2,3,5,6,7,8,4,9,10,11,12] [] [] ?_;refine Ux ?_;refine IR hd rfl xy (bv.keep (tK x.tok y.tok I)) fun v I2 qs aS ak hq=>?_;obtain⟨rfl,rfl⟩:=hq;refine Ux ?_;refine IR aS rfl HK (bv.keep (CQ x.code y.code I2)) fun v I3 qs ap aj hq=>?_;obtain⟨rfl,rfl⟩:=hq;refine Ux ?_;refine aZ ap (by exact qX) rfl rfl rfl rfl rfl Vm fun nb I6 ao ac am=>?_;refine Ux ?_;refine IR ao rfl Cr (bv.keep (OM (zs:=[iC x.tok y.tok,iC x.code y.code]) (az am (by simp[aE,Value.cells]) (by simp[aE,Value.cells])) (by simp))) fun v I7 qs an aa hq=>?_;obtain⟨rfl,rfl⟩:=hq;refine Ux ?_;refine aw ?_;refine Un ?_;exact ai rfl an (r:=[_]) rfl (Ui ak (Ui aj (Ui ac aa))) ⟨rfl,rfl⟩
theorem Om:jT dg g9 (.func (.func 93) #[] #[]):=⟨93,#[],#[],rfl,AV,fun J x y cx cy hx hy=>(wh hx hy).mono fun v I2 qs _ ⟨e1,e2⟩=>⟨e1,_,e2,Ge x y⟩⟩
end Go.Proofs.YtfaclfkpnmcmlaaGreatDoor
namespace Syn
open Dg
mutual
def QO:Nd->Nat
 |⟨_,_,_,_,ks,_⟩=>cK ks+1
def cK:List Nd->Nat
 | []=>0
 |n::l=>QO n+cK l
end
theorem Mr(n:Nd):QO n=cK n.kids+1:=by cases n;rfl
theorem cR:cK []=0:=rfl
theorem a8(n:Nd)(l:List Nd):cK (n::l)=cK n.kids+1+cK l:=by rw[cK,Mr]
theorem fB:∀(a b:List Nd),cK (a++b)=cK a+cK b
 | [],b=>by simp[cK]
 |n::a,b=>by rw[SS,a8,a8,fB a b];omega
theorem oE{n:Nd}:∀{l:List Nd},n∈l->cK n.kids+1<=cK l
 | [],h=>(SW h).elim
 |m::l,h=>by
  rw[a8];rcases List.mem_cons.1 h with e|e
  ·subst e;omega
  ·have:=oE e;omega
theorem gw:∀(l:List Nd),l.length<=cK l
 | []=>R7 _
 |n::l=>by rw[a8,SB];have:=gw l;omega
theorem dL{l ks:List Nd}(h:l.length<=1):cK (give l ks)<=cK l+cK ks:=by
 match l,h with
 | [],_=>simp[give,cK]
 | [n],_=>show cK [_]<=_;rw[a8,a8,cR];show cK (n.kids++ks)+1+0<=_;rw[fB];omega
theorem bI(l ks:List Nd):(give l ks).length=l.length:=by simp[give]
theorem uQ:∀(l:List Nd),cK (ow l)=cK l
 | []=>rfl
 |n::l=>by
  show cK (_::ow l)=_;rw[a8,a8,uQ l]
section
variable (N:Nat)
def lf:Option Nat->Nat
 |none=>0
 |some p=>N+1-p
theorem im:lf N none=0:=rfl
theorem fW(p:Nat):lf N (some p)=N+1-p:=rfl
theorem KN(x y:Option Nat):lf N (x.or y)<=lf N x+lf N y:=by cases x<;>simp[lf]
theorem Bw(x:Option Nat):lf N (x.map (·+1))<=lf N x:=by
 cases x with
 |none=>exact R7 _
 |some p=>simp only[So,lf];omega
end
section
variable {c:cg} {ts:List Tok}
theorem o7(p:Option Nat):lf ts.length (p.map (nx c ts))<=lf ts.length p:=by
 cases p with
 |none=>exact R7 _
 |some p=>have:=EN c ts p;simp only[So,lf];omega
theorem iP(p:Option Nat)(is:Nat->Bool):lf ts.length (pIf c ts p is)+lf ts.length (pIf c ts p fun i=>!is i)<=lf ts.length p:=by
 refine R8 ?_ (o7 (c:=c) p);unfold pIf;cases p.map (nx c ts)with
 |none=>exact R7 _
 |some i=>cases h:is i<;>simp[Option.filter,h,lf]
theorem yY{p:Option Nat}{is:Nat->Bool}{i:Nat}(h:pIf c ts p is=some i):is i=true:=by
 unfold pIf at h;exact(Option.filter_eq_some_iff.1 h).2
theorem kC{i:Nat}(h:X ts i≠[]):i<ts.length:=by
 rcases Sw i ts.length with h2|h2
 ·exact h2
 ·exact absurd (by unfold X cL;rw[SF h2]) h
theorem DJ{i:Nat}(h:K ts i≠0):i<ts.length:=by
 rcases Sw i ts.length with h2|h2
 ·exact h2
 ·exact absurd (by unfold K cL;rw[SF h2]) h
theorem il(p:Option Nat)(s:bM):lf ts.length (cX ts c p s).1<=lf ts.length p:=by
 refine R8 ?_ (o7 (c:=c) p);unfold cX;cases p.map (nx c ts)with
 |none=>exact R7 _
 |some i=>
  simp only;split
  ·simp only[lf];omega
  ·exact S6 _
theorem mp(p:Option Nat)(kind slot:Nat):cK (bC ts c p kind slot).l+lf ts.length (bC ts c p kind slot).p<=lf ts.length p/\(bC ts c p kind slot).l.length<=1:=by
 have h0:=o7 (c:=c) (ts:=ts) p;unfold bC;cases e:p.map (nx c ts)with
 |none=>exact⟨S6 _,S6 _⟩
 |some i=>
  rw[e]at h0;simp only;split
  ·exact⟨S6 _,S6 _⟩
  ·rename_i h;have:i<ts.length:=DJ fun h2=>h (.inl (by rw[h2];decide));refine⟨?_,R7 _⟩;simp only[a8,cR,lf]at *;omega
theorem sR(p:Option Nat)(slot:Nat):cK (gE ts c p slot).l+lf ts.length (gE ts c p slot).p<=lf ts.length p:=by
 have h0:=o7 (c:=c) (ts:=ts) p;unfold gE;cases e:p.map (nx c ts)with
 |none=>exact S6 _
 |some i=>
  rw[e]at h0;simp only;split
  ·exact S6 _
  ·rename_i h;have:i<ts.length:=kC fun h2=>h (by rw[h2];exact⟨by decide,by decide⟩);simp only[a8,cR,lf]at *;omega
theorem rF{kind:Nat}{i:Option Nat}{slot:Nat}(h:∀j,i=some j->j<ts.length):cK (je kind i slot)+lf ts.length (i.map (·+1))<=lf ts.length i/\(je kind i slot).length<=1:=by
 cases i with
 |none=>exact⟨R7 _,S6 _⟩
 |some j=>
  have:=h j rfl;refine⟨?_,R7 _⟩;show cK [_]+_<=_;simp only[a8,cR,So,lf];omega
def wt(N:Nat):jj->Nat
 | .line _ _ p _=>lf N p
 | .lineL _ _ _ _ l g out=>cK l+(lf N g+lf N out)
 | .lineO _ _ _ op l g=>cK l+(lf N op+lf N g)
 | .unary _ p _=>lf N p
 | .unaryH _ i _=>lf N i
 | .calls _ _ _ x names g=>cK names+(lf N x+lf N g)
 | .inside _ p _=>lf N p
 | .listed _ _ p=>lf N p
 | .listL _ _ l g fin=>cK l+(lf N g+lf N fin)
 | .item _ _ p=>lf N p
 | .behind _ _ p _ _=>lf N p
 | .vrb _ p=>lf N p
 | .function _ p=>lf N p
 | .block _ p _=>lf N p
 | .seqL _ _ p l out=>cK l+(lf N p+lf N out)
 | .stmt _ i=>lf N i
 | .sCalls _ _ x l g=>cK l+(lf N x+lf N g)
 | .branch _ i _=>lf N i
 | .elses _ x l out=>cK l+(lf N x+lf N out)
 | .ifs _ y l out=>cK l+(lf N y+lf N out)
def Lt(N:Nat)(x:Option Nat):Prop:=∀j,x=some j->j<N
def Od(N:Nat):jj->Prop
 | .lineO _ _ _ op _ _=>Lt N op
 | .calls _ _ _ x _ _=>Lt N x
 | .sCalls _ _ x _ _=>Lt N x
 | .branch _ i _=>Lt N i
 | .elses _ _ l _=>l.length<=1
 | .ifs _ y l _=>l.length<=1/\Lt N y
 |_=>True
def Mv(N:Nat):jj->PR->Prop
 | .listed _ _ p,q=>∀j,p=some j->j<N->cK q.l+lf N q.p+1<=lf N p
 |_,_=>True
def PC(N:Nat)(x:jj)(q:PR):Prop:=cK q.l+lf N q.p<=wt N x/\Mv N x q
theorem Ca{p:Option Nat}{s:bM}(hs:s≠[]):Lt ts.length (pIf c ts p (isX ts s)):=fun j h=>by
 have:=yY h;simp only[isX,SX]at this;exact kC (by rw[this];exact hs)
theorem EQ{p:Option Nat}{k:Nat}:Lt ts.length (pIf c ts p (nu ts k)):=fun j h=>by
 have:=yY h;simp only[nu,SG,SX]at this;exact DJ (by rw[this.1];decide)
theorem Lt.of{i:Nat}(h:i<ts.length):Lt ts.length (some i):=fun j e=>by cases e;exact h
theorem gh{α β:Type}{a:Option α}{f:α->Option β}{q:β}(e:(a >>= f)=some q):∃x,a=some x/\f x=some q:=Option.bind_eq_some_iff.1 e
theorem Dd{rec:o3}(R:∀x q,rec x=some q->Od ts.length x->PC ts.length x q):∀x q,aN c ts rec x=some q->Od ts.length x->PC ts.length x q:=by
 have R1:∀{x q},rec x=some q->Od ts.length x->cK q.l+lf ts.length q.p<=wt ts.length x:=fun h k=>(R _ _ h k).1;intro x q e hi;cases x with
 |line k o p slot=>
  refine⟨?_,trivial⟩;simp only[aN,pd]at e;split at e
  ·have:=R1 e trivial;exact this
  ·obtain⟨a,ea,e⟩:=gh e;obtain⟨b,eb,e⟩:=gh e;cases e
   have h1:=R1 ea trivial;have h2:=R1 eb trivial;simp only[wt,im]at *;omega
 |lineL k o slot first l g out=>
  refine⟨?_,trivial⟩;simp only[aN,nH]at e;cases g with
  |none=>cases e;simp only[wt,im];omega
  |some p=>
   simp only at e;split at e
   ·cases e;simp only[wt];omega
   ·obtain⟨a,ea,e⟩:=gh e;obtain⟨b,eb,e⟩:=gh e;cases e
    have h1:=R1 ea EQ;have h2:=R1 eb trivial;have h3:=iP (c:=c) (ts:=ts) (some p) (nu ts k);simp only[wt,im]at *;omega
 |lineO k o slot op l g=>
  refine⟨?_,trivial⟩;simp only[aN,sE]at e;cases op with
  |none=>cases e;simp only[wt,im];omega
  |some i=>
   obtain⟨a,ea,e⟩:=gh e;cases e
   have h1:=R1 ea trivial;have h2:=hi i rfl;simp only[wt,fW,a8,cR,fB,uQ]at *;omega
 |unary o p slot=>
  refine⟨?_,trivial⟩;have h1:=R1 (x:=.unaryH o (p.map (nx c ts)) slot) e trivial;have h2:=o7 (c:=c) (ts:=ts) p;simp only[wt]at *;omega
 |unaryH o i slot=>
  refine⟨?_,trivial⟩;simp only[aN,fU]at e;cases i with
  |none=>cases e;exact R7 _
  |some i=>
   simp only at e;split at e
   ·rename_i hx;have aa:i<ts.length:=kC (by rcases hx with h|h<;>rw[h]<;>decide);split at e
    ·cases e;exact S6 _
    ·obtain⟨a,ea,e⟩:=gh e;cases e
     have h1:=R1 ea trivial;simp only[wt,fW,a8,cR]at *;omega
   ·split at e
    ·have:=R1 e trivial;exact this
    ·split at e
     ·rename_i hx;have aa:i<ts.length:=DJ (by rw[hx];decide);cases e
      simp only[wt,fW,a8,cR]at *;omega
     ·split at e
      ·rename_i hx;have aa:i<ts.length:=kC (by rcases hx with h|h<;>rw[h]<;>decide);cases e
       simp only[wt,fW,a8,cR]at *;omega
      ·split at e
       ·rename_i hx;have aa:i<ts.length:=kC (by rw[hx];decide);cases e
        simp only[wt,fW,a8,cR]at *;omega
       ·obtain⟨b,eb,e⟩:=gh e;cases e
        have h1:=R1 eb (Ca Vm);have h2:=(mp (c:=c) (ts:=ts) (some i) 18 slot).1;have h3:=iP (c:=c) (ts:=ts) (bC ts c (some i) 18 slot).p (isX ts hZ);simp only[wt]at *;omega
 |calls o i slot x names g=>
  refine⟨?_,trivial⟩;simp only[aN,nC]at e;split at e
  ·rename_i i x;obtain⟨a,ea,e⟩:=gh e;cases e
   have h1:=(R _ _ ea trivial).2 x rfl (hi x rfl);simp only[wt,a8,cR]at *;omega
  ·cases e;simp only[wt];omega
 |inside o p slot=>
  refine⟨?_,trivial⟩;simp only[aN,jL]at e;have h0:=o7 (c:=c) (ts:=ts) p;cases hp:p.map (nx c ts)with
  |none=>rw[hp]at e;cases e;exact S6 _
  |some i=>
   rw[hp]at e h0;simp only at e;split at e
   ·cases e;exact S6 _
   ·split at e
    ·cases e;exact S6 _
    ·obtain⟨a,ea,e⟩:=gh e;cases e
     have h1:=R1 ea trivial;have h2:=il (c:=c) (ts:=ts) a.p iI;simp only[wt,fW]at *;omega
 |listed par o p=>
  simp only[aN,jI]at e;have h0:=o7 (c:=c) (ts:=ts) p;cases hp:p.map (nx c ts)with
  |none=>
   rw[hp]at e;cases e;refine⟨S6 _,fun j hj _=>?_⟩;rw[hj]at hp;cases hp
  |some i=>
   rw[hp]at e h0;have hz:∀j,p=some j->j<ts.length->1<=lf ts.length p:=fun j h1 h2=>by rw[h1,fW];omega
   simp only at e;split at e
   ·cases e;exact⟨S6 _,fun j h1 h2=>by simpa[triv,cK,lf]using hz j h1 h2⟩
   ·rename_i hx;split at e
    ·cases e;exact⟨S6 _,fun j h1 h2=>by simpa[triv,cK,lf]using hz j h1 h2⟩
    ·obtain⟨a,ea,e⟩:=gh e;cases e
     have aa:i<ts.length:=kC (by rw[Classical.not_not.1 hx];decide);have h1:=R1 ea trivial;have h2:=il (c:=c) (ts:=ts) a.p iI;have h3:=iP (c:=c) (ts:=ts) (some (i+1)) (isX ts iI);have key:cK a.l+lf ts.length (cX ts c a.p iI).1+1<=lf ts.length p:=by
      simp only[wt,fW,cR]at *;omega
     exact⟨by simp only[wt];omega,fun _ _ _=>key⟩
 |listL par o l g fin=>
  refine⟨?_,trivial⟩;simp only[aN,tL]at e;cases g with
  |none=>cases e;simp only[wt,im];omega
  |some p=>
   obtain⟨a,ea,e⟩:=gh e;obtain⟨b,eb,e⟩:=gh e;cases e
   have h1:=R1 ea trivial;have h2:=R1 eb trivial;have h3:=iP (c:=c) (ts:=ts) a.p (isX ts cd);have h4:=Bw ts.length (pIf c ts a.p (isX ts cd));simp only[wt,fB]at *;omega
 |item par o p=>
  refine⟨?_,trivial⟩;simp only[aN,sH]at e;split at e
  ·cases e
   have h1:=mp (c:=c) (ts:=ts) p 4 0;have h2:=il (c:=c) (ts:=ts) (bC ts c p 4 0).p bS;have h3:=sR (c:=c) (ts:=ts) (cX ts c (bC ts c p 4 0).p bS).1 0;have h4:=dL (ks:=(gE ts c (cX ts c (bC ts c p 4 0).p bS).1 0).l) h1.2;have h5:=h1.1;simp only[wt]at *;omega
  ·have:=R1 e trivial;exact this
 |behind typ o p sign slot=>
  refine⟨?_,trivial⟩;simp only[aN,lq]at e;obtain⟨a,ea,e⟩:=gh e;cases e
  have h1:cK a.l+lf ts.length a.p<=lf ts.length ((pIf c ts p (isX ts sign)).map (·+1)):=by
   unfold jc at ea;split at ea
   ·cases ea;exact sR _ _
   ·exact R1 ea trivial
  have h3:=iP (c:=c) (ts:=ts) p (isX ts sign);have h4:=Bw ts.length (pIf c ts p (isX ts sign));have h5:=KN ts.length (pIf c ts p fun i=>!isX ts sign i) a.p;simp only[wt]at *;omega
 |vrb o p=>
  refine⟨?_,trivial⟩;simp only[aN,iY]at e;obtain⟨d,ed,e⟩:=gh e;cases e
  have h1:=mp (c:=c) (ts:=ts) p 2 0;have h2:=il (c:=c) (ts:=ts) (bC ts c p 2 0).p bS;have h3:=sR (c:=c) (ts:=ts) (cX ts c (bC ts c p 2 0).p bS).1 0;have h4:=dL (ks:=(gE ts c (cX ts c (bC ts c p 2 0).p bS).1 0).l) h1.2;have h5:=h1.1;have h6:=R1 ed trivial;have h7:=dL (l:=give (bC ts c p 2 0).l (gE ts c (cX ts c (bC ts c p 2 0).p bS).1 0).l) (ks:=d.l) (by rw[bI];exact h1.2);have h8:=il (c:=c) (ts:=ts) d.p bl;simp only[wt]at *;omega
 |function o p=>
  refine⟨?_,trivial⟩;simp only[aN,iX]at e;obtain⟨b,eb,e⟩:=gh e;obtain⟨d,ed,e⟩:=gh e;obtain⟨f,ef,e⟩:=gh e;cases e
  have h1:=mp (c:=c) (ts:=ts) p 3 0;have h2:=R1 eb trivial;have h3:=R1 ed trivial;have h4:=R1 ef trivial;have h5:=dL (ks:=b.l) h1.2;have h6:=dL (l:=give (bC ts c p 3 0).l b.l) (ks:=d.l) (by rw[bI];exact h1.2);have h7:=dL (l:=give (give (bC ts c p 3 0).l b.l) d.l) (ks:=f.l) (by rw[bI,bI];exact h1.2);have h8:=h1.1;simp only[wt]at *;omega
 |block o p slot=>
  refine⟨?_,trivial⟩;simp only[aN,mg]at e;have h0:=o7 (c:=c) (ts:=ts) p;cases hp:p.map (nx c ts)with
  |none=>rw[hp]at e;cases e;exact S6 _
  |some i=>
   rw[hp]at e h0;simp only at e;split at e
   ·cases e;exact S6 _
   ·rename_i hx;have aa:i<ts.length:=kC (by rw[Classical.not_not.1 hx];decide);split at e
    ·cases e;exact S6 _
    ·obtain⟨a,ea,e⟩:=gh e;cases e
     have h1:=R1 ea trivial;have h2:=il (c:=c) (ts:=ts) a.p uo;simp only[wt,fW,im,a8,cR]at *;omega
 |seqL top o p l out=>
  refine⟨?_,trivial⟩;simp only[aN,tw]at e;have h0:=o7 (c:=c) (ts:=ts) p;cases hp:p.map (nx c ts)with
  |none=>rw[hp]at e;cases e;simp only[wt];omega
  |some i=>
   rw[hp]at e h0;simp only at e;split at e
   ·cases e;simp only[wt];omega
   ·obtain⟨a,ea,e⟩:=gh e;obtain⟨b,eb,e⟩:=gh e;cases e
    have h1:cK a.l+lf ts.length a.p<=lf ts.length (some i):=by
     unfold my at ea;split at ea
     ·unfold zm at ea;split at ea
      ·have:=R1 ea trivial;simp only[wt,fW]at *;omega
      ·split at ea
       ·have:=R1 ea trivial;simp only[wt,fW]at *;omega
       ·cases ea;exact S6 _
     ·exact R1 ea trivial
    have h2:=R1 eb trivial;simp only[wt,im,fB]at *;omega
 |stmt o i=>
  refine⟨?_,trivial⟩;simp only[aN,lG]at e;cases i with
  |none=>cases e;exact R7 _
  |some i=>
   simp only at e;split at e
   ·have:=R1 e trivial;simp only[wt,fW]at *;omega
   ·split at e
    ·rename_i hx;have:=R1 e (show Od ts.length (.branch o (some i) 0) from Lt.of (kC (by rw[hx];decide)));exact this
    ·split at e
     ·rename_i hx;have aa:i<ts.length:=kC (by rw[hx];decide);obtain⟨a,ea,e⟩:=gh e;obtain⟨b,eb,e⟩:=gh e;cases e
      have h0:=rF (kind:=9) (slot:=0) (Lt.of aa);have h1:=R1 ea trivial;have h2:=R1 eb trivial;have h3:=dL (ks:=a.l) h0.2;have h4:=dL (l:=give (je 9 (some i) 0) a.l) (ks:=b.l) (by rw[bI];exact h0.2);have h5:=h0.1;simp only[wt,So]at *;omega
     ·split at e
      ·have:=R1 e trivial;exact this
      ·split at e
       ·rename_i hx;have aa:i<ts.length:=kC (by rw[hx];decide);obtain⟨a,ea,e⟩:=gh e;cases e
        have h0:=rF (kind:=10) (slot:=0) (Lt.of aa);have h1:=R1 ea trivial;have h3:=dL (ks:=a.l) h0.2;have h5:=h0.1;have h6:=iP (c:=c) (ts:=ts) (some (i+1)) (isX ts bl);have h7:=KN ts.length a.p (pIf c ts (some (i+1)) (isX ts bl));have h8:=il (c:=c) (ts:=ts) (a.p.or (pIf c ts (some (i+1)) (isX ts bl))) bl;simp only[wt,So]at *;omega
       ·split at e
        ·rename_i hx;have aa:i<ts.length:=kC (by rcases hx with h|h<;>rw[h]<;>decide);obtain⟨a,ea,e⟩:=gh e;cases e
         have h0:=rF (kind:=if X ts i=fe then 12 else 11) (slot:=0) (Lt.of aa);have h1:=R1 ea trivial;have h3:=dL (ks:=a.l) h0.2;have h5:=h0.1;have h8:=il (c:=c) (ts:=ts) a.p bl;simp only[wt,So]at *;omega
        ·obtain⟨b,eb,e⟩:=gh e;obtain⟨d,ed,e⟩:=gh e;cases e
         have h0:=mp (c:=c) (ts:=ts) (some i) 7 0;have h1:=R1 eb trivial;have h2:=R1 ed (Ca Vm);have h3:=dL (ks:=b.l) h0.2;have h4:=iP (c:=c) (ts:=ts) (bC ts c (some i) 7 0).p (isX ts hZ);have h5:=il (c:=c) (ts:=ts) (pIf c ts (bC ts c (some i) 7 0).p fun i=>!isX ts hZ i) zJ;have h6:=il (c:=c) (ts:=ts) d.p bl;have h7:=h0.1;simp only[wt]at *;omega
 |sCalls o i x l g=>
  refine⟨?_,trivial⟩;simp only[aN,kS]at e;split at e
  ·rename_i i x;obtain⟨a,ea,e⟩:=gh e;cases e
   have h1:=(R _ _ ea trivial).2 x rfl (hi x rfl);simp only[wt,a8,cR]at *;omega
  ·cases e;simp only[wt];omega
 |branch o i slot=>
  refine⟨?_,trivial⟩;simp only[aN,mB]at e;obtain⟨a,ea,e⟩:=gh e;obtain⟨b,eb,e⟩:=gh e;obtain⟨d,ed,e⟩:=gh e;cases e
  have h0:=rF (kind:=8) (slot:=slot) hi;have h1:=R1 ea trivial;have h2:=R1 eb trivial;have h3:=R1 ed (show (give (give (je 8 i slot) a.l) b.l).length<=1 by rw[bI,bI];exact h0.2);have h4:=dL (ks:=a.l) h0.2;have h5:=dL (l:=give (je 8 i slot) a.l) (ks:=b.l) (by rw[bI];exact h0.2);have h6:=iP (c:=c) (ts:=ts) b.p (isX ts ip);have h7:=h0.1;simp only[wt]at *;omega
 |elses o x l out=>
  refine⟨?_,trivial⟩;simp only[aN,pD]at e;cases x with
  |none=>cases e;simp only[wt,im];omega
  |some j=>
   obtain⟨a,ea,e⟩:=gh e;obtain⟨b,eb,e⟩:=gh e;cases e
   have h1:=R1 ea trivial;have h2:=R1 eb ⟨by rw[bI];exact hi,Ca Vm⟩;have h3:=dL (ks:=a.l) hi;have h4:=iP (c:=c) (ts:=ts) (some (j+1)) (isX ts ny);simp only[wt,fW]at *;omega
 |ifs o y l out=>
  refine⟨?_,trivial⟩;simp only[aN,Dt]at e;cases y with
  |none=>cases e;simp only[wt,im];omega
  |some j=>
   simp only at e;split at e
   ·cases e;simp only[wt];omega
   ·obtain⟨a,ea,e⟩:=gh e;cases e
    have h1:=R1 ea hi.2;have h3:=dL (ks:=a.l) hi.1;simp only[wt]at *;omega
theorem xZ:∀n x q,hQ c ts n x=some q->Od ts.length x->PC ts.length x q
 |0,x,q,e,_=>by cases e
 |n+1,x,q,e,h=>Dd (fun x q e h=>xZ n x q e h) x q e h
end
def qY(f:cg->Nat):Nat->cg->Nat
 |0,c=>f c
 |n+1,c=>qY f n (wz c n false)+qY f n (wz c n true)
theorem tP{f g h:cg->Nat}(e:∀c,h c=f c+g c):∀(n:Nat) (c:cg),qY h n c=qY f n c+qY g n c
 |0,c=>e c
 |n+1,c=>by simp only[qY,tP e n];omega
theorem xt{f:cg->Nat}{M:Nat}(h:∀c,f c<=M):∀(n:Nat) (c:cg),qY f n c<=2^n*M
 |0,c=>by simpa[qY]using h c
 |n+1,c=>by simp only[qY];have:=xt h n (wz c n false);have:=xt h n (wz c n true);rw[Ty,Nat.mul_assoc,Nat.mul_comm (2^n),Nat.mul_assoc,Nat.mul_comm M];omega
theorem yg(S:cg->Bool):∀(n:Nat) (c:cg),qY (fun c=>(S c).toNat) n c=wx S n c
 |0,c=>rfl
 |n+1,c=>by simp only[qY,wx,yg S n]
mutual
def Rc:Nd->Prop
 |⟨_,_,_,_,ks,d⟩=>d≠ff/\MY ks
def MY:List Nd->Prop
 | []=>True
 |n::l=>Rc n/\MY l
end
theorem BC{c:cg}{d:T}{l:List Nd}(h:wL d l)(hc:d.at' c=false):pL c l=[]:=wJ fun n hn=>by
 cases e:n.cond.at' c with
 |false=>rfl
 |true=>have:=(AR.1 h n hn).1 c e;rw[hc]at this;cases this
theorem sI:∀(l:List Nd) (d:T),fX l->wL d l->MY l->cK l<=qY (fun c=>cK (pL c l)) 24 (fun _=>false)
 | [],_,_,_,_=>S6 _
 |⟨k,t,o,s,ks,e⟩::l,d,ho,hw,hn=>by
  have h1:=sI ks e ho.1.2 hw.1.2 hn.1.2;have h2:=sI l d ho.2 hw.2 hn.2;have h3:=T.card_pos ho.1.1 hn.1.1;have e1:∀c,cK (pL c (⟨k,t,o,s,ks,e⟩::l))=((e.at' c).toNat+cK (pL c ks))+cK (pL c l):=fun c=>by
   rw[bV];cases hc:e.at' c with
   |true=>
    rw[SI rfl,a8];show cK (pL c ks)+1+_=1+cK (pL c ks)+_;omega
   |false=>
    rw[Sb Vm,BC hw.1.2 hc];show _=0+0+_;omega
  rw[tP e1,tP (fun c=>rfl),yg,a8];unfold T.card at h3;show cK ks+1+cK l<=_;omega
theorem s5:∀(l:List Nd) (d:T),MY (ll d l)
 | [],d=>trivial
 |⟨k,t,o,s,ks,e⟩::l,d=>by
  rw[lQ];split
  ·exact s5 l d
  ·rename_i h;exact⟨⟨h,s5 ks (e.and d)⟩,s5 l d⟩
def LL:Nat:=2^24*16386
theorem Ff{ts:List Tok}(ac:bu ts)(hl:ts.length<=16384){w:T}(hw:w.ok 0)(aj:w≠ff){n:Nat}{r:bE}(e:run ts n (.seqL true 0 [(0,w)] [] [])=some r):cK (lI r)<=LL:=by
 have hr:=gG ac hw aj e (fun _=>false);obtain⟨_,_,RR0⟩:=hr;obtain⟨o1,o2⟩:=xu RR0.fok RR0.lok;by_cases hg:fE r.f=ff
 ·have hc:=(oP (c:=fun _=>false) RR0.fok).1;have e1:ll (fE r.f) r.l=[]:=by
   cases h:ll (fE r.f) r.l with
   |nil=>rfl
   |cons n l=>
    exfalso;obtain⟨a1,a2,a3,_⟩:=ky r.l (fE r.f) hc RR0.lok;rw[h]at a1 a2 a3;have hn:n.cond.ok 0:=(eC.1 a1.1).1;obtain⟨x,hx⟩:=T.some_of_ne hn (a3 n (.head _));have:=a2.1.1 x hx;rw[hg]at this;cases this
  unfold lI;rw[e1];simp only[a8,cR];unfold LL;omega
 have aa:MY (lI r):=⟨⟨hg,s5 _ _⟩,trivial⟩;refine R8 (sI (lI r) tt o1 ⟨⟨fun _ _=>rfl,o2 _ (.head _)⟩,trivial⟩ aa) (xt (fun c=>?_) 24 _);obtain⟨q,hq,R⟩:=gG ac hw aj e c;rw[Bb R.fok R.lok R.f];obtain⟨m,hm⟩:=hq;have h1:=(xZ m _ _ hm trivial).1;have h2:lf ts.length (if w.at' c then some 0 else none)<=ts.length+1:=by split<;>simp[lf]
 simp only[wt,im,cR]at h1;rw[R.l];split
 ·rw[a8,cR];show cK q.l+1+0<=_;omega
 ·exact S6 _
theorem AZ(l:List Nd)(k:nL):cK (cF l k)<=cK l:=by
 unfold cF
 induction l with
 |nil=>exact R7 _
 |cons n l ih=>
  rw[a8,TU];split
  ·rw[TB,fB];omega
  ·omega
open Dg
def eW(l:List Nd)(k:nL):Nd:=⟨k.kind,k.text,k.tok,k.slot,cF l k,gH l k⟩
def pW:List Nd->Nd->List Nd
 | [],n=>[n]
 |m::out,n=>if m.key=n.key then { m with kids:=m.kids++n.kids,cond:=m.cond.or n.cond }::out else m::pW out n
def qU(out:List Nd)(n:Nd):List Nd:=if n.cond=ff then out else pW out n
theorem oF:∀{out:List Nd} {n:Nd},(∀m∈out,m.key≠n.key)->pW out n=out++[n]
 | [],n,_=>rfl
 |m::out,n,h=>by
  rw[pW,Sb (h m (.head _)),oF fun x hx=>h x (.tail _ hx)];rfl
theorem rM:∀{out:List Nd} {n m:Nd} {i:Nat},out.Pairwise (fun a b=>a.key≠b.key)->out[i]?=some m->m.key=n.key->pW out n=out.set i { m with kids:=m.kids++n.kids,cond:=m.cond.or n.cond }
 | [],n,m,i,_,h,_=>by simp at h
 |x::out,n,m,0,hp,h,hk=>by
  simp only[TC,Sc]at h;subst h;rw[pW,SI hk];rfl
 |x::out,n,m,i+1,hp,h,hk=>by
  simp only[TD]at h;have h1:=(List.pairwise_cons.1 hp).1 m (Tg h);rw[pW,Sb (by rw[<-hk];exact h1),rM (List.pairwise_cons.1 hp).2 h hk];rfl
theorem lT(p:List Nd)(n:Nd)(k:nL):cF (p++[n]) k=cF p k++if eY k n then n.kids else []:=by
 unfold cF;rw[List.filter_append,TF];congr 1;cases h:eY k n<;>simp[TU,h]
theorem me(p:List Nd)(n:Nd)(k:nL):gH (p++[n]) k=if eY k n then (gH p k).or n.cond else gH p k:=by
 unfold gH;rw[List.filter_append,T9];cases h:eY k n<;>simp[TU,h]
theorem x8{p:List Nd}{k:nL}(h:∀n∈p,n.cond≠ff->n.key≠k):gH p k=ff/\cF p k=[]:=by
 have:p.filter (eY k)=[]:=List.filter_eq_nil_iff.2 fun n hn hm=>by
  simp only[eY,SG,SX]at hm;exact h n hn hm.2 hm.1
 unfold gH cF;rw[this];exact⟨rfl,rfl⟩
theorem Np{a:T}(h:a.ok 0):T.or ff a=a:=T.ext (T.or_ok (show (ff:T).ok 0 from trivial) h) h fun c=>by
 rw[T.or_at (show (ff:T).ok 0 from trivial) h,xz,TS]
structure CK(p out:List Nd):Prop where
 dist:out.Pairwise (fun a b=>a.key≠b.key)
 node:∀m∈out,m=eW p m.key
 has:∀n∈p,n.cond≠ff->∃m∈out,m.key=n.key
 from':∀m∈out,∃n∈p,n.cond≠ff/\n.key=m.key
theorem CK.nil:CK [] []:=⟨List.Pairwise.nil,fun _ h=>(SW h).elim,fun _ h=>(SW h).elim,fun _ h=>(SW h).elim⟩
theorem lC{p:List Nd}{n:Nd}{k:nL}(h:n.cond=ff\/n.key≠k):eW (p++[n]) k=eW p k:=by
 have:eY k n=false:=by
  rcases h with h|h<;>simp[eY,h]
 unfold eW;rw[lT,me,this];simp
theorem CK.step{p out:List Nd}{n:Nd}(h:CK p out)(hn:n.cond.ok 0):CK (p++[n]) (qU out n):=by
 unfold qU;split
 ·rename_i a0;refine⟨h.dist,fun m hm=>by rw[lC (.inl a0)];exact h.node m hm,fun x hx ak=>?_,fun m hm=>?_⟩
  ·rcases List.mem_append.1 hx with e|e
   ·exact h.has x e ak
   ·rw[List.mem_singleton.1 e]at ak;exact absurd a0 ak
  ·obtain⟨x,hx,k⟩:=h.from' m hm;exact⟨x,SM _ hx,k⟩
 ·rename_i ak;by_cases a3:∃m∈out,m.key=n.key
  ·obtain⟨m,hm,hk⟩:=a3;obtain⟨i,hi⟩:=List.mem_iff_getElem?.1 hm;rw[rM h.dist hi hk];have ao:=(List.getElem?_eq_some_iff.1 hi).1;have emine:eY n.key n=true:=by simp[eY,ak]
   have em:({ m with kids:=m.kids++n.kids,cond:=m.cond.or n.cond }:Nd)=eW (p++[n]) n.key:=by
    have e1:=h.node m hm;rw[hk]at e1;have e2:m.kids=cF p n.key:=by rw[e1];rfl
    have e3:m.cond=gH p n.key:=by rw[e1];rfl
    have e4:eW (p++[n]) n.key=⟨n.key.kind,n.key.text,n.key.tok,n.key.slot,cF p n.key++n.kids,(gH p n.key).or n.cond⟩:=by
     unfold eW;rw[lT,me,SI emine,SI emine]
    rw[e4,<-e2,<-e3,<-hk];rfl
   have aj:∀{x:Nd} {j:Nat},(out.set i { m with kids:=m.kids++n.kids,cond:=m.cond.or n.cond })[j]?=some x->j=i/\x={ m with kids:=m.kids++n.kids,cond:=m.cond.or n.cond }\/j≠i/\out[j]?=some x:=fun{x j} e=>by
    rw[Tj]at e;split at e
    ·rename_i ap
     first
      |exact .inl ⟨ap.symm,(Tk e).symm⟩
      |(rw[SI ao]at e;exact .inl ⟨ap.symm,(Tk e).symm⟩)
    ·rename_i ap;exact .inr ⟨fun e2=>ap e2.symm,e⟩
   have ac:∀{x y:Nd} {j l:Nat},out[j]?=some x->out[l]?=some y->j≠l->x.key≠y.key:=fun{x y j l} h1 h2 h3=>by
    obtain⟨a1,rfl⟩:=List.getElem?_eq_some_iff.1 h1;obtain⟨a2,rfl⟩:=List.getElem?_eq_some_iff.1 h2;rcases Nat.lt_or_gt_of_ne h3 with ao|a6
    ·exact List.pairwise_iff_getElem.1 h.dist j l a1 a2 ao
    ·exact fun e=>List.pairwise_iff_getElem.1 h.dist l j a2 a1 a6 e.symm
   refine⟨?_,fun x hx=>?_,fun x hx aa=>?_,fun x hx=>?_⟩
   ·refine List.pairwise_iff_getElem.2 fun j l hj hl a7=>?_;have g1:=aj (SC hj);have g2:=aj (SC hl);rcases g1 with ⟨a,b⟩|⟨a,b⟩<;>rcases g2 with ⟨c,d⟩|⟨c,d⟩
    ·omega
    ·rw[b];exact(ac (x:=m) hi d Vi:m.key≠_)
    ·rw[d];exact(ac (y:=m) b hi Vi:_≠m.key)
    ·exact ac b d Vi
   ·obtain⟨j,hj⟩:=List.mem_iff_getElem?.1 hx;rcases aj hj with ⟨a,b⟩|⟨a,b⟩
    ·have:x.key=n.key:=by rw[b];exact hk
     rw[this,b,em]
    ·rw[lC (.inr fun e=>ac hi b Vi (by rw[hk,e]))];exact h.node x (Tg b)
   ·have put:∀y∈out,∃z∈out.set i { m with kids:=m.kids++n.kids,cond:=m.cond.or n.cond },z.key=y.key:=fun y hy=>by
     obtain⟨j,hj⟩:=List.mem_iff_getElem?.1 hy;by_cases e:j=i
     ·subst e;rw[hi]at hj;cases hj
      exact⟨{ m with kids:=m.kids++n.kids,cond:=m.cond.or n.cond },List.mem_iff_getElem?.2 ⟨j,List.getElem?_set_self ao⟩,rfl⟩
     ·exact⟨y,List.mem_iff_getElem?.2 ⟨j,by rw[List.getElem?_set_ne (fun e2=>e e2.symm)];exact hj⟩,rfl⟩
    rcases List.mem_append.1 hx with e|e
    ·obtain⟨y,hy,a4⟩:=h.has x e aa;obtain⟨z,hz,aS⟩:=put y hy;exact⟨z,hz,aS.trans a4⟩
    ·rw[List.mem_singleton.1 e];obtain⟨z,hz,aS⟩:=put m hm;exact⟨z,hz,aS.trans hk⟩
   ·obtain⟨j,hj⟩:=List.mem_iff_getElem?.1 hx;rcases aj hj with ⟨a,b⟩|⟨a,b⟩
    ·exact⟨n,SN _ (.head _),ak,by rw[b];exact hk.symm⟩
    ·obtain⟨y,hy,k⟩:=h.from' x (Tg b);exact⟨y,SM _ hy,k⟩
  ·have an:∀m∈out,m.key≠n.key:=fun m hm e=>a3 ⟨m,hm,e⟩;rw[oF an];have emine:eY n.key n=true:=by simp[eY,ak]
   have am:∀x∈p,x.cond≠ff->x.key≠n.key:=fun x hx aa e=>by
    obtain⟨m,hm,a5⟩:=h.has x hx aa;exact an m hm (a5.trans e)
   obtain⟨c1,c2⟩:=x8 am;refine⟨List.pairwise_append.2 ⟨h.dist,Th _ _,fun a ha b hb=>by rw[List.mem_singleton.1 hb];exact an a ha⟩,fun m hm=>?_,fun x hx aa=>?_,fun m hm=>?_⟩
   ·rcases List.mem_append.1 hm with e|e
    ·rw[lC (.inr fun e2=>an m e e2.symm)];exact h.node m e
    ·rw[List.mem_singleton.1 e];unfold eW;rw[lT,me,SI emine,SI emine,c1,c2,Np hn,SU];cases n;rfl
   ·rcases List.mem_append.1 hx with e|e
    ·obtain⟨m,hm,k⟩:=h.has x e aa;exact⟨m,SM _ hm,k⟩
    ·exact⟨n,SN _ (.head _),by rw[List.mem_singleton.1 e]⟩
   ·rcases List.mem_append.1 hm with e|e
    ·obtain⟨x,hx,k⟩:=h.from' m e;exact⟨x,SM _ hx,k⟩
    ·exact⟨n,SN _ (.head _),ak,by rw[List.mem_singleton.1 e]⟩
theorem CK.of{l:List Nd}(h:∀n∈l,n.cond.ok 0):∀i,i<=l.length->CK (l.take i) ((l.take i).foldl qU [])
 |0,_=>CK.nil
 |i+1,hi=>by
  have aa:i<l.length:=by omega
  rw[S7 aa,T9];exact(CK.of h i Vi).step (h _ (List.getElem_mem aa))
theorem CK.sorted{l out L:List Nd}(h:CK l out)(hp:L.Perm out)(hs:L.Pairwise (fun a b=>E4 b.key a.key=false)):L=(ks l).map (eW l):=by
 have hd:L.Pairwise (fun a b=>a.key≠b.key):=(hp.pairwise_iff (fun{a b} h e=>h e.symm)).2 h.dist;have e1:L.map Nd.key=ks l:=by
  refine kF jN ?_ (eE jN _) fun k=>?_
  ·rw[List.pairwise_map];refine(hs.and hd).imp fun{a b} h=>?_;cases aj:E4 a.key b.key with
   |true=>rfl
   |false=>exact absurd (jN.tri _ _ aj h.1) h.2
  ·rw[s6];constructor
   ·intro hk;obtain⟨m,hm,rfl⟩:=List.mem_map.1 hk;obtain⟨n,hn,aa,ac⟩:=h.from' m (hp.mem_iff.1 hm);exact⟨n,hn,ac,aa⟩
   ·rintro⟨n,hn,rfl,aa⟩;obtain⟨m,hm,hk⟩:=h.has n hn aa;exact List.mem_map.2 ⟨m,hp.mem_iff.2 hm,hk⟩
 rw[<-e1,SK];have:L.map id=L.map (eW l∘Nd.key):=SL fun m hm=>h.node m (hp.mem_iff.1 hm)
 rwa [List.map_id]at this
theorem s8(d:Nat)(l:List Nd):kH (d+1) l=((ks l).map (eW l)).map fun m=>{ m with kids:=kH d m.kids }:=by
 rw[kH,SK];rfl
theorem EC:∀(K:List nL) (l:List Nd),K.Pairwise (fun a b=>a≠b)->(∀k∈K,∃n∈l,n.key=k/\n.cond≠ff)->cK (K.map (eW l))<=cK l
 | [],l,_,_=>S6 _
 |k::K,l,h,ac=>by
  have h2:=List.pairwise_cons.1 h;obtain⟨n0,aj,ak,am⟩:=ac k (.head _);have e1:∀(l:List Nd),cK l=cK (l.filter fun n=>decide (n.key=k))+cK (l.filter fun n=>!decide (n.key=k)):=fun l=>by
   induction l with
   |nil=>rfl
   |cons n l ih=>cases hn:decide (n.key=k)<;>simp[TU,hn,a8]<;>omega
  have e2:∀(l:List Nd),cK (cF l k)+((l.filter (eY k)).length)<=cK (l.filter fun n=>decide (n.key=k)):=fun l=>by
   induction l with
   |nil=>exact R7 _
   |cons n l ih=>
    unfold cF at ih |-;by_cases hn:n.key=k
    ·by_cases hc:n.cond=ff
     ·have m1:eY k n=false:=by simp[eY,hc]
      simp only[TU,m1,hn,decide_true,R9,Tp,Si,a8];omega
     ·have m1:eY k n=true:=by simp[eY,hn,hc]
      simp only[TU,m1,hn,decide_true,R9,TB,fB,SB,a8];omega
    ·have m1:eY k n=false:=by simp[eY,hn]
     simp only[TU,m1,hn,decide_false,Tp,Si];exact ih
  have e3:1<=(l.filter (eY k)).length:=by
   have:n0∈l.filter (eY k):=List.mem_filter.2 ⟨aj,by simp[eY,ak,am]⟩;exact List.length_pos_of_mem this
  have e4:∀k'∈K,cF (l.filter fun n=>!decide (n.key=k)) k'=cF l k':=fun k' aa=>by
   unfold cF;rw[List.filter_filter];congr 1;refine List.filter_congr fun n _=>?_;have:=h2.1 k' aa;by_cases e:n.key=k'
   ·have h3:n.key≠k:=fun e2=>this (e2.symm.trans e);simp[eY,e,show k'≠k from fun e2=>this e2.symm]
   ·simp[eY,e]
  have h5:=EC K (l.filter fun n=>!decide (n.key=k)) h2.2 fun k' aa=>by
   obtain⟨n,hn,hk,hc⟩:=ac k' (.tail _ aa);refine⟨n,List.mem_filter.2 ⟨hn,?_⟩,hk,hc⟩;have:=h2.1 k' aa;rw[hk];simp only[SR,TK];exact fun e=>this e.symm
  have e5:cK (K.map (eW l))=cK (K.map (eW (l.filter fun n=>!decide (n.key=k)))):=by
   clear h5 h h2 ac
   induction K with
   |nil=>rfl
   |cons x K ih=>
    rw[Tf,Tf,a8,a8,ih fun k' aa=>e4 k' (.tail _ aa)];show cK (cF l x)+1+_=cK (cF _ x)+1+_;rw[e4 x (.head _)]
  have e6:=e1 l;have e7:=e2 l;rw[Tf,a8,e5];show cK (cF l k)+1+_<=_;omega
theorem By{f:List Nd->List Nd}:∀{L:List Nd},(∀n∈L,cK (f n.kids)<=cK n.kids)->cK (L.map fun m=>{ m with kids:=f m.kids })<=cK L
 | [],_=>R7 _
 |n::L,h=>by
  rw[Tf,a8,a8];have h1:=h n (.head _);have h2:=By (f:=f) (L:=L) fun m hm=>h m (.tail _ hm);show cK (f n.kids)+1+_<=_;omega
theorem Cp(l:List Nd):(ks l).Pairwise (fun a b=>a≠b):=(eE jN _).imp fun{a b} h e=>by rw[e,jN.irr]at h;cases h
theorem uP(l:List Nd):cK ((ks l).map (eW l))<=cK l:=EC _ l (Cp l) fun k hk=>by
 obtain⟨n,h1,h2,h3⟩:=s6.1 hk;exact⟨n,h1,h2,h3⟩
theorem Cw:∀(d:Nat) (l:List Nd),cK (kH d l)<=cK l
 |0,l=>S6 _
 |d+1,l=>by
  rw[s8];exact R8 (By fun n _=>Cw d n.kids) (uP l)
theorem vY(c:cg):∀(l:List Nd),cK (pL c l)<=cK l
 | []=>R7 _
 |⟨k,t,o,s,ks,e⟩::l=>by
  have h1:=vY c ks;have h2:=vY c l;rw[bV];split
  ·rw[a8,a8];show cK (pL c ks)+1+_<=cK ks+1+_;omega
  ·rw[a8];omega
end Syn
namespace Go.Proofs.YtfaclfkpnmcmlaaGreatDoor
open Go Go.Sx Dg Syn
theorem ES:aP Tryz.prog 79:=⟨_,Tryz.func79,rfl,rfl⟩
theorem JQ{n:Nat}(h:n<=maxLen):IntKind.i64.wrap (n:Int)=(n:Int):=by
 unfold maxLen at h;simp only[IntKind.wrap,show IntKind.bits .i64=64 from rfl,show IntKind.signed .i64=true from rfl];simp;omega
theorem rJ{i n c:Nat}{a:Option Addr}(hC:oU (.slice a n c))(hi:i<n):IntKind.i64.wrap ((i:Int)+1)=((i+1:Nat):Int):=by
 have h:n<=c/\(0<n->c<=maxLen):=hC;have h2:=h.2 Vi;have:=JQ (n:=i+1) Vi;rw[<-this];congr 1
theorem pq(w:T):∀a b:List Nd,ll w (a++b)=ll w a++ll w b
 | [],b=>rfl
 |n::a,b=>by
  rw[SS,lQ,lQ,pq w a b];split<;>rfl
theorem xf(w:T)(n:Nd):ll w [n]=if n.cond.and w=ff then []else [{ n with kids:=ll (n.cond.and w) n.kids,cond:=n.cond.and w }]:=by
 rw[lQ];rfl
theorem cv{α:Type}{l:List α}{i:Nat}{n:α}(h:l[i]?=some n):l.take (i+1)=l.take i++[n]:=by
 rw[List.take_add_one,h];rfl
theorem yq(w:T)(i:Nat)(l:List Nd):cK (ll w (l.take i))<=cK (ll w l):=by
 conv=>rhs;rw[<-TL i l]
 rw[pq,fB];omega
def Nr(vl:Value)(n:Nat)(wa:Option Addr)(wk:Nat)(w:T)(x:Nat×Value):St:=⟨dn 35 [(3,.p 3 0),(5,.v x.2),(8,.v vl),(9,.v (iv n)),(10,.v (iv x.1))],[⟨3,50,[sD wa wk w,rD w]⟩]⟩
def Rs(l:List Nd)(w:T)(I0:PH)(x:Nat×Value)(H:PH):Prop:=∃I A,H=U [I,A]/\Dj [I,A]/\I0.le I/\x.1<=l.length/\br I A x.2 (ll w (l.take x.1))
theorem C0:∀(m:Nat) {I:PH} {v vw:Value} {l:List Nd} {w:T},cK l<m->db I v l->oU v->cu I vw w->cK (ll w l)<=aF->
  aO Tryz.prog 79 #[v,vw] I [] fun r I2 qs=>∃A,qs=[A]/\br I2 A r (ll w l):=by
 intro m
 induction m with
 |zero=>intro I v vw l w hm;omega
 |succ m ih=>
 intro I v vw l w hm hS hC hW hz hd;obtain⟨va,vc,rfl,_⟩:=id hS;obtain⟨wa,wk,rfl⟩:=hW.shape2;unfold aF at hz;refine ir 35 Tryz.func79 fun w0=>?_
 try simp only[iv,sD,rD]
 refine Un ?_;refine aT hd fun b5=>?_;refine aB (fun x=>l.length-x.1) (Nr (.slice va l.length vc) l.length wa wk w) (Rs l w I) (0,.slice none 0 0) VM (by simp only[go_sem,Tq,Nr,iv,sD,rD]) ?_ ?_
 ·exact⟨I,PH.no,rfl,b5,Uj _,S6 _,Ow.nil _ _ _ _⟩
 rintro⟨i,vo⟩ H ⟨I1,A1,rfl,a9,ac,hi,hA⟩ aj;simp only at hi hA;simp only[Nr];obtain⟨oa,oc,rfl⟩:=hA.shape;rcases Sw i l.length with aS|cm
 ·have bb:decide ((i:Int)<(l.length:Int))=true:=by simp;omega
  have bx:=rJ hC aS;obtain⟨n,hn⟩:∃n,l[i]?=some n:=⟨_,SC aS⟩;obtain⟨b,off,cs,rfl,b6,ao⟩:=Sl.load aW.len (db.le hS ac) hn;obtain⟨vk,na,nk,rfl,a3,ak,ba⟩:=b6.shape;obtain⟨ka,kc,rfl,_⟩:=id ak;have cj:=oE (Tg hn);have a2:=yq w (i+1) l;rw[cv hn,pq,fB]at a2;have cl:=gw (ll w (l.take i));apply RG;simp only[go_sem,bb,iv,sD,rD];refine⟨Vi,?_⟩;refine Qz (l:=[.int .u8 n.kind,.string ⟨⟨n.text⟩⟩,.int .i64 n.tok,.int .i64 n.slot,.slice ka n.kids.length kc,sD na nk n.cond,rD n.cond]) (v:=.agg #[.int .u8 n.kind,.string ⟨⟨n.text⟩⟩,.int .i64 n.tok,.int .i64 n.slot,.slice ka n.kids.length kc,sD na nk n.cond,rD n.cond]) rfl (cellsU a9 (.head _) ao) (.inl ⟨bT,rfl⟩) ?_;refine Uv ?_;refine f6 a9 [0] [] [A1] rfl iy rfl (lE a3 (hW.le ac)) fun v I3 qs a7 aa hq=>?_;obtain⟨rfl,ap⟩:=hq;obtain⟨za,zk,rfl⟩:=ap.shape2;simp only[Z3]at a7 |-;refine Uv ?_;refine Pf rfl gK (fq ap) fun v H2 hv=>?_;obtain⟨rfl,rfl⟩:=hv;cases a0:decide (n.cond.and w=.lf false)
  ·have bc:n.cond.and w≠ff:=by simpa using a0
   rw[xf,Sb bc,a8,cR]at a2;simp only at a2;apply RG;simp only[go_sem,iv,sD,rD,a0,T7];refine f6 a7 [0] [] [A1] rfl ES rfl (ih (w:=n.cond.and w) Vi (db.le ak aa) ba ap (by unfold aF;omega)) fun v I4 qs bd a5 hq=>?_;obtain⟨K,rfl,hK⟩:=hq;simp only[Z3]at bd |-;obtain⟨qa,qc,rfl⟩:=hK.shape;have cc:=hK.capN aW.len;refine Um bd [0,1] fun a6=>?_;refine ag a6 fun I5 a6 an cf=>?_;have cb:db I5 (.slice qa (ll (n.cond.and w) n.kids).length qc) (ll (n.cond.and w) n.kids):=br.sl hK an cf;refine Uv ?_;refine av a6 (by exact cT) rfl rfl rfl rfl rfl Vm fun nb I6 b4 am b1=>?_;have a1:=Ui a5 (Ui an am);have ca:db I6 (.slice (some ⟨nb,0,none⟩) 1 1) [{ n with kids:=ll (n.cond.and w) n.kids,cond:=n.cond.and w }]:=fT (az b1 (by simp[aE,Value.cells]) (by simp[aE,Value.cells,iv,sD,rD])) (aW.mk (n:={ n with kids:=ll (n.cond.and w) n.kids,cond:=n.cond.and w }) (ap.le a1) (db.le cb am) cc);refine Uv ?_;refine aY b4 (by exact cT) (br.le hA (Ui aa a1)) (ca) (fun{I J c a} h k=>aW.le h k) (fun{I} c a h=>aW.len c a h) (fun{I} c a h=>aW.ones h) rfl rfl rfl rfl (by first|omega|(simp only[SB,S9];omega)) (by unfold maxLen;first|omega|(simp only[SB,S9];omega)) fun ua uc I7 A7 b3 a4 ci=>?_;apply RG;simp only[go_sem,iv,sD,rD,bx];have b0:=Ui ac (Ui aa (Ui a1 a4));exact aj (i+1,.slice ua (ll w (l.take i)++[{ n with kids:=ll (n.cond.and w) n.kids,cond:=n.cond.and w }]).length uc) _ _ V9 VM (by simp only[go_sem,Tq,Nr,iv,sD,rD]) ⟨I7,A7,rfl,b3,b0,aS,by simp only;rw[cv hn,pq,xf,Sb bc];exact ci⟩
  ·have b2:n.cond.and w=ff:=by simpa using a0
   apply RG;simp only[go_sem,iv,sD,rD,a0,Ud,bx];exact aj (i+1,.slice oa (ll w (l.take i)).length oc) _ _ V9 VM (by simp only[go_sem,Tq,Nr,iv,sD,rD]) ⟨I3,A1,rfl,a7,Ui ac aa,aS,by simp only;rw[cv hn,pq,xf,SI b2,Tq];exact br.le hA aa⟩
 ·have:i=l.length:=by omega
  subst this;have bb:=Z6 l.length;apply RG;simp only[go_sem,bb,iv,sD,rD];exact ai rfl a9 (r:=[_]) rfl ac ⟨A1,rfl,by rw[Td]at hA |-;exact hA⟩
instance:Inhabited Nd:=⟨⟨0,[],0,0,[],ff⟩⟩
instance:Inhabited bX:=⟨⟨0,0,ff⟩⟩
theorem Fi{α:Type}[Inhabited α](d:Array α)(i j:Nat):(Sort.swp d i j).toList=(d.toList.set i d[j]!).set j d[i]!:=by simp[Sort.swp]
theorem cH{α:Type}[Inhabited α](d:Array α)(i j:Nat):(Sort.swp d i j).size=d.size:=by simp[Sort.swp]
theorem x5{α:Type}[Inhabited α](d:Array α){i:Nat}(h:i<d.size):d.toList[i]?=some d[i]!:=by
 simp[h]
theorem sr(c cs:List Value)(h:c.length=cs.length):be c 0 cs=cs:=by
 rw[dR _ _ _ Vi];simp[h]
theorem Ow.two{α:Type}[Inhabited α]{R:PH->List Value->α->Prop}{e:TypeId}{size:Nat}{I A:PH}{v:Value}{d:Array α}(h:Ow R e size I A v d.toList)(hR:∀{I} c a,R I c a->c.length=size)(aj:∀{I J c a},R I c a->I.le J->R J c a){i j:Nat}(hi:i<d.size)(hj:j<d.size):
  ∃g cap cur ci cj,v=.slice (some ⟨g,0,none⟩) d.size cap/\A=sg g (.cells cur e (0,0))/\d.size*size<=cur.size/\R I ci d[i]!/\R I cj d[j]!/\ci.length=size/\cj.length=size/\aQ A g (i*size) ci/\aQ A g (j*size) cj/\
   ∀J,I.le J->Ow R e size J (sg g (.cells (be (be cur.toList (i*size) cj) (j*size) ci).toArray e (0,0))) v (Sort.swp d i j).toList:=by
 obtain⟨g,cap,cur,xs,ev,rfl,c1,c2,c3,c4,c5,ac⟩:=h.open' (by simp;omega) fun c a k=>hR c a k;have hL:d.toList.length=d.size:=by simp
 rw[hL]at ev c1 c4 c5;have am:d.size*size<=cap*size:=Tb _ c1;have gi:=ac.get (fun c a k=>hR c a k) (x5 d hi);have gj:=ac.get (fun c a k=>hR c a k) (x5 d hj);have li:=hR _ _ gi;have lj:=hR _ _ gj;have ki:=fp (k:=0) (m:=size) (e:=e) (g:=g) (cur:=cur) (fun c a k=>hR c a k) ac (i:=i) (by rw[hL];exact hi) (by rw[hL];omega) (by rw[hL];exact c4) rfl Vi;have kj:=fp (k:=0) (m:=size) (e:=e) (g:=g) (cur:=cur) (fun c a k=>hR c a k) ac (i:=j) (by rw[hL];exact hj) (by rw[hL];omega) (by rw[hL];exact c4) rfl Vi;rw[Tm,To,Nat.min_self,Sd]at ki kj;refine⟨g,cap,cur,_,_,ev,rfl,Vi,gi,gj,li,lj,ki,kj,fun J hJ=>?_⟩;have m1:(i+1)*size<=d.size*size:=Tb _ hi;have m2:(j+1)*size<=d.size*size:=Tb _ hj;rw[Ta,TE]at m1 m2;have p1:=lz (fun c a k=>hR c a k) (ac.mono fun _ _ k=>aj k hJ) (i:=i) (by rw[hL];exact hi) rfl (k:=0) (cs:=(xs.drop (j*size)).take size) (a:=d[j]!) Vi (by rw[sr _ _ Vi];exact aj gj hJ);rw[Sd]at p1;have aa:(be xs (i*size) ((xs.drop (j*size)).take size)).length=d.size*size:=by rw[aJ];exact c5
 have p2:=lz (fun c a k=>hR c a k) p1 (i:=j) (by simp;exact hj) rfl (k:=0) (cs:=(xs.drop (i*size)).take size) (a:=d[i]!) Vi (by
  rw[sr _ _ (by rw[li];simp[aa];omega)];exact aj gi hJ)
 rw[Sd]at p2;rw[Fi];refine⟨_,?_,p2⟩;rw[ev];have ak:((d.toList.set i d[j]!).set j d[i]!).length=d.size:=by simp
 rw[ak];refine jF.of_sg (by rw[aJ];exact aa) c1 c2 (by simp[aJ];exact c3) ?_;show (be (be cur.toList (i*size) _) (j*size) _).take (d.size*size)=_;rw[kT _ _ _ _ Vi,kT _ _ _ _ Vi,c4]
theorem Ow.one'{α:Type}[Inhabited α]{R:PH->List Value->α->Prop}{e:TypeId}{size:Nat}{I A:PH}{v:Value}{d:Array α}(h:Ow R e size I A v d.toList):∃a c,v=.slice a d.size c:=by
 obtain⟨a,c,rfl⟩:=h.shape;exact⟨a,c,by simp⟩
theorem aM{cs:List Value}(h:cs.all Sx.one=true):iB (.agg cs.toArray)=some cs:=by simp only[iB,h,reduceIte]
theorem dg.ones{I:PH}{c:List Value}{n:bX}(h:dg I c n):c.all Sx.one=true:=by
 obtain⟨a,k,e,_⟩:=h;rw[e];rfl
theorem Ow.addr{α:Type}[Inhabited α]{R:PH->List Value->α->Prop}{e:TypeId}{size:Nat}{I A:PH}{v:Value}{d:Array α}(h:Ow R e size I A v d.toList)(hn:0<d.size):∃g c,v=.slice (some ⟨g,0,none⟩) d.size c:=by
 obtain⟨xs,h1,_⟩:=h;obtain⟨g,cap,cur,e1,_⟩:=h1.sg (by simpa using hn);exact⟨g,cap,by simpa using e1⟩
theorem pu{g:Nat}{cur cur':Array Value}{e:TypeId}(h:sg g (.cells cur e (0,0))=sg g (.cells cur' e (0,0))):cur=cur':=by
 have:=congrFun h g;simp only[sg,reduceIte,Sc,Obj.cells.injEq,TY]at this;exact this
theorem jM{j:Nat}(h:j+1<2^62):IntKind.i64.wrap (((j+1:Nat):Int)-1)=(j:Int):=by
 have:=bQ (a:=j+1) (b:=1) Vi Vi;rw[show ((1:Nat):Int)=1 from rfl]at this;rw[this];omega
theorem Jl:aP Tryz.prog 271:=⟨_,Tryz.func271,rfl,rfl⟩
def x6(v va vb vc:Value)(i:Nat):St:=⟨dn 53 [(0,.v v),(1,.v va),(2,.v vb),(3,.v vc),(8,.v (iv i))],[]⟩
def CH(v va vb vc:Value)(i:Nat)(j:Nat):St:=⟨dn 53 [(0,.v v),(1,.v va),(2,.v vb),(3,.v vc),(8,.v (iv i)),(9,.v (iv j))],[]⟩
theorem LG{I A:PH}{v vc:Value}{d:Array Nd}{a b:Nat}(hA:br I A v d.toList)(hc:jT aW cz vc)(hb:b<=d.size)(hn:d.size<=aF)(ha:a<=d.size):
  aO Tryz.prog 271 #[v,iv a,iv b,vc] I [A] fun _ I2 qs=>∃A2,qs=[A2]/\br I2 A2 v (Sort.insertionSort cz d a b).toList:=by
 intro hd;unfold aF at hn;obtain⟨f,first,cap,rfl,gf,cf⟩:=id hc;obtain⟨va,vk,rfl⟩:=Ow.one' hA;have w1:=wrap64 (n:=a+1) Vi;have w1':IntKind.i64.wrap ((a:Int)+1)=((a+1:Nat):Int):=by rw[<-w1];congr 1
 refine ir 53 Tryz.func271 fun w0=>?_
 try simp only[iv]
 apply RG;simp only[go_sem,w1'];refine aB (fun i=>b-i) (x6 (.slice va d.size vk) (iv a) (iv b) (.func (.func f) first cap)) (fun i H=>∃I2 A2 d2,H=U [I2,A2]/\Dj [I2,A2]/\I.le I2/\a+1<=i/\d2.size=d.size/\br I2 A2 (.slice va d.size vk) d2.toList/\Sort.insOuter cz a b i d2=Sort.insertionSort cz d a b) (a+1) Uo (by simp only[go_sem,Tq,x6]) ?_ ?_
 ·exact⟨I,A,d,rfl,hd,Uj _,R7 _,rfl,hA,rfl⟩
 rintro i H ⟨I2,A2,d2,rfl,a6,ao,b4,bb,a9,a1⟩ aj;simp only[x6];rcases Sw i b with bc|b3
 ·have a5:decide ((i:Int)<(b:Int))=true:=by simp;omega
  have e1:=wrap64 (n:=i+1) Vi;have ba:IntKind.i64.wrap ((i:Int)+1)=((i+1:Nat):Int):=by rw[<-e1];congr 1
  rw[Sort.insOuter,SI bc]at a1;apply RG;simp only[go_sem,a5,iv];refine aB (fun j=>j) (CH (.slice va d.size vk) (iv a) (iv b) (.func (.func f) first cap) i) (fun j H=>∃I3 A3 d3,H=U [I3,A3]/\Dj [I3,A3]/\I2.le I3/\j<=i/\d3.size=d.size/\br I3 A3 (.slice va d.size vk) d3.toList/\Sort.insInner cz a j d3=Sort.insInner cz a i d2) i Uo (by simp only[go_sem,Tq,CH]) ?_ ?_
  ·exact⟨I2,A2,d2,rfl,a6,Uj _,R7 _,bb,a9,rfl⟩
  rintro j H ⟨I3,A3,d3,rfl,a0,an,b2,aS,a3,am⟩ ak;simp only[CH];have fin:∀{I4 A4:PH} {d4:Array Nd},I3.le I4->br I4 A4 (.slice va d.size vk) d4.toList->d4.size=d.size->d4=Sort.insInner cz a i d2->∃I5 A5 d5,U [I4,A4]=U [I5,A5]/\(Dj [I4,A4]->Dj [I5,A5])/\I.le I5/\a+1<=i+1/\d5.size=d.size/\br I5 A5 (.slice va d.size vk) d5.toList/\Sort.insOuter cz a b (i+1) d5=Sort.insertionSort cz d a b:=fun h1 h2 h3 h4=>⟨_,_,_,rfl,id,Ui ao (Ui an h1),Vi,h3,h2,by rw[h4];exact a1⟩;rcases Sw a j with a7|a7
  ·obtain⟨j,rfl⟩:∃j',j=j'+1:=⟨j-1,Vi⟩;have a4:decide (((j+1:Nat):Int)>(a:Int))=true:=Uh Vi;have p1:=jM (j:=j) Vi;obtain⟨g,cp,cur,cj1,cj,ev,rfl,b0,rj1,rj,lj1,lj,kj1,kj,a2⟩:=Ow.two a3 (fun{I} c a h=>aW.len c a h) (fun{I J c a} h k=>aW.le h k) (i:=j+1) (j:=j) Vi Vi;rw[aS]at ev b0;cases ev
   refine Uq ?_;refine V8 [0,1,2,3,4,5,6,7,8,9,10,11,12,13,14,15,16] [8,13] [] ?_;apply af;simp only[go_sem,iv,a4,p1];refine⟨Vi,?_⟩;refine P7 (l:=cj1) (v:=.agg cj1.toArray) rfl (cellsU a0 (.tail _ (.head _)) (by simpa using kj1)) (.inl ⟨by rw[lj1];exact bT,rfl⟩) ?_;apply af;simp only[go_sem,iv,p1];refine⟨Vi,?_⟩;refine P7 (l:=cj) (v:=.agg cj.toArray) rfl (cellsU a0 (.tail _ (.head _)) (by simpa using kj)) (.inl ⟨by rw[lj];exact bT,rfl⟩) ?_;apply af;simp only[go_sem,iv,p1];refine i7 a0 [0] [] [_] rfl gf rfl (cf I3 _ _ _ _ rj1 rj) fun v I4 qs ap ac hq=>?_;obtain⟨rfl,z,rfl,hz⟩:=hq;simp only[Z3]at ap |-;refine Ur ?_;refine aw ?_;cases aa:cz d3[j+1]! d3[j]! with
   |true=>
    rw[aa]at hz;rw[Sort.insInner,SI (by simp[a7,aa])]at am;apply RG;simp only[go_sem,iv,hz];refine V8 [0,1,2,3,4,5,6,7,8,9,10,11,12,13,14,15,16,17] [9,13] [] ?_;apply af;simp only[go_sem,iv,p1];refine⟨Vi,?_⟩;refine P7 (l:=cj) (v:=.agg cj.toArray) rfl (cellsU ap (.tail _ (.head _)) (by simpa using kj)) (.inl ⟨by rw[lj];exact bT,rfl⟩) ?_;apply af;simp only[go_sem,iv,p1];refine⟨Vi,?_⟩;refine P7 (l:=cj1) (v:=.agg cj1.toArray) rfl (cellsU ap (.tail _ (.head _)) (by simpa using kj1)) (.inl ⟨by rw[lj1];exact bT,rfl⟩) ?_;apply af;simp only[go_sem,iv,p1];refine⟨Vi,?_⟩;have m1:(j+1+1)*7<=d.size*7:=Tb _ Vi;refine aH ap rfl rfl rfl rfl rfl (aM (aW.ones rj)) (by rw[lj];exact fx) (by rw[lj];omega) fun bx=>?_;apply af;simp only[go_sem,iv,p1];refine⟨Vi,?_⟩;refine aH bx rfl rfl rfl rfl rfl (aM (aW.ones rj1)) (by rw[lj1];exact fx) (by rw[lj1];simp[aJ];omega) fun bd=>?_;refine aw ?_;apply RG;simp only[go_sem,iv,p1];exact ak j _ _ Vi Uo (by simp only[go_sem,Tq,CH]) ⟨I4,_,_,rfl,bd,Ui an ac,Vi,by rw[cH];exact aS,a2 I4 ac,am⟩
   |false=>
    rw[aa]at hz;rw[Sort.insInner,Sb (by simp[aa])]at am;apply RG;simp only[go_sem,iv,hz];obtain⟨I5,A5,d5,e1,e2,e3⟩:=fin ac (br.le a3 ac) aS am;apply RG;simp only[go_sem,ba];exact aj (i+1) _ _ Vi Uo (by simp only[go_sem,Tq,x6]) ⟨I5,A5,d5,e1,e2 ap,e3⟩
  ·have a4:decide ((j:Int)>(a:Int))=false:=Ug Vi;have b1:d3=Sort.insInner cz a i d2:=by
    cases j with
    |zero=>exact am
    |succ j=>rw[Sort.insInner,Sb (by simp;omega)]at am;exact am
   refine Uq ?_;refine V8 [0,1,2,3,4,5,6,7,8,9,10,11,12,13,14,15,16] [8,13] [] ?_;apply af;simp only[go_sem,iv,a4];refine aw ?_;apply RG;simp only[go_sem,iv,ba];obtain⟨I5,A5,d5,e1,e2,e3⟩:=fin (Uj _) a3 aS b1;exact aj (i+1) _ _ Vi Uo (by simp only[go_sem,Tq,x6]) ⟨I5,A5,d5,e1,e2 a0,e3⟩
 ·have a5:decide ((i:Int)<(b:Int))=false:=by simp;omega
  rw[Sort.insOuter,Sb Vi]at a1;apply RG;simp only[go_sem,a5,iv];exact eO rfl a6 (r:=[]) rfl ao ⟨A2,rfl,by rw[<-a1];exact a9⟩
theorem BY:aP Tryz.prog 283:=⟨_,Tryz.func283,rfl,rfl⟩
def xR(v va vb vc:Value)(i:Nat):St:=⟨dn 53 [(0,.v v),(1,.v va),(2,.v vb),(3,.v vc),(8,.v (iv i))],[]⟩
def BJ(v va vb vc:Value)(i:Nat)(j:Nat):St:=⟨dn 53 [(0,.v v),(1,.v va),(2,.v vb),(3,.v vc),(8,.v (iv i)),(9,.v (iv j))],[]⟩
theorem Lr{I A:PH}{v vc:Value}{d:Array bX}{a b:Nat}(hA:dl I A v d.toList)(hc:jT dg g9 vc)(hb:b<=d.size)(hn:d.size<=aF)(ha:a<=d.size):
  aO Tryz.prog 283 #[v,iv a,iv b,vc] I [A] fun _ I2 qs=>∃A2,qs=[A2]/\dl I2 A2 v (Sort.insertionSort g9 d a b).toList:=by
 intro hd;unfold aF at hn;obtain⟨f,first,cap,rfl,gf,cf⟩:=id hc;obtain⟨va,vk,rfl⟩:=Ow.one' hA;have w1:=wrap64 (n:=a+1) Vi;have w1':IntKind.i64.wrap ((a:Int)+1)=((a+1:Nat):Int):=by rw[<-w1];congr 1
 refine ir 53 Tryz.func283 fun w0=>?_
 try simp only[iv]
 apply RG;simp only[go_sem,w1'];refine aB (fun i=>b-i) (xR (.slice va d.size vk) (iv a) (iv b) (.func (.func f) first cap)) (fun i H=>∃I2 A2 d2,H=U [I2,A2]/\Dj [I2,A2]/\I.le I2/\a+1<=i/\d2.size=d.size/\dl I2 A2 (.slice va d.size vk) d2.toList/\Sort.insOuter g9 a b i d2=Sort.insertionSort g9 d a b) (a+1) Uo (by simp only[go_sem,Tq,xR]) ?_ ?_
 ·exact⟨I,A,d,rfl,hd,Uj _,R7 _,rfl,hA,rfl⟩
 rintro i H ⟨I2,A2,d2,rfl,a6,ao,b4,bb,a9,a1⟩ aj;simp only[xR];rcases Sw i b with bc|b3
 ·have a5:decide ((i:Int)<(b:Int))=true:=by simp;omega
  have e1:=wrap64 (n:=i+1) Vi;have ba:IntKind.i64.wrap ((i:Int)+1)=((i+1:Nat):Int):=by rw[<-e1];congr 1
  rw[Sort.insOuter,SI bc]at a1;apply RG;simp only[go_sem,a5,iv];refine aB (fun j=>j) (BJ (.slice va d.size vk) (iv a) (iv b) (.func (.func f) first cap) i) (fun j H=>∃I3 A3 d3,H=U [I3,A3]/\Dj [I3,A3]/\I2.le I3/\j<=i/\d3.size=d.size/\dl I3 A3 (.slice va d.size vk) d3.toList/\Sort.insInner g9 a j d3=Sort.insInner g9 a i d2) i Uo (by simp only[go_sem,Tq,BJ]) ?_ ?_
  ·exact⟨I2,A2,d2,rfl,a6,Uj _,R7 _,bb,a9,rfl⟩
  rintro j H ⟨I3,A3,d3,rfl,a0,an,b2,aS,a3,am⟩ ak;simp only[BJ];have fin:∀{I4 A4:PH} {d4:Array bX},I3.le I4->dl I4 A4 (.slice va d.size vk) d4.toList->d4.size=d.size->d4=Sort.insInner g9 a i d2->∃I5 A5 d5,U [I4,A4]=U [I5,A5]/\(Dj [I4,A4]->Dj [I5,A5])/\I.le I5/\a+1<=i+1/\d5.size=d.size/\dl I5 A5 (.slice va d.size vk) d5.toList/\Sort.insOuter g9 a b (i+1) d5=Sort.insertionSort g9 d a b:=fun h1 h2 h3 h4=>⟨_,_,_,rfl,id,Ui ao (Ui an h1),Vi,h3,h2,by rw[h4];exact a1⟩;rcases Sw a j with a7|a7
  ·obtain⟨j,rfl⟩:∃j',j=j'+1:=⟨j-1,Vi⟩;have a4:decide (((j+1:Nat):Int)>(a:Int))=true:=Uh Vi;have p1:=jM (j:=j) Vi;obtain⟨g,cp,cur,cj1,cj,ev,rfl,b0,rj1,rj,lj1,lj,kj1,kj,a2⟩:=Ow.two a3 (fun{I} c a h=>dg.len c a h) (fun{I J c a} h k=>dg.le h k) (i:=j+1) (j:=j) Vi Vi;rw[aS]at ev b0;cases ev
   refine Uq ?_;refine V8 [0,1,2,3,4,5,6,7,8,9,10,11,12,13,14,15,16] [8,13] [] ?_;apply af;simp only[go_sem,iv,a4,p1];refine⟨Vi,?_⟩;refine P7 (l:=cj1) (v:=.agg cj1.toArray) rfl (cellsU a0 (.tail _ (.head _)) (by simpa using kj1)) (.inl ⟨by rw[lj1];exact iQ,rfl⟩) ?_;apply af;simp only[go_sem,iv,p1];refine⟨Vi,?_⟩;refine P7 (l:=cj) (v:=.agg cj.toArray) rfl (cellsU a0 (.tail _ (.head _)) (by simpa using kj)) (.inl ⟨by rw[lj];exact iQ,rfl⟩) ?_;apply af;simp only[go_sem,iv,p1];refine i7 a0 [0] [] [_] rfl gf rfl (cf I3 _ _ _ _ rj1 rj) fun v I4 qs ap ac hq=>?_;obtain⟨rfl,z,rfl,hz⟩:=hq;simp only[Z3]at ap |-;refine Ur ?_;refine aw ?_;cases aa:g9 d3[j+1]! d3[j]! with
   |true=>
    rw[aa]at hz;rw[Sort.insInner,SI (by simp[a7,aa])]at am;apply RG;simp only[go_sem,iv,hz];refine V8 [0,1,2,3,4,5,6,7,8,9,10,11,12,13,14,15,16,17] [9,13] [] ?_;apply af;simp only[go_sem,iv,p1];refine⟨Vi,?_⟩;refine P7 (l:=cj) (v:=.agg cj.toArray) rfl (cellsU ap (.tail _ (.head _)) (by simpa using kj)) (.inl ⟨by rw[lj];exact iQ,rfl⟩) ?_;apply af;simp only[go_sem,iv,p1];refine⟨Vi,?_⟩;refine P7 (l:=cj1) (v:=.agg cj1.toArray) rfl (cellsU ap (.tail _ (.head _)) (by simpa using kj1)) (.inl ⟨by rw[lj1];exact iQ,rfl⟩) ?_;apply af;simp only[go_sem,iv,p1];refine⟨Vi,?_⟩;have m1:(j+1+1)*4<=d.size*4:=Tb _ Vi;refine aH ap rfl rfl rfl rfl rfl (aM (dg.ones rj)) (by rw[lj];exact um) (by rw[lj];omega) fun bx=>?_;apply af;simp only[go_sem,iv,p1];refine⟨Vi,?_⟩;refine aH bx rfl rfl rfl rfl rfl (aM (dg.ones rj1)) (by rw[lj1];exact um) (by rw[lj1];simp[aJ];omega) fun bd=>?_;refine aw ?_;apply RG;simp only[go_sem,iv,p1];exact ak j _ _ Vi Uo (by simp only[go_sem,Tq,BJ]) ⟨I4,_,_,rfl,bd,Ui an ac,Vi,by rw[cH];exact aS,a2 I4 ac,am⟩
   |false=>
    rw[aa]at hz;rw[Sort.insInner,Sb (by simp[aa])]at am;apply RG;simp only[go_sem,iv,hz];obtain⟨I5,A5,d5,e1,e2,e3⟩:=fin ac (dl.le a3 ac) aS am;apply RG;simp only[go_sem,ba];exact aj (i+1) _ _ Vi Uo (by simp only[go_sem,Tq,xR]) ⟨I5,A5,d5,e1,e2 ap,e3⟩
  ·have a4:decide ((j:Int)>(a:Int))=false:=Ug Vi;have b1:d3=Sort.insInner g9 a i d2:=by
    cases j with
    |zero=>exact am
    |succ j=>rw[Sort.insInner,Sb (by simp;omega)]at am;exact am
   refine Uq ?_;refine V8 [0,1,2,3,4,5,6,7,8,9,10,11,12,13,14,15,16] [8,13] [] ?_;apply af;simp only[go_sem,iv,a4];refine aw ?_;apply RG;simp only[go_sem,iv,ba];obtain⟨I5,A5,d5,e1,e2,e3⟩:=fin (Uj _) a3 aS b1;exact aj (i+1) _ _ Vi Uo (by simp only[go_sem,Tq,xR]) ⟨I5,A5,d5,e1,e2 a0,e3⟩
 ·have a5:decide ((i:Int)<(b:Int))=false:=by simp;omega
  rw[Sort.insOuter,Sb Vi]at a1;apply RG;simp only[go_sem,a5,iv];exact eO rfl a6 (r:=[]) rfl ao ⟨A2,rfl,by rw[<-a1];exact a9⟩
theorem K9:aP Tryz.prog 36:=⟨_,Tryz.func36,rfl,rfl⟩
theorem LJ:aP Tryz.prog 88:=⟨_,Tryz.func88,rfl,rfl⟩
theorem Br:aP Tryz.prog 159:=⟨_,Tryz.func159,rfl,rfl⟩
theorem LV:aP Tryz.prog 87:=⟨_,Tryz.func87,rfl,rfl⟩
theorem Gs:aP Tryz.prog 33:=⟨_,Tryz.func33,rfl,rfl⟩
def Oq(a:Option Addr)(k:Nat)(t:T)(c:Nat)(u:T):St:=⟨dn 29 [(1,.v (.int .u32 c)),(2,.p 2 0),(5,.v (iv (T.plc (T.subs t) u)))],[⟨2,50,[sD a k t,rD t]⟩]⟩
theorem OP{H:PH}{v:Value}{t:T}{c:Nat}(h:cu H v t)(hc:c<2^32):bv Tryz.prog 36 #[v,.int .u32 c] H fun r H2=>r=.bool (t.at' (dW c))/\H2=H:=by
 obtain⟨ak,sl,rfl,hL⟩:=h;obtain⟨a,k,rfl,am⟩:=hL;have sq:T.Seq (T.subs t):=(T.vis_spec t ak Vi [] T.Seq.nil).1;have ao:(T.subs t).length+1<=2^24:=by
  obtain⟨us,e1,e2,_⟩:=(T.vis_spec t ak Vi [] T.Seq.nil).2.2;rw[SU]at e1;show (t.vis []).length+1<=_;rw[e1];exact e2
 have ap:T.isIn (T.subs t) t:=T.subs_in ak;refine ir 29 Tryz.func36 fun w0=>?_
 try simp only[iv]
 refine Un ?_;refine aB (fun u=>u.sz) (Oq a k t c) (fun u H2=>H2=H/\T.isIn (T.subs t) u/\u.at' (dW c)=t.at' (dW c)) t Uo (by simp only[go_sem,Tq,Oq,iv,sD,rD]) ⟨rfl,ap,rfl⟩ ?_;rintro u H2 ⟨rfl,hu,he⟩ ac;simp only[Oq];cases u with
 |lf b=>
  have an:decide (((T.plc (T.subs t) (.lf b):Nat):Int)>1)=false:=by cases b<;>simp[T.plc]
  have a1:(((T.plc (T.subs t) (.lf b):Nat):Int) == 1)=b:=by cases b<;>simp[T.plc]
  apply RG;simp only[go_sem,iv,an,a1];exact aK (r:=[_]) rfl ⟨by rw[<-he];rfl,rfl⟩
 |nd i l r=>
  have hm:T.nd i l r∈T.subs t:=hu;have a4:=Tw hm;have hp:T.plc (T.subs t) (.nd i l r)=(T.subs t).idxOf (.nd i l r)+2:=rfl;have an:decide (((T.plc (T.subs t) (.nd i l r):Nat):Int)>1)=true:=by rw[hp];simp;omega
  have a2:IntKind.i64.wrap (((T.plc (T.subs t) (.nd i l r):Nat):Int)-2)=(((T.subs t).idxOf (.nd i l r):Nat):Int):=by
   rw[<-wrap64 (n:=(T.subs t).idxOf (.nd i l r)) Vi,hp];congr 1;omega
  obtain⟨kl,kr⟩:=sq.kids hm;have aS:i<24:=(sq.okk hu).2.1;have a0:T.dec (T.subs t) (.nd i l r)=(i,T.plc (T.subs t) l,T.plc (T.subs t) r):=rfl;rcases am with h0|⟨b,rfl,am⟩
  ·rw[h0]at hm;simp at hm
  apply RG;simp only[go_sem,iv,sD,rD,an,a2];refine⟨Vi,?_⟩;have hg:=T.plc_get hm;rw[hp,Tx]at hg;have a3:(BD (T.subs t)).length=(T.subs t).length*3:=oG _;have aj:=am.sub ((T.subs t).idxOf (.nd i l r)*3) 3 Vi;rw[oJ hg,Sf,a0]at aj;refine Qz (l:=lm (i,T.plc (T.subs t) l,T.plc (T.subs t) r)) (v:=fG (i,T.plc (T.subs t) l,T.plc (T.subs t) r)) rfl aj (.inl ⟨ti,rfl⟩) ?_;have hs:qN .u32 (qj .u32 (c:Int) (i:Int)) 1=((((c >>> i)&&&1:Nat)):Int):=by
   rw[Cy Vi];exact jY (b:=1) (vX hc) Vi
  have aa:=FV c i;cases hb:c.testBit i
  ·rw[hb]at aa;apply RG;simp only[go_sem,iv,sD,rD,fG,TP,hs,aa];refine ac l _ _ ?_ Uo (by simp only[go_sem,Tq,Oq,iv,sD,rD]) ⟨rfl,kl,?_⟩
   ·simp only[T.sz];omega
   ·rw[<-he];simp[T.at',dW,hb]
  ·rw[hb]at aa;apply RG;simp only[go_sem,iv,sD,rD,fG,TP,hs,aa];refine ac r _ _ ?_ Uo (by simp only[go_sem,Tq,Oq,iv,sD,rD]) ⟨rfl,kr,?_⟩
   ·simp only[T.sz];omega
   ·rw[<-he];simp[T.at',dW,hb]
def sZ(I0:PH)(vf:Value)(g:T->T):Prop:=∃fid first cap,vf=.func (.func fid) first cap/\aP Tryz.prog fid/\∀{I:PH} {v:Value} {d:T},I0.le I->cu I v d->aO Tryz.prog fid (first++#[v]++cap) I [] fun r I2 qs=>qs=[]/\cu I2 r (g d)
theorem sZ.le{I J:PH}{vf:Value}{g:T->T}(h:sZ I vf g)(k:I.le J):sZ J vf g:=by
 obtain⟨fid,first,cap,e,hg,hd⟩:=h;exact⟨fid,first,cap,e,hg,fun k2 hr=>hd (Ui k k2) hr⟩
def GV(c:Nat)(d:T):T:=.lf (d.at' (dW c))
theorem Fj(I:PH):cu I (.agg #[.slice none 0 0,iv 1]) (.lf true):=jP I true
theorem Ll(I:PH):cu I (.agg #[.slice none 0 0,iv 0]) (.lf false):=jP I false
theorem HI{I0:PH}{cb c:Nat}(hb:aQ I0 cb 0 [.int .u32 c])(hc:c<2^32):sZ I0 (.func (.func 88) #[] #[pt cb]) (GV c):=by
 refine⟨88,#[],#[pt cb],rfl,LJ,fun{I v d} ac hr hd=>?_⟩;obtain⟨a,k,rfl⟩:=hr.shape2;show bv Tryz.prog 88 #[.agg #[sD a k d,rD d],pt cb] _ _;refine ir 9 Tryz.func88 fun w0=>?_
 try simp only[iv,pt,sD,rD]
 refine Un ?_;refine Qz (l:=[.int .u32 c]) rfl (cellsU hd (.head _) (hb.le ac)) (.inr ⟨qZ,rfl⟩) ?_;refine Un ?_;refine Pf rfl K9 (OP (hr.le (cD hd)) hc) fun v H2 hv=>?_;obtain⟨rfl,rfl⟩:=hv;cases aa:d.at' (dW c)
 ·refine Un ?_;refine Pf rfl sV (oH _) fun v H2 hv=>?_;obtain⟨rfl,rfl⟩:=hv;refine Uq ?_;exact ai rfl hd (r:=[.agg #[.slice none 0 0,.int .i64 0]]) (by simp only[Tryz.results88,go_sem,iv]) (Uj _) ⟨rfl,by unfold GV;rw[aa];exact Ll I⟩
 ·refine Un ?_;refine Pf rfl Bd (Bo _) fun v H2 hv=>?_;obtain⟨rfl,rfl⟩:=hv;refine Uq ?_;exact ai rfl hd (r:=[.agg #[.slice none 0 0,.int .i64 1]]) (by simp only[Tryz.results88,go_sem,iv]) (Uj _) ⟨rfl,by unfold GV;rw[aa];exact Fj I⟩
structure N5(g:T->T)(F:List Nd->List Nd):Prop where
 nil:F []=[]
 app:∀a b,F (a++b)=F a++F b
 one:∀n:Nd,F [n]=if g n.cond=ff then []else [{ n with kids:=F n.kids,cond:=g n.cond }]
theorem N5.take_le{g:T->T}{F:List Nd->List Nd}(h:N5 g F)(i:Nat)(l:List Nd):cK (F (l.take i))<=cK (F l):=by
 conv=>rhs;rw[<-TL i l]
 rw[h.app,fB];omega
theorem PJ(c:Nat):N5 (GV c) (pL (dW c)):=by
 refine⟨rfl,dO _,fun n=>?_⟩;rw[eJ];unfold GV;cases n.cond.at' (dW c)<;>simp
def N7(vf vl:Value)(n:Nat)(x:Nat×Value):St:=⟨dn 34 [(1,.v vf),(5,.v x.2),(8,.v vl),(9,.v (iv n)),(10,.v (iv x.1))],[]⟩
def Rm(F:List Nd->List Nd)(l:List Nd)(I0:PH)(x:Nat×Value)(H:PH):Prop:=∃I A,H=U [I,A]/\Dj [I,A]/\I0.le I/\x.1<=l.length/\br I A x.2 (F (l.take x.1))
theorem Do{g:T->T}{F:List Nd->List Nd}(hF:N5 g F):∀(m:Nat) {I:PH} {v vf:Value} {l:List Nd},cK l<m->db I v l->oU v->sZ I vf g->cK (F l)<=aF->
  aO Tryz.prog 159 #[v,vf] I [] fun r I2 qs=>∃A,qs=[A]/\br I2 A r (F l):=by
 intro m
 induction m with
 |zero=>intro I v vf l hm;omega
 |succ m ih=>
 intro I v vf l hm hS hC hG hz hd;obtain⟨va,vc,rfl,_⟩:=id hS;obtain⟨fid,first,cap,rfl,b2,b4⟩:=id hG;unfold aF at hz;refine ir 34 Tryz.func159 fun w0=>?_
 try simp only[iv]
 refine Un ?_;refine aT hd fun ca=>?_;refine aB (fun x=>l.length-x.1) (N7 (.func (.func fid) first cap) (.slice va l.length vc) l.length) (Rm F l I) (0,.slice none 0 0) Uo (by simp only[go_sem,Tq,N7]) ?_ ?_
 ·exact⟨I,PH.no,rfl,ca,Uj _,S6 _,by rw[TV,hF.nil];exact Ow.nil _ _ _ _⟩
 rintro⟨i,vo⟩ H ⟨I1,A1,rfl,a9,ac,hi,hA⟩ aj;simp only at hi hA;simp only[N7];obtain⟨oa,oc,rfl⟩:=hA.shape;rcases Sw i l.length with ap|cp
 ·have bb:decide ((i:Int)<(l.length:Int))=true:=by simp;omega
  have bx:=rJ hC ap;obtain⟨n,hn⟩:∃n,l[i]?=some n:=⟨_,SC ap⟩;obtain⟨b,off,cs,rfl,cb,ao⟩:=Sl.load aW.len (db.le hS ac) hn;obtain⟨vk,na,nk,rfl,a2,ak,ba⟩:=cb.shape;obtain⟨ka,kc,rfl,_⟩:=id ak;have cm:=oE (Tg hn);have a1:=hF.take_le (i+1) l;rw[cv hn,hF.app,fB]at a1;have cn:=gw (F (l.take i));apply RG;simp only[go_sem,bb,iv,sD,rD];refine⟨Vi,?_⟩;refine Qz (l:=[.int .u8 n.kind,.string ⟨⟨n.text⟩⟩,.int .i64 n.tok,.int .i64 n.slot,.slice ka n.kids.length kc,sD na nk n.cond,rD n.cond]) (v:=.agg #[.int .u8 n.kind,.string ⟨⟨n.text⟩⟩,.int .i64 n.tok,.int .i64 n.slot,.slice ka n.kids.length kc,sD na nk n.cond,rD n.cond]) rfl (cellsU a9 (.head _) ao) (.inl ⟨bT,rfl⟩) ?_;refine Uv ?_;refine f6 a9 [0] [] [A1] rfl b2 rfl (b4 ac a2) fun v I3 qs a7 aa hq=>?_;obtain⟨rfl,a3⟩:=hq;obtain⟨za,zk,rfl⟩:=a3.shape2;simp only[Z3]at a7 |-;refine Uv ?_;refine Pf rfl gK (fq a3) fun v H2 hv=>?_;obtain⟨rfl,rfl⟩:=hv;cases aS:decide (g n.cond=.lf false)
  ·have bc:g n.cond≠ff:=by simpa using aS
   rw[hF.one,Sb bc,a8,cR]at a1;simp only at a1;apply RG;simp only[go_sem,iv,sD,rD,aS,T7];refine f6 a7 [0] [] [A1] rfl Br rfl (ih (l:=n.kids) Vi (db.le ak aa) ba (sZ.le hG (Ui ac aa)) (by unfold aF;omega)) fun v I4 qs bd a5 hq=>?_;obtain⟨K,rfl,hK⟩:=hq;simp only[Z3]at bd |-;obtain⟨qa,qc,rfl⟩:=hK.shape;have ci:=hK.capN aW.len;refine Um bd [0,1] fun a6=>?_;refine ag a6 fun I5 a6 an cj=>?_;have cf:db I5 (.slice qa (F n.kids).length qc) (F n.kids):=br.sl hK an cj;refine Uv ?_;refine av a6 (by exact cT) rfl rfl rfl rfl rfl Vm fun nb I6 b6 am b1=>?_;have a0:=Ui a5 (Ui an am);have cc:db I6 (.slice (some ⟨nb,0,none⟩) 1 1) [{ n with kids:=F n.kids,cond:=g n.cond }]:=fT (az b1 (by simp[aE,Value.cells]) (by simp[aE,Value.cells,iv,sD,rD])) (aW.mk (n:={ n with kids:=F n.kids,cond:=g n.cond }) (a3.le a0) (db.le cf am) ci);refine Uv ?_;refine aY b6 (by exact cT) (br.le hA (Ui aa a0)) (cc) (fun{I J c a} h k=>aW.le h k) (fun{I} c a h=>aW.len c a h) (fun{I} c a h=>aW.ones h) rfl rfl rfl rfl (by first|omega|(simp only[SB,S9];omega)) (by unfold maxLen;first|omega|(simp only[SB,S9];omega)) fun ua uc I7 A7 b5 a4 cl=>?_;apply RG;simp only[go_sem,iv,sD,rD,bx];have b0:=Ui ac (Ui aa (Ui a0 a4));exact aj (i+1,.slice ua (F (l.take i)++[{ n with kids:=F n.kids,cond:=g n.cond }]).length uc) _ _ V9 VM (by simp only[go_sem,Tq,N7,iv,sD,rD]) ⟨I7,A7,rfl,b5,b0,ap,by simp only;rw[cv hn,hF.app,hF.one,Sb bc];exact cl⟩
  ·have b3:g n.cond=ff:=by simpa using aS
   apply RG;simp only[go_sem,iv,sD,rD,aS,Ud,bx];exact aj (i+1,.slice oa (F (l.take i)).length oc) _ _ V9 VM (by simp only[go_sem,Tq,N7,iv,sD,rD]) ⟨I3,A1,rfl,a7,Ui ac aa,ap,by simp only;rw[cv hn,hF.app,hF.one,SI b3,Tq];exact br.le hA aa⟩
 ·have:i=l.length:=by omega
  subst this;have bb:=Z6 l.length;apply RG;simp only[go_sem,bb,iv,sD,rD];exact ai rfl a9 (r:=[_]) rfl ac ⟨A1,rfl,by rw[Td]at hA |-;exact hA⟩
def zW(I:PH)(v:Value)(t:Tr):Prop:=∃vk vd,v=.agg #[vk,vd]/\db I vk t.kids/\oU vk/\Sl dg I vd t.diags/\oU vd
theorem SlE.le{I J:PH}{v:Value}{l:List bX}(h:Sl dg I v l)(k:I.le J):Sl dg J v l:=Sl.le (R:=dg) (fun{I J c a} h k=>dg.le h k) h k
theorem zW.le{I J:PH}{v:Value}{t:Tr}(h:zW I v t)(k:I.le J):zW J v t:=by
 obtain⟨vk,vd,e,h1,h2,h3,h4⟩:=h;exact⟨vk,vd,e,db.le h1 k,h2,SlE.le h3 k,h4⟩
def wy(g:T->T)(e:List bX):List bX:=e.flatMap fun d=>if g d.cond=ff then []else [{ d with cond:=g d.cond }]
theorem Iv(g:T->T)(a b:List bX):wy g (a++b)=wy g a++wy g b:=by simp[wy]
theorem Cz(g:T->T):∀e,(wy g e).length<=e.length
 | []=>R7 _
 |d::e=>by
  have:=Cz g e;have h:wy g (d::e)=(if g d.cond=ff then []else [{ d with cond:=g d.cond }])++wy g e:=rfl;rw[h];split<;>simp<;>omega
theorem LX(c:Nat)(e:List bX):wy (GV c) e=JP (dW c) e:=by
 induction e with
 |nil=>rfl
 |cons d e ih=>
  have h:wy (GV c) (d::e)=(if GV c d.cond=ff then []else [{ d with cond:=GV c d.cond }])++wy (GV c) e:=rfl;rw[h,ih];unfold JP GV;cases hd:d.cond.at' (dW c)<;>simp[TU,hd]
theorem dl.sl{I J A:PH}{v:Value}{l:List bX}(h:dl I A v l)(h1:I.le J)(h2:A.le J):Sl dg J v l:=Ow.sl (R:=dg) (fun{I J c a} h k=>dg.le h k) h h1 h2
def O0(vf vk vd vk2 vl:Value)(n:Nat)(x:Nat×Value):St:=⟨dn 37 [(1,.v vf),(4,.p 4 0),(5,.p 5 0),(14,.v vl),(15,.v (iv n)),(16,.v (iv x.1))],[⟨4,36,[.slice none 0 0,.slice none 0 0]⟩,⟨5,36,[vk2,x.2]⟩]⟩
def RV(g:T->T)(l:List bX)(I0:PH)(x:Nat×Value)(H:PH):Prop:=∃I A,H=U [I,A]/\Dj [I,A]/\I0.le I/\x.1<=l.length/\dl I A x.2 (wy g (l.take x.1))
theorem NO{g:T->T}{F:List Nd->List Nd}(hF:N5 g F){I:PH}{v vf:Value}{t:Tr}(hT:zW I v t)(hG:sZ I vf g)(hz:cK (F t.kids)<=aF)(b1:t.diags.length<=aF):
  aO Tryz.prog 87 #[v,vf] I [] fun r I2 qs=>qs=[]/\zW I2 r ⟨F t.kids,wy g t.diags⟩:=by
 obtain⟨vk,vd,rfl,hK,cn,hD,cr⟩:=hT;obtain⟨fid,first,cap,rfl,b5,ca⟩:=id hG;obtain⟨ka,kc,rfl,_⟩:=id hK;obtain⟨da,dc,rfl,_⟩:=id hD;have a3:=b1;unfold aF at a3;intro hd;refine ir 37 Tryz.func87 fun w0=>?_
 try simp only[iv]
 refine Un ?_;refine V7 hd rfl Br (Do hF (cK t.kids+1) (Tv _) hK cn hG hz) fun v1 I1 qs ci a7 hq=>?_;obtain⟨K,rfl,bb⟩:=hq;obtain⟨qa,qc,rfl⟩:=bb.shape;have hK1c:=bb.capN aW.len;refine Um ci [0] fun ba=>?_;refine ag ba fun I2 ba ap cm=>?_;have cp:db I2 (.slice qa (F t.kids).length qc) (F t.kids):=br.sl bb ap cm;have a2:=Ui a7 ap;refine Un ?_;refine aT ba fun cf=>?_;refine aB (fun x=>t.diags.length-x.1) (O0 (.func (.func fid) first cap) (.slice ka t.kids.length kc) (.slice da t.diags.length dc) (.slice qa (F t.kids).length qc) (.slice da t.diags.length dc) t.diags.length) (RV g t.diags I2) (0,.slice none 0 0) Uo (by simp only[go_sem,Tq,O0]) ?_ ?_
 ·exact⟨I2,PH.no,rfl,cf,Uj _,S6 _,Ow.nil _ _ _ _⟩
 rintro⟨i,vo⟩ H ⟨I3,A3,rfl,a9,aa,hi,hA⟩ ak;simp only at hi hA;simp only[O0];obtain⟨oa,oc,rfl⟩:=hA.shape;rcases Sw i t.diags.length with a0|cA
 ·have bc:decide ((i:Int)<(t.diags.length:Int))=true:=by simp;omega
  have bx:=rJ cr a0;obtain⟨d,bd⟩:∃d,t.diags[i]?=some d:=⟨_,SC a0⟩;obtain⟨b,off,cs,rfl,cj,aS⟩:=Sl.load dg.len (SlE.le hD (Ui a2 aa)) bd;obtain⟨na,nk,rfl,a4⟩:=id cj;have b2:=Cz g (t.diags.take i);rw[T1]at b2;have ac:wy g (t.diags.take (i+1))=wy g (t.diags.take i)++(if g d.cond=ff then []else [{ d with cond:=g d.cond }]):=by
   rw[cv bd,Iv];simp[wy]
  apply RG;simp only[go_sem,bc,iv,sD,rD];refine⟨Vi,?_⟩;refine Qz (l:=[.int .u8 d.code,.int .i64 d.tok,sD na nk d.cond,rD d.cond]) (v:=.agg #[.int .u8 d.code,.int .i64 d.tok,sD na nk d.cond,rD d.cond]) rfl (cellsU a9 (.head _) aS) (.inl ⟨iQ,rfl⟩) ?_;refine Uv ?_;refine f6 a9 [0] [] [A3] rfl b5 rfl (ca (Ui a2 aa) a4) fun v I4 qs ao aj hq=>?_;obtain⟨rfl,a5⟩:=hq;obtain⟨za,zk,rfl⟩:=a5.shape2;simp only[Z3]at ao |-;refine Uv ?_;refine Pf rfl gK (fq a5) fun v H2 hv=>?_;obtain⟨rfl,rfl⟩:=hv;cases a1:decide (g d.cond=.lf false)
  ·have b3:g d.cond≠ff:=by simpa using a1
   rw[Sb b3]at ac;apply RG;simp only[go_sem,iv,sD,rD,a1,T7];refine av ao (by exact qR) rfl rfl rfl rfl rfl Vm fun nb I6 cc am b4=>?_;have cl:Sl dg I6 (.slice (some ⟨nb,0,none⟩) 1 1) [{ d with cond:=g d.cond }]:=⟨_,_,rfl,.inr ⟨nb,0,_,rfl,az b4 (by simp[aE,Value.cells]) (by simp[aE,Value.cells,iv,sD,rD]),.one ⟨za,zk,rfl,a5.le am⟩⟩⟩;refine Uv ?_;refine aY (R:=dg) (xs:=wy g (t.diags.take i)) (ys:=[{ d with cond:=g d.cond }]) cc (by exact qR) (dl.le hA (Ui aj am)) cl (fun{I J c a} h k=>dg.le h k) (fun{I} c a h=>dg.len c a h) (fun{I} c a h=>dg.ones h) rfl rfl rfl rfl (by simp only[SB,S9];omega) (by simp only[SB,S9];unfold maxLen;omega) fun ua uc I7 A7 cb a6 cy=>?_;apply RG;simp only[go_sem,iv,sD,rD,bx];have b0:=Ui aj (Ui am a6);exact ak (i+1,.slice ua (wy g (t.diags.take i)++[{ d with cond:=g d.cond }]).length uc) _ _ V9 VM (by simp only[go_sem,Tq,O0,iv,sD,rD]) ⟨I7,A7,rfl,cb,Ui aa b0,a0,by simp only;rw[ac];exact cy⟩
  ·have b6:g d.cond=ff:=by simpa using a1
   rw[SI b6,Tq]at ac;apply RG;simp only[go_sem,iv,sD,rD,a1,Ud,bx];exact ak (i+1,.slice oa (wy g (t.diags.take i)).length oc) _ _ V9 VM (by simp only[go_sem,Tq,O0,iv,sD,rD]) ⟨I4,A3,rfl,ao,Ui aa aj,a0,by simp only;rw[ac];exact dl.le hA aj⟩
 ·have:i=t.diags.length:=by omega
  subst this;have bc:=Z6 t.diags.length;rw[Td]at hA |-;have cx:=Ow.capN (R:=dg) hA (fun c a h=>dg.len c a h);refine Um a9 [0] fun ao=>?_;refine ag (c:=.st _) ao fun I5 ao an ct=>?_;apply RG;simp only[go_sem,bc,iv,sD,rD];exact ai rfl ao (r:=[.agg #[.slice qa (F t.kids).length qc,.slice oa (wy g t.diags).length oc]]) (by simp only[Tryz.results87,go_sem,iv]) (Ui a2 (Ui aa an)) ⟨rfl,_,_,rfl,db.le cp (Ui aa an),hK1c,dl.sl hA an ct,cx⟩
theorem vU{I:PH}{v:Value}{t:Tr}{c:Nat}(hT:zW I v t)(hc:c<2^32)(hz:cK t.kids<=aF)(aj:t.diags.length<=aF):aO Tryz.prog 33 #[v,.int .u32 c] I [] fun r I2 qs=>qs=[]/\zW I2 r (prj (dW c) t):=by
 obtain⟨vk,vd,rfl,hK,ap,hD,aS⟩:=id hT;intro hd;refine ir 8 Tryz.func33 fun w0=>?_
 try simp only[iv]
 apply bq 6;simp only[go_sem];refine eP 3 hd rfl fun cb an=>?_;refine ag (c:=.st _) an fun I2 am aa ao=>?_;have hb:aQ I2 cb 0 [.int .u32 c]:=(aU (by simp) rfl:aQ (sg cb (.cells [.int .u32 c].toArray 23 (0,0))) cb 0 [.int .u32 c]).le ao;apply RG;simp only[go_sem,kE,List.map,pt];refine V7 am rfl LV (NO (PJ c) (hT.le aa) (HI hb hc) (R8 (vY _ _) hz) aj) fun v1 I4 qs ak ac hq=>?_;obtain⟨rfl,hr⟩:=hq;obtain⟨wk,wd,rfl,h1,h2,h3,h4⟩:=hr;rw[LX]at h3;obtain⟨xa,xc,rfl,_⟩:=id h1;obtain⟨ya,yc,rfl,_⟩:=id h3;refine Un ?_;exact ai rfl ak (r:=[.agg #[.slice xa (pL (dW c) t.kids).length xc,.slice ya (JP (dW c) t.diags).length yc]]) (by simp only[Tryz.results33,go_sem]) (Ui aa ac) ⟨rfl,_,_,rfl,h1,h2,h3,h4⟩
end Go.Proofs.YtfaclfkpnmcmlaaGreatDoor
namespace Syn
open Dg
mutual
def ON:Nd->Prop
 |⟨k,x,t,s,ks,_⟩=>(k<256/\-4611686018427387904<=t/\t<4611686018427387904/\-4611686018427387904<=s/\s<4611686018427387904/\x.length<4611686018427387904)/\kG ks
def kG:List Nd->Prop
 | []=>True
 |n::l=>ON n/\kG l
end
theorem iL{l:List Nd}:kG l<->∀n∈l,ON n:=by
 induction l with
 |nil=>simp[kG]
 |cons n l ih=>simp[kG,ih]
theorem mH{n:Nd}:ON n<->(n.kind<256/\-4611686018427387904<=n.tok/\n.tok<4611686018427387904/\-4611686018427387904<=n.slot/\n.slot<4611686018427387904/\n.text.length<4611686018427387904)/\kG n.kids:=by cases n;rfl
theorem rL{a b:List Nd}:kG (a++b)<->kG a/\kG b:=by
 simp only[iL,Ti];exact⟨fun h=>⟨fun n hn=>h n (.inl hn),fun n hn=>h n (.inr hn)⟩,fun h n hn=>hn.elim (h.1 n) (h.2 n)⟩
theorem dS{l ks:List Nd}(h:kG l)(hk:kG ks):kG (give l ks):=iL.2 fun n hn=>by
 obtain⟨m,hm,rfl⟩:=List.mem_map.1 hn;have:=mH.1 (iL.1 h m hm);exact mH.2 ⟨this.1,rL.2 ⟨this.2,hk⟩⟩
theorem DS{l:List Nd}(h:kG l):kG (ow l):=iL.2 fun n hn=>by
 obtain⟨m,hm,rfl⟩:=List.mem_map.1 hn;obtain⟨⟨a,b,c,_,_,g⟩,k⟩:=mH.1 (iL.1 h m hm);exact mH.2 ⟨⟨a,b,c,by show (-4611686018427387904:Int)<=0;omega,by show (0:Int)<_;omega,g⟩,k⟩
theorem gZ{k:Nat}{t:bM}{i s N:Nat}{ks:List Nd}{d:T}(ht:t.length<4611686018427387904)(hk:k<256)(hi:i<N)(hN:N<=16384)(hs:s<=2)(h:kG ks):kG [⟨k,t,(i:Int),(s:Int),ks,d⟩]:=
 ⟨⟨⟨hk,Vi,Vi,Vi,Vi,ht⟩,h⟩,trivial⟩
section
variable {c:cg} {ts:List Tok} (hN:ts.length<=16384) (hX:∀i,(X ts i).length<4611686018427387904)
include hN hX
theorem mz(p:Option Nat){kind slot:Nat}(hk:kind<256)(hs:slot<=2):kG (bC ts c p kind slot).l:=by
 unfold bC;cases p.map (nx c ts)with
 |none=>trivial
 |some i=>
  simp only;split
  ·trivial
  ·rename_i h;exact gZ (by first|exact hX _|(show (0:Nat)<_;decide)) hk (DJ fun h2=>h (.inl (by rw[h2];decide))) hN hs trivial
theorem sA(p:Option Nat){slot:Nat}(hs:slot<=2):kG (gE ts c p slot).l:=by
 unfold gE;cases p.map (nx c ts)with
 |none=>trivial
 |some i=>
  simp only;split
  ·trivial
  ·rename_i h;exact gZ (by first|exact hX _|(show (0:Nat)<_;decide)) Vm (kC fun h2=>h (by rw[h2];exact⟨by decide,by decide⟩)) hN hs trivial
theorem rG{kind:Nat}{i:Option Nat}{slot:Nat}(hk:kind<256)(h:Lt ts.length i)(hs:slot<=2):kG (je kind i slot):=by
 cases i with
 |none=>trivial
 |some j=>exact gZ (by first|exact hX _|(show (0:Nat)<_;decide)) hk (h j rfl) hN hs trivial
omit hN hX in
theorem zq{i kind slot x:Nat}{is:Nat->Bool}(h:pIf c ts (bC ts c (some i) kind slot).p is=some x):i<ts.length:=by
 have h0:=EN c ts i;unfold bC at h;simp only[So]at h;split at h
 ·cases h
 ·rename_i hk;have:nx c ts i<ts.length:=DJ fun h2=>hk (.inl (by rw[h2];decide));omega
def O4(N:Nat):jj->Prop
 | .line _ _ _ s=>s<=2
 | .lineL _ _ s _ l _ _=>s<=2/\kG l
 | .lineO _ _ s op l _=>s<=2/\kG l/\Lt N op
 | .unary _ _ s=>s<=2
 | .unaryH _ _ s=>s<=2
 | .calls _ i s x names _=>s<=2/\kG names/\(∀j k,i=some j->x=some k->j<N)
 | .inside _ _ s=>s<=2
 | .listL _ _ l _ _=>kG l
 | .behind _ _ _ _ s=>s<=2
 | .block _ _ s=>s<=2
 | .seqL _ _ _ l _=>kG l
 | .sCalls _ i x l _=>kG l/\(∀j k,i=some j->x=some k->j<N)
 | .branch _ i s=>s<=2/\Lt N i
 | .elses _ _ l _=>kG l
 | .ifs _ y l _=>kG l/\Lt N y
 |_=>True
theorem Ei{rec:o3}(R:∀x q,rec x=some q->O4 ts.length x->kG q.l):∀x q,aN c ts rec x=some q->O4 ts.length x->kG q.l:=by
 have R1:∀{x q},rec x=some q->O4 ts.length x->kG q.l:=fun{x q} h k=>R x q h k;intro x q e hi;cases x with
 |line k o p slot=>
  simp only[aN,pd]at e;split at e
  ·have:=R1 e hi;exact this
  ·obtain⟨a,ea,e⟩:=gh e;obtain⟨b,eb,e⟩:=gh e;cases e
   have:=R1 eb ⟨hi,R1 ea hi⟩;exact this
 |lineL k o slot first l g out=>
  simp only[aN,nH]at e;cases g with
  |none=>cases e;exact hi.2
  |some p=>
   simp only at e;split at e
   ·cases e;exact hi.2
   ·obtain⟨a,ea,e⟩:=gh e;obtain⟨b,eb,e⟩:=gh e;cases e
    have:=R1 eb ⟨hi.1,R1 ea ⟨hi.1,hi.2,EQ⟩⟩;exact this
 |lineO k o slot op l g=>
  simp only[aN,sE]at e;cases op with
  |none=>cases e;exact hi.2.1
  |some i=>
   obtain⟨a,ea,e⟩:=gh e;cases e
   exact gZ (by first|exact hX _|(show (0:Nat)<_;decide)) Vm (hi.2.2 i rfl) hN hi.1 (rL.2 ⟨DS hi.2.1,R1 ea (by show (1:Nat)<=2;decide)⟩)
 |unary o p slot=>
  have:=R1 (x:=.unaryH o (p.map (nx c ts)) slot) e hi;exact this
 |unaryH o i slot=>
  simp only[aN,fU]at e;cases i with
  |none=>cases e;trivial
  |some i=>
   simp only at e;split at e
   ·rename_i hx;have aa:i<ts.length:=kC (by rcases hx with h|h<;>rw[h]<;>decide);split at e
    ·cases e;trivial
    ·obtain⟨a,ea,e⟩:=gh e;cases e
     exact gZ (by first|exact hX _|(show (0:Nat)<_;decide)) Vm aa hN hi (R1 ea (by show (0:Nat)<=2;decide))
   ·split at e
    ·have:=R1 e hi;exact this
    ·split at e
     ·rename_i hx;cases e
      exact gZ (by first|exact hX _|(show (0:Nat)<_;decide)) Vm (DJ (by rw[hx];decide)) hN hi trivial
     ·split at e
      ·rename_i hx;cases e
       exact gZ (by first|exact hX _|(show (0:Nat)<_;decide)) Vm (kC (by rcases hx with h|h<;>rw[h]<;>decide)) hN hi trivial
      ·split at e
       ·rename_i hx;cases e
        exact gZ (by first|exact hX _|(show (0:Nat)<_;decide)) Vm (kC (by rw[hx];decide)) hN hi trivial
       ·obtain⟨b,eb,e⟩:=gh e;cases e
        have:=R1 eb ⟨hi,mz hN hX _ Vm hi,fun j k hj hk=>by cases hj;exact zq hk⟩;exact this
 |calls o i slot x names g=>
  simp only[aN,nC]at e;split at e
  ·rename_i i x;obtain⟨a,ea,e⟩:=gh e;cases e
   exact gZ (by first|exact hX _|(show (0:Nat)<_;decide)) Vm (hi.2.2 i x rfl rfl) hN hi.1 (R1 ea trivial)
  ·cases e;exact hi.2.1
 |inside o p slot=>
  simp only[aN,jL]at e;split at e
  ·cases e;trivial
  ·split at e
   ·cases e;trivial
   ·split at e
    ·cases e;trivial
    ·obtain⟨a,ea,e⟩:=gh e;cases e
     have:=R1 ea hi;exact this
 |listed par o p=>
  simp only[aN,jI]at e;split at e
  ·cases e;trivial
  ·split at e
   ·cases e;trivial
   ·split at e
    ·cases e;trivial
    ·obtain⟨a,ea,e⟩:=gh e;cases e
     have:=R1 ea trivial;exact this
 |listL par o l g fin=>
  simp only[aN,tL]at e;cases g with
  |none=>cases e;exact hi
  |some p=>
   obtain⟨a,ea,e⟩:=gh e;obtain⟨b,eb,e⟩:=gh e;cases e
   have:=R1 eb (rL.2 ⟨hi,R1 ea trivial⟩);exact this
 |item par o p=>
  simp only[aN,sH]at e;split at e
  ·cases e
   exact dS (mz hN hX _ Vm Vm) (sA hN hX _ Vm)
  ·have:=R1 e (by show (0:Nat)<=2;decide);exact this
 |behind typ o p sign slot=>
  simp only[aN,lq]at e;obtain⟨a,ea,e⟩:=gh e;cases e
  unfold jc at ea;split at ea
  ·cases ea;exact sA hN hX _ hi
  ·have:=R1 ea hi;exact this
 |vrb o p=>
  simp only[aN,iY]at e;obtain⟨d,ed,e⟩:=gh e;cases e
  exact dS (dS (mz hN hX _ Vm Vm) (sA hN hX _ Vm)) (R1 ed (by show (1:Nat)<=2;decide))
 |function o p=>
  simp only[aN,iX]at e;obtain⟨b,eb,e⟩:=gh e;obtain⟨d,ed,e⟩:=gh e;obtain⟨f,ef,e⟩:=gh e;cases e
  exact dS (dS (dS (mz hN hX _ Vm Vm) (R1 eb trivial)) (R1 ed (by show (1:Nat)<=2;decide))) (R1 ef (by show (2:Nat)<=2;decide))
 |block o p slot=>
  simp only[aN,mg]at e;split at e
  ·cases e;trivial
  ·rename_i i hp;split at e
   ·cases e;trivial
   ·rename_i hx;have aa:i<ts.length:=kC (by rw[Classical.not_not.1 hx];decide);split at e
    ·cases e;trivial
    ·obtain⟨a,ea,e⟩:=gh e;cases e
     exact gZ (by first|exact hX _|(show (0:Nat)<_;decide)) Vm aa hN hi (R1 ea trivial)
 |seqL top o p l out=>
  simp only[aN,tw]at e;split at e
  ·cases e;exact hi
  ·split at e
   ·cases e;exact hi
   ·obtain⟨a,ea,e⟩:=gh e;obtain⟨b,eb,e⟩:=gh e;cases e
    have h1:kG a.l:=by
     unfold my at ea;split at ea
     ·unfold zm at ea;split at ea
      ·have:=R1 ea trivial;exact this
      ·split at ea
       ·have:=R1 ea trivial;exact this
       ·cases ea;trivial
     ·have:=R1 ea trivial;exact this
    have:=R1 eb (rL.2 ⟨hi,h1⟩);exact this
 |stmt o i=>
  simp only[aN,lG]at e;cases i with
  |none=>cases e;trivial
  |some i=>
   simp only at e;split at e
   ·have:=R1 e trivial;exact this
   ·split at e
    ·rename_i hx;have:=R1 e ⟨by decide,Lt.of (kC (by rw[hx];decide))⟩;exact this
    ·split at e
     ·rename_i hx;have aa:i<ts.length:=kC (by rw[hx];decide);obtain⟨a,ea,e⟩:=gh e;obtain⟨b,eb,e⟩:=gh e;cases e
      exact dS (dS (rG hN hX Vm (Lt.of aa) Vm) (R1 ea (by show (0:Nat)<=2;decide))) (R1 eb (by show (1:Nat)<=2;decide))
     ·split at e
      ·have:=R1 e (by show (0:Nat)<=2;decide);exact this
      ·split at e
       ·rename_i hx;have aa:i<ts.length:=kC (by rw[hx];decide);obtain⟨a,ea,e⟩:=gh e;cases e
        exact dS (rG hN hX Vm (Lt.of aa) Vm) (R1 ea (by show (0:Nat)<=2;decide))
       ·split at e
        ·rename_i hx;have aa:i<ts.length:=kC (by rcases hx with h|h<;>rw[h]<;>decide);obtain⟨a,ea,e⟩:=gh e;cases e
         exact dS (rG hN hX (by split<;>decide) (Lt.of aa) Vm) (R1 ea (by show (0:Nat)<=2;decide))
        ·obtain⟨b,eb,e⟩:=gh e;obtain⟨d,ed,e⟩:=gh e;cases e
         have:=R1 ed ⟨dS (mz hN hX _ Vm Vm) (R1 eb (by show (0:Nat)<=2;decide)),fun j k hj hk=>by cases hj;exact zq hk⟩;exact this
 |sCalls o i x l g=>
  simp only[aN,kS]at e;split at e
  ·rename_i i x;obtain⟨a,ea,e⟩:=gh e;cases e
   exact gZ (s:=0) (by first|exact hX _|(show (0:Nat)<_;decide)) Vm (hi.2 i x rfl rfl) hN Vm (R1 ea trivial)
  ·cases e;exact hi.1
 |branch o i slot=>
  simp only[aN,mB]at e;obtain⟨a,ea,e⟩:=gh e;obtain⟨b,eb,e⟩:=gh e;obtain⟨d,ed,e⟩:=gh e;cases e
  have:=R1 ed (dS (dS (rG hN hX Vm hi.2 hi.1) (R1 ea (by show (0:Nat)<=2;decide))) (R1 eb (by show (1:Nat)<=2;decide)));exact this
 |elses o x l out=>
  simp only[aN,pD]at e;cases x with
  |none=>cases e;exact hi
  |some j=>
   obtain⟨a,ea,e⟩:=gh e;obtain⟨b,eb,e⟩:=gh e;cases e
   have:=R1 eb ⟨dS hi (R1 ea (by show (2:Nat)<=2;decide)),Ca Vm⟩;exact this
 |ifs o y l out=>
  simp only[aN,Dt]at e;cases y with
  |none=>cases e;exact hi.1
  |some j=>
   simp only at e;split at e
   ·cases e;exact hi.1
   ·obtain⟨a,ea,e⟩:=gh e;cases e
    exact dS hi.1 (R1 ea ⟨by decide,hi.2⟩)
theorem yx:∀n x q,hQ c ts n x=some q->O4 ts.length x->kG q.l
 |0,x,q,e,_=>by cases e
 |n+1,x,q,e,h=>Ei hN hX (fun x q e h=>yx n x q e h) x q e h
end
theorem sd:∀(l:List Nd) (d:T),fX l->wL d l->MY l->(∀c,kG (pL c l))->kG l
 | [],_,_,_,_,_=>trivial
 |⟨k,t,o,s,ks,e⟩::l,d,ho,hw,hn,h=>by
  have key:∀c,e.at' c=true->ON ⟨k,t,o,s,pL c ks,tt⟩:=fun c hc=>by
   have:=h c;rw[bV,show (⟨k,t,o,s,ks,e⟩:Nd).cond=e from rfl,hc,SI rfl]at this;exact this.1
  obtain⟨c0,aa⟩:=T.some_of_ne ho.1.1 hn.1.1;refine⟨⟨(key c0 aa).1,sd ks e ho.1.2 hw.1.2 hn.1.2 fun c=>?_⟩,sd l d ho.2 hw.2 hn.2 fun c=>?_⟩
  ·cases hc:e.at' c with
   |true=>exact(key c hc).2
   |false=>rw[BC hw.1.2 hc];trivial
  ·have:=h c;rw[bV]at this;split at this
   ·exact this.2
   ·exact this
theorem Lu{ts:List Tok}(aa:bu ts)(hl:ts.length<=16384)(hX:∀i,(X ts i).length<4611686018427387904){w:T}(hw:w.ok 0)(ac:w≠ff){n:Nat}{r:bE}(e:run ts n (.seqL true 0 [(0,w)] [] [])=some r):kG (lI r):=by
 obtain⟨_,_,R0⟩:=gG aa hw ac e (fun _=>false);have hc:=(oP (c:=fun _=>false) R0.fok).1;obtain⟨a1,a2,a3,a4⟩:=ky r.l (fE r.f) hc R0.lok;refine⟨⟨⟨by decide,by decide,by decide,by decide,by decide,by show (0:Nat)<_;decide⟩,sd _ (fE r.f) a1 a2 (s5 _ _) fun c=>?_⟩,trivial⟩;rw[a4 c];split
 ·obtain⟨q,⟨m,hm⟩,R⟩:=gG aa hw ac e c;rw[R.l];exact yx hl hX m _ _ hm trivial
 ·trivial
theorem As{l:List Nd}(h:kG l)(k:nL):kG (cF l k):=iL.2 fun x hx=>by
 obtain⟨n,hn,_,_,hx⟩:=js hx;exact iL.1 (mH.1 (iL.1 h n hn)).2 x hx
end Syn
