import Derived.Test.YtfaclfkpnmcmlaaGreatDoorH09
import Derived.Test.YtfaclfkpnmcmlaaGreatDoorH19
import Derived.Test.YtfaclfkpnmcmlaaGreatDoorH21
import Derived.Test.YtfaclfkpnmcmlaaGreatDoorH22
import Derived.Test.YtfaclfkpnmcmlaaGreatDoorH24
import Derived.RangeFuncRecord
import Derived.RangeFuncSeq
import Derived.Below
import Derived.WalkKit
import Derived.TacticsInMore
import Derived.OwnWalkIn
set_option maxHeartbeats 8000000
set_option linter.all false
namespace Go.Proofs.YtfaclfkpnmcmlaaGreatDoor
open Go Go.Sx Dg Syn
structure It where
 kind:Nat
 text:bq
 cubes:List (Nat×Nat)
def LN(I:PH)(c:List Value)(x:It):Prop:=∃va,c=[.int .u8 x.kind,.string ⟨⟨x.text⟩⟩,va]/\Ch I va x.cubes
variable{x:It}{c:List Value}{I J:PH}
def LN.le(h:LN I c x)(k:I.le J):LN J c x:=by
 obtain⟨va,e,h⟩:=h;exact⟨va,e,Ch.le h k⟩
def LN.len(c:List Value)(x:It)(h:LN I c x):c.length=3:=by obtain⟨va,e,_⟩:=h;rw[e];rfl
abbrev Sw(I:PH)(v:Value)(l:List It):Prop:=Sl LN I v l
variable{l:List It}{v:Value}
def Sw.le(h:Sw I v l)(k:I.le J):Sw J v l:=Sl.le (R:=LN) (fun{I J c a} h k=>LN.le h k) h k
def eL(x:It):Tok:=⟨x.kind,x.text,mE x.cubes,true⟩
def W3(x:It):Prop:=x.cubes.length<2^40/\x.text.length<2^40
def U0(x:It):Nat:=1+x.cubes.length+x.text.length / 64
def RW(n0:Nat)(l:List It):Nat:=n0+(l.map U0).sum
def K2(n0:Nat)(l:List It)(x:It):RW n0 (l++[x])=RW n0 l+U0 x:=by
 unfold RW;rw[abP,List.sum_append];simp;omega
def Gp(n0:Nat):∀l:List It,l.length<=RW n0 l
 | []=>aaL _
 |x::l=>by
  have:=Gp n0 l;unfold RW at this |-;simp only[aaU,List.sum_cons,aaj];have:1<=U0 x:=by unfold U0;omega
  omega
def EF(vl vw:Value)(most:Nat)(x:Nat×Nat×Nat):St:=⟨dn 120 [(0,.v vl),(1,.v vw),(2,.v (iv most)),(6,.p 6 0),(7,.v (.slice none 0 0)),(8,.v (.int .u32 0)),(9,.v (.bool false)),(10,.v (.int .u32 x.2.1)),(11,.v (iv x.2.2)),(12,.p 12 0),(13,.v (iv x.1))],[⟨6,27,[.slice none 0 0,.slice none 0 0]⟩,⟨12,27,[.slice none 0 0,.slice none 0 0]⟩]⟩
def vE(vl:Value)(u:Nat)(x:Nat×Value×Value):St:=⟨dn 120 [(0,.v vl),(6,.p 6 0),(10,.v (.int .u32 u)),(12,.p 12 0),(14,.v x.2.2),(15,.v (iv x.1))],[⟨6,27,[.slice none 0 0,.slice none 0 0]⟩,⟨12,27,[x.2.1,.slice none 0 0]⟩]⟩
def fI(u:Nat)(I:PH)(c:List Value)(x:It):Prop:=∃pv ia,c=[.int .u8 x.kind,.string ⟨⟨x.text⟩⟩,pv,.int .i64 0,.int .i64 0,ia]/\Sx.one pv=true/\JF I ia (jE x.cubes u)
variable{u:Nat}
def fI.len(c:List Value)(x:It)(h:fI u I c x):c.length=6:=by obtain⟨pv,ia,e,_⟩:=h;rw[e];rfl
def fI.le(h:fI u I c x)(k:I.le J):fI u J c x:=by obtain⟨pv,ia,e,h1,h2⟩:=h;exact⟨pv,ia,e,h1,h2.le k⟩
def fI.ones(h:fI u I c x):c.all Sx.one=true:=by
 obtain⟨pv,ia,rfl,h1,a,b,rfl,_⟩:=h;simp only[List.all_cons,List.all_nil,h1,abv,Bool.true_and];rfl
abbrev NO(u:Nat)(I A:PH)(v:Value)(l:List It):Prop:=Ow (fI u) 136 6 I A v l
def NO.le{A:PH}(h:NO u I A v l)(k:I.le J):NO u J A v l:=Ow.le (R:=fI u) (fun{I J c a} h k=>fI.le h k) h k
def Xm(u:Nat)(l:List It)(I0:PH)(x:Nat×Value×Value)(H:PH):Prop:=∃I A B m,H=U [I,A,B]/\Dj [I,A,B]/\I0.le I/\x.1<=l.length/\yJ I A x.2.1 ((l.take x.1).map eL)/\NO u I B x.2.2 m/\m=l.take x.1
def VX(l:List It)(w:List (Nat×Nat))(most:Nat)(v:Value)(I2:PH):Prop:=
 (∃lv,v=.tuple #[lv,.slice none 0 0,.int .u32 0,.bool false]/\lv=.agg #[.slice none 0 0,.slice none 0 0])\/
 (∃lv a c u,v=.tuple #[lv,.slice a l.length c,.int .u32 (u:Nat),.bool true]/\uL I2 lv (l.map eL)/\l.length<400/\(∃a n k g,lv=.agg #[.slice a n k,g]/\n<=k)/\
  Sl (fI u) I2 (.slice a l.length c) l/\u<2^24/\qb w u/\(∀y∈l,qb y.cubes u)/\pR u 32<=most)
theorem Tl{vl vw:Value}{w:List (Nat×Nat)}{most:Nat}(hS:Sw I vl l)(hW:Ch I vw w)(hb:∀x∈l,W3 x)(hl:l.length<2^40)(hw:w.length<2^40)(hm:most<=8):aK Tryz.prog 16 #[vl,vw,iv most] I [] fun r I2 qs=>qs=[]/\VX l w most r I2:=by
 obtain⟨la,lc,rfl,_⟩:=id hS;obtain⟨wa,wc,rfl,_⟩:=id hW;intro hd;refine ah 120 Tryz.func16 fun w0=>?_
 try simp only[iv]
 refine aT ?_;refine WZ rfl LY (JZ (Ch.le hW (cP hd)) ab) fun v H2 hv=>?_;obtain⟨rfl,rfl⟩:=hv;refine aT ?_;apply dF (fun(x:Nat×Nat×Nat)=>l.length-x.1) (EF (.slice la l.length lc) (.slice wa w.length wc) most) (fun x H=>H=U [I]/\x.1<=l.length/\x.2.1<2^24/\x.2.2=RW w.length (l.take x.1)/\x.2.2<2^44/\qb w x.2.1/\∀y∈l.take x.1,qb y.cubes x.2.1) (fun x H=>H=U [I]/\x.2.1<2^24/\x.2.2<2^44/\(x.2.2<400->RW w.length l<400/\qb w x.2.1/\∀y∈l,qb y.cubes x.2.1)) (0,xR w,w.length)
 ·exact bM
 ·exact(by simp only[go_sem,aa6,EF])
 ·exact⟨rfl,aaL _,CD w,by simp[RW],by simp only;omega,zC w,fun y hy=>by simp at hy⟩
 ·rintro⟨i,u,n⟩ H ⟨rfl,hi,hu,hn,b5,b3,bx⟩ a3 a6;simp only at hi hu hn b5 b3 bx;simp only[EF];rcases aaf i l.length with b6|da
  ·have cj:decide ((i:Int)<(l.length:Int))=true:=abU ab;rcases aaf n 2000 with c7|c7
   ·have cB:decide ((n:Int)<2000)=true:=abU ab;have e1:IntKind.i64.wrap ((i:Int)+1)=((i+1:Nat):Int):=by rw[<-wrap64 (n:=i+1) ab];congr 1
    obtain⟨x,hx⟩:∃x,l[i]?=some x:=⟨_,aak b6⟩;obtain⟨b,off,cs,rfl,⟨va,rfl,hc⟩,am⟩:=Sl.load (fun{I} c a h=>LN.len c a h) hS hx;obtain⟨ca,cc,rfl,_⟩:=id hc;have c1:=am.get (i:=1) rfl;have c2:=am.get (i:=2) rfl;obtain⟨b1,b2⟩:=hb x (aaV hx);have e31:IntKind.i64.wrap ((n:Int)+1)=((n+1:Nat):Int):=by rw[<-wrap64 (n:=n+1) ab];congr 1
    have e38:IntKind.i64.wrap (((n+1:Nat):Int)+(x.cubes.length:Int))=((n+1+x.cubes.length:Nat):Int):=by rw[<-wrap64 (n:=n+1+x.cubes.length) ab];congr 1
    have e45:IntKind.i64.wrap ((x.text.length:Int).tdiv 64)=((x.text.length / 64:Nat):Int):=by
     have e:(x.text.length:Int).tdiv 64=((x.text.length / 64:Nat):Int):=by
      rw[Int.tdiv_eq_ediv_of_nonneg ab];rfl
     rw[e];exact wrap64 ab
    have e46:IntKind.i64.wrap (((n+1+x.cubes.length:Nat):Int)+((x.text.length / 64:Nat):Int))=((n+1+x.cubes.length+x.text.length / 64:Nat):Int):=by rw[<-wrap64 (n:=n+1+x.cubes.length+x.text.length / 64) ab];congr 1
    apply RG;simp only[go_sem,iv,cj,cB];refine eP [0,1,2,3,4,5,6,7,8,9,10,11,12,13,14,15,16,17] [6,13] [] ?_;apply au;simp only[go_sem,iv,e31]
    try refine⟨ab,?_⟩
    refine W7 (l:=[.slice ca x.cubes.length cc]) rfl (cellsU hd (.head _) (by simpa using c2)) (.inr ⟨Ky,rfl⟩) ?_;apply au;simp only[go_sem,iv,e31,e38]
    try refine⟨ab,?_⟩
    refine W7 (l:=[.string ⟨⟨x.text⟩⟩]) rfl (cellsU hd (.head _) (by simpa using c1)) (.inr ⟨tL,rfl⟩) ?_;apply au;simp only[go_sem,iv,bi,e31,e38,e45,e46];refine aw ?_;refine dP ?_
    try refine⟨ab,?_⟩
    refine XN (l:=[.slice ca x.cubes.length cc]) rfl (cellsU hd (.head _) (by simpa using c2)) (.inr ⟨Ky,rfl⟩) ?_;refine dP ?_;refine WZ rfl LY (JZ (Ch.le hc (cP hd)) ab) fun v H2 hv=>?_;obtain⟨rfl,rfl⟩:=hv;have c5:=CD x.cubes;have q1:=CN (a:=u) (b:=xR x.cubes) ab ab;apply RG;simp only[go_sem,iv,q1,e1];exact a3 (i+1,u|||xR x.cubes,n+1+x.cubes.length+x.text.length / 64) _ _ dt bM (by simp only[go_sem,aa6,EF]) ⟨rfl,b6,Nat.or_lt_two_pow hu c5,by simp only;rw[df hx,K2,<-hn];unfold U0;omega,by simp only;omega,b3.left _,fun y hy=>by
     simp only at hy |-;rw[df hx]at hy;rcases List.mem_append.1 hy with hy|hy
     ·exact(bx y hy).left _
     ·rw[List.mem_singleton]at hy;subst hy;exact(zC _).right _⟩
   ·have cB:decide ((n:Int)<2000)=false:=abT ab;apply bL 14;simp only[go_sem,iv,cj,cB];exact a6 (i,u,n) _ _ bM (by simp only[go_sem,aa6,EF]) ⟨rfl,hu,b5,fun h=>by simp only at h;omega⟩
  ·have:i=l.length:=by omega
   subst this;have cj:=Z6 l.length;rw[aaS]at hn bx;apply bL 14;simp only[go_sem,iv,cj];exact a6 (l.length,u,n) _ _ bM (by simp only[go_sem,aa6,EF]) ⟨rfl,hu,b5,fun h=>⟨by simp only at h;omega,b3,bx⟩⟩
 rintro⟨i,u,n⟩ H ⟨rfl,hu,b5,c3⟩;simp only at hu b5 c3;simp only[EF];rcases aaf n 400 with c4|c4
 rotate_left
 ·have cA:decide ((n:Int)>=400)=true:=abU ab;apply RG;simp only[go_sem,iv,cA];exact af rfl hd (r:=[.agg #[.slice none 0 0,.slice none 0 0],.slice none 0 0,.int .u32 0,.bool false]) (by simp only[Tryz.results16,go_sem,iv]) (abW _) ⟨rfl,.inl ⟨_,rfl,rfl⟩⟩
 have cA:decide ((n:Int)>=400)=false:=abT ab;obtain⟨c6,b3,bx⟩:=c3 c4;have c9:=Gp w.length l;apply RG;simp only[go_sem,iv,cA];refine WZ rfl SI (U2 (most:=most) ab) fun v H2 hv=>?_;obtain⟨rfl,rfl⟩:=hv;cases dc:decide (pR u 32<=most)
 ·refine dP ?_;exact af rfl hd (r:=[.agg #[.slice none 0 0,.slice none 0 0],.slice none 0 0,.int .u32 0,.bool false]) (by simp only[Tryz.results16,go_sem,iv]) (abW _) ⟨rfl,.inl ⟨_,rfl,rfl⟩⟩
 have a5:=abl dc;have b4:pR u 32<=8:=ZS a5 hm;have b0:u<2^32:=by omega
 refine dP ?_;refine aR hd fun dj=>?_;refine aR dj fun dd=>?_;refine aA (fun x=>l.length-x.1) (vE (.slice la l.length lc) u) (Xm u l I) (0,.slice none 0 0,.slice none 0 0) bM (by simp only[go_sem,aa6,vE]) ?_ ?_
 ·exact⟨I,_,_,[],rfl,dd,abW _,aaL _,Ow.nil _ _ _ _,Ow.nil _ _ _ _,by simp⟩
 rintro⟨j,va,vb⟩ H ⟨I1,A1,B1,m,rfl,cf,a7,hj,hA,hB,cb⟩ a3;simp only at hj hA hB cb;have ds:m.length=j:=by rw[cb,abF];omega
 simp only[vE];obtain⟨aa,ac,rfl⟩:=hA.shape;obtain⟨ba,bc,rfl⟩:=hB.shape;rcases aaf j l.length with b6|da
 ·have cy:decide ((j:Int)<(l.length:Int))=true:=abU ab;have e1:IntKind.i64.wrap ((j:Int)+1)=((j+1:Nat):Int):=by rw[<-wrap64 (n:=j+1) ab];congr 1
  obtain⟨x,hx⟩:∃x,l[j]?=some x:=⟨_,aak b6⟩;obtain⟨b,off,cs,rfl,⟨vc,rfl,hc⟩,am⟩:=Sl.load (fun{I} c a h=>LN.len c a h) (Sw.le hS a7) hx;obtain⟨ca,cc,rfl,_⟩:=id hc;have c0:=am.get (i:=0) rfl;have c1:=am.get (i:=1) rfl;have c2:=am.get (i:=2) rfl;obtain⟨b1,b2⟩:=hb x (aaV hx);have c8:((l.take j).map eL).length=j:=by simp;omega
  have hI:I1.le (U [I1,A1,B1]):=cP cf;apply RG;simp only[go_sem,iv,cy];apply EQ (fun(y:Value)=>vE (.slice (some ⟨b,off,none⟩) l.length lc) u (j,y,.slice ba m.length bc)) (fun y H=>∃I A B,H=U [I,A,B]/\Dj [I,A,B]/\I1.le I/\yJ I A y ((l.take (j+1)).map eL)/\NO u I B (.slice ba m.length bc) m)
  ·intro hg;have fin:∀{J A B:PH} {ua:Option Addr} {uc nb:Nat} {sv:Value} {za:Option Addr} {zk:Nat},I1.le J->yJ J A (.slice ua ((l.take j).map eL++[eL x]).length uc) ((l.take j).map eL++[eL x])->yJ J A (.slice ua ((l.take j).map eL++[eL x]).length uc) ((l.take (j+1)).map eL):=fun _ h=>by rw[df hx,abP];exact h
   refine zT mixed [0,1,2,3,4,5,6,7,8,9,10,11,12,14,15,16,17,18] 13 19 [20,21,22,23,24] [20,21,22,23,24] [] [] [6,11,18] [13,19,21] I1 rfl rfl ?_;apply mI;simp only[go_sem,iv]
   try refine⟨ab,?_⟩
   refine lB (l:=[.int .u8 x.kind]) rfl hI rfl rfl rfl (by simpa using c0) (.inr ⟨Uv,rfl⟩) ?_;apply mI;simp only[go_sem,iv]
   try refine⟨ab,?_⟩
   refine lB (l:=[.string ⟨⟨x.text⟩⟩]) rfl hI rfl rfl rfl (by simpa using c1) (.inr ⟨tL,rfl⟩) ?_;apply mI;simp only[go_sem,iv]
   try refine⟨ab,?_⟩
   refine lB (l:=[.slice ca x.cubes.length cc]) rfl hI rfl rfl rfl (by simpa using c2) (.inr ⟨Ky,rfl⟩) ?_;apply mI;simp only[go_sem,iv];refine wC ?_ ?_
   ·refine bj cf (by exact tz) rfl rfl rfl rfl rfl bg fun nb I4 a4 aj cl=>?_;refine dS ?_;refine DX a4 [0,1] rfl (fun _=>aj) rfl Lk (by rfl) (ps:=[]) (F:=[A1,B1]) rfl (Rl (Ch.le hc aj) ab) fun v1 I5 qs aS aq hq=>?_;obtain⟨rfl,hr⟩:=hq;simp only[Z3]at aS |-;obtain⟨za,zk,rfl⟩:=hr.shape2;refine lE ?_;refine bj aS (by exact IP) rfl rfl rfl rfl rfl bg fun kb I6 a1 ak a9=>?_;have a2:=abV aj (abV aq ak);have bs:Sl dz I6 (.slice (some ⟨kb,0,none⟩) 1 1) [eL x]:=⟨_,_,rfl,.inr ⟨kb,0,_,rfl,(az a9 (by simp[aD,Value.cells]) (by simp[aD,Value.cells,iv,sD,rD]):aP I6 kb 0 [.int .u8 x.kind,.string ⟨⟨x.text⟩⟩,.slice (some ⟨nb,0,none⟩) 1 1,.int .i64 0,.int .i64 0,sD za zk (mE x.cubes),rD (mE x.cubes)]),.one ⟨.slice (some ⟨nb,0,none⟩) 1 1,0,0,za,zk,by simp[eL,sD,rD,iv],rfl,hr.le ak⟩⟩⟩;refine dS ?_;refine fP (R:=dz) (xs:=(l.take j).map eL) (ys:=[eL x]) a1 (by exact IP) (yJ.le hA a2) bs (fun{I J c a} h k=>dz.le h k) (fun{I} c a h=>dz.len c a h) (fun{I} c a h=>dz.ones h) rfl rfl rfl rfl rfl rfl (by simp only[aaj,aaO];omega) (by simp only[aaj,aaO];unfold maxLen;omega) fun ua uc I7 A7 bb ao cr=>?_;refine dS ?_;refine aw ?_;have k7:=abV a2 ao;exact hg (.slice ua ((l.take j).map eL++[eL x]).length uc) _ _ ⟨I7,A7,B1,rfl,bb,k7,by rw[df hx,abP];exact cr,NO.le hB k7⟩ bM (by simp only[go_sem,aa6,vE])
   ·refine DX cf [0,1] rfl (fun _=>abW _) rfl Lk (by rfl) (ps:=[]) (F:=[A1,B1]) rfl (Rl hc ab) fun v1 I5 qs aS aq hq=>?_;obtain⟨rfl,hr⟩:=hq;simp only[Z3]at aS |-;obtain⟨za,zk,rfl⟩:=hr.shape2;refine lE ?_;refine bj aS (by exact tz) rfl rfl rfl rfl rfl bg fun nb I4 a4 aj cl=>?_;refine lE ?_;refine bj a4 (by exact IP) rfl rfl rfl rfl rfl bg fun kb I6 a1 ak a9=>?_;have a2:=abV aq (abV aj ak);have bs:Sl dz I6 (.slice (some ⟨kb,0,none⟩) 1 1) [eL x]:=⟨_,_,rfl,.inr ⟨kb,0,_,rfl,(az a9 (by simp[aD,Value.cells]) (by simp[aD,Value.cells,iv,sD,rD]):aP I6 kb 0 [.int .u8 x.kind,.string ⟨⟨x.text⟩⟩,.slice (some ⟨nb,0,none⟩) 1 1,.int .i64 0,.int .i64 0,sD za zk (mE x.cubes),rD (mE x.cubes)]),.one ⟨.slice (some ⟨nb,0,none⟩) 1 1,0,0,za,zk,by simp[eL,sD,rD,iv],rfl,hr.le (abV aj ak)⟩⟩⟩;refine dS ?_;refine fP (R:=dz) (xs:=(l.take j).map eL) (ys:=[eL x]) a1 (by exact IP) (yJ.le hA a2) bs (fun{I J c a} h k=>dz.le h k) (fun{I} c a h=>dz.len c a h) (fun{I} c a h=>dz.ones h) rfl rfl rfl rfl rfl rfl (by simp only[aaj,aaO];omega) (by simp only[aaj,aaO];unfold maxLen;omega) fun ua uc I7 A7 bb ao cr=>?_;refine dS ?_;refine aw ?_;have k7:=abV a2 ao;exact hg (.slice ua ((l.take j).map eL++[eL x]).length uc) _ _ ⟨I7,A7,B1,rfl,bb,k7,by rw[df hx,abP];exact cr,NO.le hB k7⟩ bM (by simp only[go_sem,aa6,vE])
  rintro va2 H ⟨I2,A2,B2,rfl,a4,an,cx,ci⟩;obtain⟨aa2,ac2,rfl⟩:=cx.shape;simp only[vE];have c0:=c0.le an;have c1:=c1.le an;have c2:=c2.le an;have hc:=Ch.le hc an;have hI:I2.le (U [I2,A2,B2]):=cP a4;refine dP ?_;apply EQ (fun(y:Value)=>vE (.slice (some ⟨b,off,none⟩) l.length lc) u (j,.slice aa2 ((l.take (j+1)).map eL).length ac2,y)) (fun y H=>∃I A B,H=U [I,A,B]/\Dj [I,A,B]/\I2.le I/\yJ I A (.slice aa2 ((l.take (j+1)).map eL).length ac2) ((l.take (j+1)).map eL)/\NO u I B y (m++[x]))
  ·intro hg;refine zT mixed [0,1,2,3,4,5,6,7,8,9,10,11,13,14,15,16,17,18] 12 19 [20,21,22,23] [20,21,22,23] [] [] [5,10,17] [12,19,21] I2 rfl rfl ?_;apply mI;simp only[go_sem,iv]
   try refine⟨ab,?_⟩
   refine lB (l:=[.int .u8 x.kind]) rfl hI rfl rfl rfl (by simpa using c0) (.inr ⟨Uv,rfl⟩) ?_;apply mI;simp only[go_sem,iv]
   try refine⟨ab,?_⟩
   refine lB (l:=[.string ⟨⟨x.text⟩⟩]) rfl hI rfl rfl rfl (by simpa using c1) (.inr ⟨tL,rfl⟩) ?_;apply mI;simp only[go_sem,iv]
   try refine⟨ab,?_⟩
   refine lB (l:=[.slice ca x.cubes.length cc]) rfl hI rfl rfl rfl (by simpa using c2) (.inr ⟨Ky,rfl⟩) ?_;apply mI;simp only[go_sem,iv];refine wC ?_ ?_
   ·refine bj a4 (by exact tz) rfl rfl rfl rfl rfl bg fun nb I4 aS aj cl=>?_;refine dS ?_;refine DX aS [0,1] rfl (fun _=>aj) rfl MP (by rfl) (ps:=[]) (F:=[A2,B2]) rfl (Gz (Ch.le hc aj) ab b0 b4) fun v1 I5 qs a1 aq hq=>?_;obtain⟨rfl,ht⟩:=hq;obtain⟨ta,tc,rfl,_⟩:=id ht;simp only[Z3]at a1 |-;refine dS ?_;refine bj a1 (by exact Iw) rfl rfl rfl rfl rfl bg fun kb I6 bb ak a9=>?_;have a2:=abV aj (abV aq ak);have bs:Sl (fI u) I6 (.slice (some ⟨kb,0,none⟩) 1 1) [x]:=⟨_,_,rfl,.inr ⟨kb,0,_,rfl,(az a9 (by simp[aD,Value.cells]) (by simp[aD,Value.cells,iv]):aP I6 kb 0 [.int .u8 x.kind,.string ⟨⟨x.text⟩⟩,.slice (some ⟨nb,0,none⟩) 1 1,.int .i64 0,.int .i64 0,.slice ta (jE x.cubes u).length tc]),.one ⟨.slice (some ⟨nb,0,none⟩) 1 1,_,rfl,rfl,ht.le ak⟩⟩⟩;refine dS ?_;refine nI bb [1,0] fun cn=>?_;refine fP (R:=fI u) (xs:=m) (ys:=[x]) cn (by exact Iw) (NO.le ci a2) bs (fun{I J c a} h k=>fI.le h k) (fun{I} c a h=>fI.len c a h) (fun{I} c a h=>fI.ones h) rfl rfl rfl rfl rfl rfl (by simp only[aaj,aaO];omega) (by simp only[aaj,aaO];unfold maxLen;omega) fun ua uc I7 B7 cm ao cp=>?_;refine dS ?_;refine nI cm [1,0] fun bd=>?_;refine aw ?_;have k7:=abV a2 ao;exact hg (.slice ua (m++[x]).length uc) _ _ ⟨I7,A2,B7,rfl,bd,k7,yJ.le cx k7,cp⟩ bM (by simp only[go_sem,aa6,vE])
   ·refine DX a4 [0,1] rfl (fun _=>abW _) rfl MP (by rfl) (ps:=[]) (F:=[A2,B2]) rfl (Gz hc ab b0 b4) fun v1 I5 qs a1 aq hq=>?_;obtain⟨rfl,ht⟩:=hq;obtain⟨ta,tc,rfl,_⟩:=id ht;simp only[Z3]at a1 |-;refine dS ?_;refine bj a1 (by exact tz) rfl rfl rfl rfl rfl bg fun nb I4 aS aj cl=>?_;refine dS ?_;refine bj aS (by exact Iw) rfl rfl rfl rfl rfl bg fun kb I6 bb ak a9=>?_;have a2:=abV aq (abV aj ak);have bs:Sl (fI u) I6 (.slice (some ⟨kb,0,none⟩) 1 1) [x]:=⟨_,_,rfl,.inr ⟨kb,0,_,rfl,(az a9 (by simp[aD,Value.cells]) (by simp[aD,Value.cells,iv]):aP I6 kb 0 [.int .u8 x.kind,.string ⟨⟨x.text⟩⟩,.slice (some ⟨nb,0,none⟩) 1 1,.int .i64 0,.int .i64 0,.slice ta (jE x.cubes u).length tc]),.one ⟨.slice (some ⟨nb,0,none⟩) 1 1,_,rfl,rfl,ht.le (abV aj ak)⟩⟩⟩;refine dS ?_;refine nI bb [1,0] fun cn=>?_;refine fP (R:=fI u) (xs:=m) (ys:=[x]) cn (by exact Iw) (NO.le ci a2) bs (fun{I J c a} h k=>fI.le h k) (fun{I} c a h=>fI.len c a h) (fun{I} c a h=>fI.ones h) rfl rfl rfl rfl rfl rfl (by simp only[aaj,aaO];omega) (by simp only[aaj,aaO];unfold maxLen;omega) fun ua uc I7 B7 cm ao cp=>?_;refine dS ?_;refine nI cm [1,0] fun bd=>?_;refine aw ?_;have k7:=abV a2 ao;exact hg (.slice ua (m++[x]).length uc) _ _ ⟨I7,A2,B7,rfl,bd,k7,yJ.le cx k7,cp⟩ bM (by simp only[go_sem,aa6,vE])
  rintro vb2 H ⟨I3,A3,B3,rfl,aS,a0,ct,dk⟩;simp only[vE];apply RG;simp only[go_sem,iv,e1];exact a3 (j+1,.slice aa2 ((l.take (j+1)).map eL).length ac2,vb2) _ _ dt bM (by simp only[go_sem,aa6,vE]) ⟨I3,A3,B3,m++[x],rfl,aS,abV a7 (abV an a0),b6,ct,dk,by simp only;rw[df hx,<-cb]⟩
 ·have:j=l.length:=by omega
  subst this;have cy:=Z6 l.length;rw[aaS]at hA cb |-;subst m;refine bf cf [1,0] fun a4=>?_;refine bf a4 [0,1] fun aS=>?_;refine ae (c:=.st _) aS fun I2 aS an ci=>?_;refine bf aS [0] fun a1=>?_;refine ae (c:=.st _) a1 fun I3 a1 a0 ct=>?_;apply RG;simp only[go_sem,iv,cy];refine af rfl a1 (r:=[.agg #[.slice aa (l.map eL).length ac,.slice none 0 0],.slice ba l.length bc,.int .u32 u,.bool true]) (by simp only[Tryz.results16,go_sem,iv]) (abV a7 (abV an a0)) ⟨rfl,.inr ⟨_,_,_,u,rfl,⟨⟨_,_,_,_,rfl,Ow.sl (R:=dz) (fun{I J c a} h k=>dz.le h k) (yJ.le hA an) a0 ct⟩,?_,?_,?_⟩,ab,⟨_,_,_,_,rfl,hA.cap (fun c a h=>dz.len c a h)⟩,?_,hu,b3,bx,a5⟩⟩
  ·intro t ht;obtain⟨y,hy,rfl⟩:=List.mem_map.1 ht;exact Ju y.cubes
  ·rw[aah];omega
  ·intro t ht;obtain⟨y,hy,rfl⟩:=List.mem_map.1 ht;exact(hb y hy).2
  ·exact Ow.sl (R:=fI u) (fun{I J c a} h k=>fI.le h k) hB (abV an a0) (abV ci a0)
def ab4(c:bP):∀k:Nat,∃n:Nat,∀i,n.testBit i=(decide (i<k) && c i)
 |0=>⟨0,fun i=>by simp⟩
 |k+1=>by
  obtain⟨n,hn⟩:=ab4 c k;cases hc:c k with
  |true=>
   refine⟨n|||2^k,fun i=>?_⟩;rw[Nat.testBit_or,hn,Nat.testBit_two_pow];by_cases e:k=i
   ·subst e;simp[hc]
   ·rw[show decide (i<k+1)=decide (i<k) by rw[decide_eq_decide];omega];simp[e]
  |false=>
   refine⟨n,fun i=>?_⟩;rw[hn];by_cases e:k=i
   ·subst e;simp[hc]
   ·rw[show decide (i<k+1)=decide (i<k) by rw[decide_eq_decide];omega]
def O5(hu:u<2^24)(hs:∀y∈l,qb y.cubes u)(c:bP):∃c'∈(eY u 32).map ch,∀x∈(l.map eL).map refit,x.cond.at' c=x.cond.at' c':=by
 obtain⟨n,hn⟩:=ab4 c 24;have h1:=y9 u n 32;rw[Nat.mod_eq_of_lt (abr Nat.and_le_right ab)]at h1;refine⟨_,List.mem_map_of_mem h1,fun x hx=>?_⟩;rw[aas]at hx;obtain⟨y,hy,rfl⟩:=List.mem_map.1 hx;show (mE y.cubes).at' c=(mE y.cubes).at' (ch (n&&&u));rw[JC,Q9 (hs y hy),<-JC];exact T.at_cut (Ju _) fun i hi=>by show c i=n.testBit i;rw[hn];simp[hi]
end Go.Proofs.YtfaclfkpnmcmlaaGreatDoor
namespace Go.Sx
open Go
def R4{P:Program}{Q:Exit->Act->World->Prop}{K:Act->World->Prop}{ops:Array Oper}{i:Nat}{rest:List Nat}{b:Frame}{k:List Item}{cs:List Frame}{a:Act}{w:World}(hQ:∀e a w,e≠Exit.normal->¬Q e a w)(h:wpOp P ops Q i K a w):
  ∃a' w',K a' w'/\Steps P (lone (b.at a (.inRegion ops (i::rest)::k)) cs w) (lone (b.at a' (.inRegion ops rest::k)) cs w'):=by
 unfold wpOp at h;cases ho:ops[i]? with
 |none=>
  simp only[ho]at h;have hs:=step_op_skip (P:=P) (b:=b) (a:=a) (k:=k) (cs:=cs) (w:=w) (ops:=ops) (i:=i) (rest:=rest) (by simp[ho]);simp only[ho,Option.bind_none,Act.put]at hs;exact⟨a,w,h,.one hs⟩
 |some o=>
  simp only[ho]at h;by_cases hw:Region.wanted o (yielded ops a.tmps)=true
  ·simp only[hw,ZT]at h;rcases h with h|⟨_,a₀,w₀,hq⟩
   case inr=>exact absurd hq (hQ _ _ _ (by simp))
   simp only[Oper.wp,Oper.upon]at h;have hg:=stepG_op (P:=P) (b:=b) (k:=k) (cs:=cs) (w:=w) (rest:=rest) ho hw;have aj:∀v,(b.at a (.inRegion ops (i::rest)::k)).finish v=b.at (a.put o.dst v) (.inRegion ops rest::k):=by
    intro v;rw[Frame.finish_at,ho];rfl
   split at h
   ·rename_i v w' hr;refine⟨_,_,h,.one (step_lone_go ?_)⟩;rw[hg,<-aj];simp[stepG.apply,hr]
   ·rename_i w' hr;refine⟨_,_,h,.one (step_lone_go ?_)⟩;rw[hg,<-aj];simp[stepG.apply,hr]
   ·rename_i d w' hr;refine⟨_,_,h,.one (step_lone_go ?_)⟩;have:({ b.at a (.inRegion ops (i::rest)::k)with defers:=d::a.defers }:Frame).finish undef =
      b.at ({ a with defers:=d::a.defers }.put o.dst undef) (.inRegion ops rest::k):=by
     have:=Frame.finish_at b { a with defers:=d::a.defers } ops i rest k undef;rw[ho]at this;exact this
    rw[hg];simp only[stepG.apply,Sem.runT_eq,hr,GStep.bare_after];exact congrArg (fun fr=>GStep.go { frame:=fr,callers:=cs,status:=.running,dying:=none } w') this
   ·rename_i f args w' hr;obtain⟨e,w'',fr,hR,aa,_,ak⟩:=h (b.at a (.inRegion ops (i::rest)::k)::cs);have ac:step P (lone (b.at a (.inRegion ops (i::rest)::k)) cs w) =
      .next (lone (Frame.enter P f args .normal) (b.at a (.inRegion ops (i::rest)::k)::cs) w'):=
     step_lone_go (by rw[hg];simp[stepG.apply,hr,Frame.at])
    cases e with
    |returned v=>
     refine⟨_,_,hR,.head ac (aa.trans (.one ?_))⟩;rw[<-aj];exact step_leave_returned ak
    |panicked chain=>exact absurd hR (hQ _ _ _ (by simp))
    |outgrown=>
     obtain⟨a₀,w₀,hq⟩:=hR;exact absurd hq (hQ _ _ _ (by simp))
   ·rename_i row args w' hr;obtain⟨v,w'',hR,aa⟩:=h (b.at a (.inRegion ops (i::rest)::k)) cs;have ac:step P (lone (b.at a (.inRegion ops (i::rest)::k)) cs w) =
      .next (lone (Frame.ofRow P row args .normal) (b.at a (.inRegion ops (i::rest)::k)::cs) w'):=
     step_lone_go (by rw[hg];simp[stepG.apply,hr,Frame.at])
    refine⟨_,_,hR,.head ac ?_⟩;rw[<-aj];exact aa
   ·exact absurd h (hQ _ _ _ (by simp))
   ·exact h.elim
  ·simp only[hw,Z2,aa5]at h;have hs:=step_op_skip (P:=P) (b:=b) (a:=a) (k:=k) (cs:=cs) (w:=w) (ops:=ops) (i:=i) (rest:=rest)
    (by simp[ho];simpa using hw)
   simp only[ho,jO]at hs;exact⟨_,_,h,.one hs⟩
section
variable {C:Cx} {k:List Item} {σ:St} {H:PH}
variable{ops:Array Oper}
def acJ{i:Nat}{rest:List Nat}{o:Oper}(ho:ops[i]?=some o)(h:CV C.P ops.toList o (R C (.inRegion ops rest::k)) σ H):R C (.inRegion ops (i::rest)::k) σ H:=by
 intro w a cs s g;have h1:=mp (KQ:=fun _ _=>False) (K':=fun a w=>∃σ H,R C (.inRegion ops rest::k) σ H/\dM C.H0 C.w0 H w/\G C.w0.heap.size σ H a w) ho rfl (fun σ H a w hk hs hg=>⟨σ,H,hk,hs,hg⟩) h s g;obtain⟨a',w',⟨σ',H',hr,s',g'⟩,hs⟩:=R4 (b:=qg C.f) (rest:=rest) (k:=k) (cs:=cs) (fun e a w he hq=>by cases e<;>first|exact he rfl|exact hq) h1;obtain⟨e,w2,fr,h1,h2,h3,h4⟩:=hr w' a' cs s' g';exact⟨e,w2,fr,h1,.of_steps hs h2,h3,h4⟩
def CV.imp{P:Program}{ol:List Oper}{o:Oper}{K K':St->PH->Prop}(hk:∀σ H,K σ H->K' σ H)(h:CV P ol o K σ H):CV P ol o K' σ H:=by
 rcases h with ⟨a,b⟩|⟨a,b⟩
 ·exact .inl ⟨a,hk _ _ b⟩
 ·refine .inr ⟨a,?_⟩;rcases b with ⟨sv,b,c⟩|⟨d,T,cs,b,c,e⟩|⟨x,off,cs,b,c⟩|⟨b,c⟩
  ·exact .inl ⟨sv,b,hk _ _ c⟩
  ·exact .inr (.inl ⟨d,T,cs,b,c,hk _ _ e⟩)
  ·exact .inr (.inr (.inl ⟨x,off,cs,b,hk _ _ c⟩))
  ·exact .inr (.inr (.inr ⟨b,c.mono fun sv H2 hh=>hk _ _ hh⟩))
def J3{ops:Array Oper}{l2:List Nat}:∀(l:List Oper) (n:Nat) {σ:St} {H:PH},(∀j o,l[j]?=some o->ops[n+j]?=some o)->V2 C.P ops.toList (R C (.inRegion ops l2::k)) l σ H->R C (.inRegion ops (List.range' n l.length++l2)::k) σ H
 | [],n,σ,H,_,h=>h
 |o::l,n,σ,H,hl,h=>by
  rw[aaj,List.range'_succ,aaz];refine acJ (hl 0 o rfl) (CV.imp (fun σ H h=>J3 l (n+1) (fun j o' hj=>?_) h) h);have:=hl (j+1) o' (by simpa using hj);rw[<-this];congr 1;omega
def PE(h:R C k σ H):R C (.inRegion ops []::k) σ H:=oo h fun _ _ _ _=>step_region_end
def Ov{P:Program}{ol:List Oper}{K K':St->PH->Prop}(hk:∀σ H,K σ H->K' σ H):∀(l:List Oper) {σ:St} {H:PH},V2 P ol K l σ H->V2 P ol K' l σ H
 | [],_,_,h=>hk _ _ h
 |_::l,_,_,h=>CV.imp (fun _ _ h=>Ov hk l h) h
def JQ{id:Nat}(h:R C (.inRegion ops (List.range ops.size)::k) σ H):R C (.code (.region id ops false)::k) σ H:=oo h fun _ _ _ _=>step_region
end
section
variable {C:Cx} {k:List Item} {σ:St} {H:PH}
variable{ops:Array Oper}
def SU(n:Nat)(l2:List Nat){id:Nat}(hn:n<=ops.size)(he:List.range ops.size=List.range' 0 n++l2)(h:RC C (.op ops.toList (ops.toList.take n) (.inRegion ops l2::k)) σ H):RC C (.st (.code (.region id ops false)::k)) σ H:=by
 refine JQ ?_;rw[he];have hl:(ops.toList.take n).length=n:=by rw[abF,hZ];omega
 have:=J3 (C:=C) (k:=k) (l2:=l2) (ops.toList.take n) 0 (fun j o hj=>by
  rw[ZZ,<-Array.getElem?_toList];rw[Z0]at hj;split at hj
  ·exact hj
  ·cases hj) h
 rwa [hl]at this
def SA(n m:Nat)(hn:n+m=ops.size)(h:RC C (.op ops.toList (ops.toList.drop n) k) σ H):RC C (.st (.inRegion ops (List.range' n m)::k)) σ H:=by
 have hl:(ops.toList.drop n).length=m:=by rw[abD,hZ];omega
 have:=J3 (C:=C) (k:=k) (l2:=[]) (ops.toList.drop n) n (fun j o hj=>by
  rw[<-Array.getElem?_toList];rw[Z1]at hj;exact hj) (Ov (fun _ _ h=>PE h) _ h)
 rwa [hl,aa6]at this
end
def UG(P:Program)(l:Nat)(args:Array Value)(H:PH)(Φ:Value->PH->Prop):Prop:=
 ∀w,Sub H w->YieldAt Fence.wide 0 P l args w fun e w2=>match e with
  | .returned v=>∃H2,dM H w H2 w2/\Φ v H2
  |_=>False
variable{Φ:Value->PH->Prop}{args:Array Value}{l:Nat}
def UG.imp{P:Program}{H:PH}{Ψ:Value->PH->Prop}(h:UG P l args H Φ)(k:∀v H2,Φ v H2->Ψ v H2):UG P l args H Ψ:=fun w s=>by
 obtain⟨fn,tm,a,b,h1,h2⟩:=h w s;refine⟨fn,tm,a,b,h1,h2.mono fun e w2 he=>?_⟩;cases e with
 |returned v=>obtain⟨H2,x,y⟩:=he;exact⟨H2,x,k _ _ y⟩
 |panicked c=>exact he
 |outgrown=>exact he
def UG.frame{P:Program}{A F:PH}(hd:A.disj F)(h:UG P l args A Φ):UG P l args (A.uni F) fun v H2=>∃A2,H2=A2.uni F/\A2.disj F/\Φ v A2:=fun w s=>by
 obtain⟨fn,tm,a,b,h1,h2⟩:=h w (s.of_le (PH.le_uni A F));refine⟨fn,tm,a,b,h1,h2.mono fun e w2 he=>?_⟩;cases e with
 |outgrown=>exact he
 |panicked c=>exact he
 |returned v=>
  obtain⟨A2,st,hp⟩:=he;have inF:∀b o,F b=some o->w.heap[b]?=some o/\A b=none:=fun b o hb=>⟨s _ _ ((PH.uni_some hd).2 (.inr hb)),hd.symm.left hb⟩;have aa:A2.disj F:=fun b=>by
   cases hF:F b with
   |none=>exact .inr rfl
   |some o=>obtain⟨h1,h2⟩:=inF b o hF;exact .inl (st.dom b (eO h1) h2)
  refine⟨A2.uni F,⟨fun b o hb=>?_,st.size,fun b hb hn=>st.priv b hb (PH.uni_none.1 hn).1,fun b hb hn=>PH.uni_none.2 ⟨st.dom b hb (PH.uni_none.1 hn).1,(PH.uni_none.1 hn).2⟩,st.os,st.tape,st.out⟩,A2,rfl,aa,hp⟩;rcases(PH.uni_some aa).1 hb with e|e
  ·exact st.sub _ _ e
  ·obtain⟨h1,h2⟩:=inF b o e;rw[st.priv b (eO h1) h2];exact h1
def N0(P:Program)(l:Nat)(args:Array Value)(I:PH)(ps:List PH)(Ψ:Value->PH->List PH->Prop):Prop:=
 Dj (I::ps)->UG P l args (U (I::ps)) fun v H2=>∃I2 qs,H2=U (I2::qs)/\Dj (I2::qs)/\I.le I2/\Ψ v I2 qs
def N0.frame{P:Program}{I:PH}{ps F:List PH}{Ψ:Value->PH->List PH->Prop}(h:N0 P l args I ps Ψ)(hd:Dj (I::ps++F)):
  UG P l args (U (I::ps++F)) fun v H2=>∃I2 qs,H2=U (I2::qs++F)/\Dj (I2::qs++F)/\I.le I2/\Ψ v I2 qs:=by
 obtain⟨d1,d2,d3⟩:=o3.1 hd;rw[zX];refine((h d1).frame d3).imp fun v H2 ⟨A2,e,dd,I2,qs,a,b,c,d⟩=>?_;subst a;exact⟨I2,qs,by rw[e,zX],o3.2 ⟨b,d2,dd⟩,c,d⟩
section
variable {C:Cx} {k:List Item} {σ:St} {H:PH}
variable{vs:List Value}{ts:Array TypeId}{aq:Array Operand}{x:Operand}{rest:List Nat}{ops:Array Oper}
def TR{i:Nat}{o:Oper}{l:Nat}{Φ:Value->PH->Prop}(ho:ops[i]?=some o)(hw:aH ops.toList σ o=some true)(ao:o.op=.call ⟨.value x,aq,ts⟩)
  (hx:ev σ x=.v (.func (.yield l) #[] #[])) (ha:j8 (ev σ) aq.toList=some vs) (h:UG C.P l vs.toArray H Φ) (hk:∀v H2,Φ v H2->R C (.inRegion ops rest::k) (σ.put o.dst (.v v)) H2):R C (.inRegion ops (i::rest)::k) σ H:=by
 intro w a cs s g;obtain⟨β,g⟩:=g;have am:∀(l:List Operand) (r:List Value),j8 (ev σ) l=some r->l.map (bN σ)=r/\∀y∈l,ul (ev σ y)=true:=by
  intro l
  induction l with
  |nil=>intro r h;cases h;exact⟨rfl,fun y hy=>(aaB hy).elim⟩
  |cons y l ih=>
   intro r h;simp only[j8]at h;split at h
   ·rename_i v r' hv hr;cases h
    obtain⟨h1,h2⟩:=ih _ hr;refine⟨by simp[bN,hv,h1],fun z hz=>?_⟩;rcases List.mem_cons.1 hz with rfl|hz
    ·rw[hv];rfl
    ·exact h2 z hz
   ·cases h
 obtain⟨h1,h2⟩:=am _ _ ha;have a0:bh σ o.op=true:=by
  simp only[bh,ao,fT,Op.operands,Call.operands,Bool.true_and,aap];intro y hy;simp at hy;rcases hy with rfl|hy
  ·rw[hx];rfl
  ·exact h2 y (by simpa using hy)
 have ac:aq.map (bN σ)=vs.toArray:=by rw[<-aaa];simpa using h1
 have a1:bN σ x=.func (.yield l) #[] #[]:=by simp[bN,hx]
 obtain⟨fn,tmps,assign,body,hy,hR⟩:=h w s.sub;have aj:(execOp a.eval o).run C.P w=.ok (.round l fn tmps assign body) w:=by
  rw[<-yz g a0];simp only[execOp,ao,resolve,ac,a1,Deferred.ofValue,ZY];simp[Result.andThen,invoke,hy]
 have aS:Region.wanted o (yielded ops a.tmps)=true:=by have:=rf g hw;exact this
 have hg:=stepG_op (P:=C.P) (b:=qg C.f) (k:=k) (cs:=cs) (w:=w) (rest:=rest) ho aS;have ak:∀v,((qg C.f).at a (.inRegion ops (i::rest)::k)).finish v=(qg C.f).at (a.put o.dst v) (.inRegion ops rest::k):=by
  intro v;rw[Frame.finish_at,ho];rfl
 have aa:step C.P (lone ((qg C.f).at a (.inRegion ops (i::rest)::k)) cs w) =
   .next (lone (Frame.round l fn tmps assign body .normal) ((qg C.f).at a (.inRegion ops (i::rest)::k)::cs) w):=
  step_lone_go (by rw[hg];simp[stepG.apply,aj,Frame.at])
 obtain⟨e,w',hr,hs⟩:=hR.2 ((qg C.f).at a (.inRegion ops (i::rest)::k)) cs (room_wide _);cases e with
 |panicked c=>exact hr.elim
 |outgrown=>exact hr.elim
 |returned v=>
  obtain⟨H2,st,hp⟩:=hr;have an:=StepsIn.steps hs;simp only[ak]at an;obtain⟨e,w2,fr,h1,h2,h3,h4⟩:=hk v H2 hp w' (a.put o.dst v) cs (s.trans st) ⟨β,(g.step st).put o.dst rfl⟩;exact⟨e,w2,fr,h1,.of_steps (.head aa an) h2,h3,h4⟩
def Qd{i:Nat}{o:Oper}{tl:List Oper}{y:Nat}{I:PH}{l ps F:List PH}{Ψ:Value->PH->List PH->Prop}(hd:Dj (I::l))(is:List Nat)(ho:ops.toList.drop i=o::tl)(hw:aH ops.toList σ o=some true)(aa:o.op=.call ⟨.value x,aq,ts⟩)
  (hx:ev σ x=.v (.func (.yield y) #[] #[])) (ha:j8 (ev σ) aq.toList=some vs) (hi:is.isPerm (List.range l.length)=true) (hl:vG l is=ps++F) (h:N0 C.P y vs.toArray I ps Ψ)
  (hk:∀v I2 qs,Dj (I2::qs++F)->I.le I2->Ψ v I2 qs->RC C (.st (.inRegion ops rest::k)) (σ.put o.dst (.v v)) (U (I2::qs++F))):RC C (.st (.inRegion ops (i::rest)::k)) σ (U (I::l)):=by
 obtain⟨e,d⟩:=oz ((o5 hi).cons I) hd;rw[hl]at e d;rw[e];have ho:ops[i]?=some o:=by
  have h0:(ops.toList.drop i)[0]?=some o:=by rw[ho];rfl
  rw[Z1,acS,Array.getElem?_toList]at h0;exact h0
 exact TR ho hw aa hx ha (h.frame d) fun v H2 ⟨I2,qs,a,b,c,d⟩=>by subst a;exact hk v I2 qs b c d
end
end Go.Sx
namespace Go.Proofs.YtfaclfkpnmcmlaaGreatDoor
open Go Go.Sx Dg Syn
def Qb:aO Tryz.prog 26:=⟨_,Tryz.func26,rfl,rfl⟩
def Lg:aO Tryz.prog 142:=⟨_,Tryz.func142,rfl,rfl⟩
def Td:aO Tryz.prog 103:=⟨_,Tryz.func103,rfl,rfl⟩
theorem acB:Tryz.prog.underlying 81=some (.slice 3):=by kernel_rfl
abbrev T8(I:PH)(v:Value)(l:List Nat):Prop:=Sl NQ I v l
variable{I:PH}
def T8.le{J:PH}{v:Value}{l:List Nat}(h:T8 I v l)(k:I.le J):T8 J v l:=Sl.le (R:=NQ) (fun{I J c a} h k=>h) h k
def NQ.len(c:List Value)(x:Nat)(h:NQ I c x):c.length=1:=by rw[show c=_ from h];rfl
def NQ.ones{c:List Value}{x:Nat}(h:NQ I c x):c.all Sx.one=true:=by rw[show c=_ from h];rfl
def Px{vf:Value}{f:List Nat}(hf:T8 I vf f)(hl:f.length<2^42):aK Tryz.prog 103 #[vf] I [] fun v I2 qs=>∃A,qs=[A]/\Ue I2 A v f:=by
 intro hd;obtain⟨fa,fc,rfl,ak⟩:=id hf;refine ah 8 Tryz.func103 fun w0=>?_;cases fa with
 |none=>
  have am:f=[]:=by
   rcases ak with h|⟨b,off,xs,e,_⟩
   ·exact h
   ·cases e
  subst am;refine aT ?_;refine nG rfl rfl (by exact acB) rfl rfl ?_;apply RG;simp only[go_sem,Option.isNone];refine aR hd fun aj=>?_;exact af rfl aj (r:=[_]) rfl (abW _) ⟨_,rfl,Ow.nil _ _ _ _⟩
 |some a=>
  refine aT ?_;refine nG rfl rfl (by exact acB) rfl rfl ?_;apply RG;simp only[go_sem,Option.isNone];refine fx hd (by exact tz) rfl rfl rfl rfl rfl bg fun b A aj aa=>?_;refine aT ?_;refine bl aj (by exact tz) (xs:=([]:List Nat)) (R:=NQ) ⟨[],aa,rfl⟩ hf (fun{I J c a} h k=>h) (fun{I} c a h=>NQ.len (I:=I) c a h) (fun{I} c a h=>NQ.ones (I:=I) h) rfl rfl rfl rfl (by simp only[aaO];omega) (by simp only[aaO];unfold maxLen;omega) fun a2 c2 I2 A2 an ac ao=>?_;apply RG;simp only[go_sem,aaA];exact af rfl an (r:=[_]) rfl ac ⟨_,rfl,ao⟩
def Cnt(lp:Nat)(S:Nat->Nat->PH):Prop:=∀{J:PH} {n d k c:Nat} {a:Option Addr} {v:Value},n<2^60->k<2^60->d<2^60->N0 Tryz.prog lp #[.slice a k c,v] J [S n d] fun r I2 qs=>r=.bool true/\I2=J/\qs=[S (n+1) (max d k)]
def wkS(vl vp y:Value)(n i:Nat):St:=⟨dn 36 [(1,.v vp),(2,.v y),(6,.v (.bool false)),(10,.v vl),(11,.v (iv n)),(12,.v (iv i))],[]⟩
def wkQ(S:Nat->Nat->PH)(l:List Nd)(k n d:Nat)(I0:PH)(i:Nat)(H:PH):Prop:=∃I,H=U [I,S (n+du (l.take i)) (max d (k+gJ (l.take i)))]/\Dj [I,S (n+du (l.take i)) (max d (k+gJ (l.take i)))]/\I0.le I/\i<=l.length
theorem ab5{lp:Nat}{S:Nat->Nat->PH}(hY:Cnt lp S):∀(m:Nat) {I:PH} {v vp:Value} {l:List Nd} {p:List Nat} {n d:Nat},du l<m->eE I v l->sB v->T8 I vp p->n+du l<2^50->p.length+du l<2^42->p.length<=d->d<2^50->
  aK Tryz.prog 142 #[v,vp,.func (.yield lp) #[] #[]] I [S n d] fun r _ qs=>r=.bool true/\qs=[S (n+du l) (max d (p.length+gJ l))]:=by
 intro m
 induction m with
 |zero=>intro I v vp l p n d hm;omega
 |succ m ih=>
 intro I v vp l p n d hm hS hC hP hn hp a6 bx hd;obtain⟨va,vc,rfl,_⟩:=id hS;obtain⟨qa,qc,rfl,_⟩:=id hP;refine ah 36 Tryz.func142 fun w0=>?_
 try simp only[iv]
 refine aT ?_;refine aA (fun i=>l.length-i) (wkS (.slice va l.length vc) (.slice qa p.length qc) (.func (.yield lp) #[] #[]) l.length) (wkQ S l p.length n d I) 0 bM (by simp only[go_sem,aa6,wkS]) ?_ ?_
 ·exact⟨I,by simp[dJ,gJ,Nat.max_eq_left a6],by simpa[dJ,gJ,Nat.max_eq_left a6]using hd,abW _,aaL _⟩
 rintro i H ⟨I1,rfl,ao,aa,hi⟩ aj;simp only[wkS];rcases aaf i l.length with aq|cj
 ·have a4:decide ((i:Int)<(l.length:Int))=true:=by simp;omega
  have cb:=we hC aq;obtain⟨x,hx⟩:∃x,l[i]?=some x:=⟨_,aak aq⟩;obtain⟨b,off,cs,rfl,b3,an⟩:=Sl.load bm.len (eE.le hS aa) hx;obtain⟨vk,na,nk,rfl,bb,ac,a3⟩:=b3.shape;obtain⟨ka,kc,rfl,_⟩:=id ac;have cc:=oG (aaV hx);have cl:=kB _ l (aba _);have cf:du (l.take (i+1))=du (l.take i)+(du x.kids+1):=by rw[db hx,io,bp,dJ]
  have ci:du (l.take (i+1))<=du l:=by
   conv=>rhs;rw[<-abq (i+1) l]
   rw[io];omega
  have bs:gJ (l.take (i+1))=max (gJ (l.take i)) (gJ x.kids+1):=by rw[db hx,GI];simp[gJ,wE]
  have cn:gJ (l.take i)<=du (l.take i):=kB _ _ (aba _);have cm:=kB _ x.kids (aba _);apply RG;simp only[go_sem,a4,iv,sD,rD];refine⟨ab,?_⟩;refine XN (l:=[.int .u8 x.kind,.string ⟨⟨x.text⟩⟩,.int .i64 x.tok,.int .i64 x.slot,.slice ka x.kids.length kc,sD na nk x.cond,rD x.cond]) (v:=.agg #[.int .u8 x.kind,.string ⟨⟨x.text⟩⟩,.int .i64 x.tok,.int .i64 x.slot,.slice ka x.kids.length kc,sD na nk x.cond,rD x.cond]) rfl (cellsU ao (.head _) an) (.inl ⟨cL,rfl⟩) ?_;refine lY ?_;refine ad ao [0] [] [_] rfl Td rfl (Px (T8.le hP aa) ab) fun v I2 qs a9 a1 hq=>?_;obtain⟨A2,rfl,ba⟩:=hq;simp only[Z3]at a9 |-;obtain⟨ua,uc,rfl⟩:=ba.shape;refine lY ?_;refine ax a9 (by exact tz) rfl rfl rfl rfl rfl bg fun nb I3 b2 am bd=>?_;have b4:T8 I3 (.slice (some ⟨nb,0,none⟩) 1 1) [i]:=⟨_,_,rfl,.inr ⟨nb,0,_,rfl,az bd (by simp[aD,Value.cells]) (by simp[aD,Value.cells,iv]),.one rfl⟩⟩;refine lY ?_;refine bl (R:=NQ) (xs:=p) (ys:=[i]) b2 (by exact tz) (Ue.le ba am) b4 (fun{I J c a} h k=>h) (fun{I} c a h=>NQ.len (I:=I) c a h) (fun{I} c a h=>NQ.ones (I:=I) h) rfl rfl rfl rfl (by simp only[aaj,aaO];omega) (by simp only[aaj,aaO];unfold maxLen;omega) fun xa xc I4 A4 b1 a0 ca=>?_;refine ae b1 fun I5 b0 ak b6=>?_;have b5:T8 I5 (.slice xa (p++[i]).length xc) (p++[i]):=Ow.sl (R:=NQ) (fun{I J c a} h k=>h) ca ak b6;have bc:(p++[i]).length=p.length+1:=by simp
  have a5:=abV a1 (abV am (abV a0 ak));apply bL 3;simp only[go_sem,iv,sD,rD];refine SU 3 [3,4,5,6,7,8,9,10,11,12] bg bg ?_;simp only[abA,abz];refine lY ?_;refine Qd b0 [0] rfl rfl rfl rfl rfl rfl (ps:=[S _ _]) (F:=[]) rfl (hY ab ab ab) fun v I6 qs a7 _ hq=>?_;obtain⟨rfl,rfl,rfl⟩:=hq;simp only[Z3]at a7 |-;refine SA 4 9 bg ?_;simp only[abx,aa1];refine lY ?_;refine ad a7 [0] [S _ _] [] rfl Lg rfl (ih (l:=x.kids) (p:=p++[i]) ab (eE.le ac a5) a3 b5 ab ab ab ab) fun v I7 qs a2 aS hq=>?_;obtain⟨rfl,rfl⟩:=hq;have eN:n+du (l.take i)+1+du x.kids=n+du (l.take (i+1)):=by omega
  have eD:max (max (max d (p.length+gJ (l.take i))) (p++[i]).length) ((p++[i]).length+gJ x.kids)=max d (p.length+gJ (l.take (i+1))):=by rw[bs,bc];omega
  rw[eN,eD]at a2 |-;simp only[Z3]at a2 |-;apply RG;simp only[go_sem,iv,sD,rD,cb];exact aj (i+1) _ _ ab Tp (by simp only[go_sem,aa6,wkS,iv,sD,rD]) ⟨I7,rfl,a2,abV aa (abV a5 aS),aq⟩
 ·have:i=l.length:=by omega
  subst this;have a4:=Z6 l.length;rw[aaS]at ao |-;apply RG;simp only[go_sem,a4,iv,sD,rD];exact af rfl ao (r:=[_]) rfl aa ⟨rfl,rfl⟩
end Go.Proofs.YtfaclfkpnmcmlaaGreatDoor
namespace Go.Sx
open Go
variable {P:Program}
def GA{α:Type}{g:Operand}{ps:Array Tmp}{assign body:Code}{Q:Exit->Act->World->Prop}{a:Act}{w:World}{gf:Nat}{lb:Array Value}(hg:a.eval g=.func (.func gf) #[] lb)
  (eg:∀args w,(callFunc gf args).run P w=.ok (.enter gf args) w) {I:PH} (S:α->PH) (s0:α) (Fin:α->Prop) (Ok:α->Array Value->Prop) (nxt:α->Array Value->α)
  (hs:Sub (U [I,S s0]) w) (hd:Dj [I,S s0]) (hS:∀s b,w.heap.size<=b->S s b=none) (cf:∀s xs,Ok s xs->xs.size=ps.size)
  (a5:∀(l:Nat) (s:α) (xs:Array Value) (W:World),Ok s xs->Sub (S s) W->
   assign.wpIn (Fence.wide.inRound l) 0 P (Exit.then (fun a₁ w₁=>w₁=W/\∀W',Sub (S s) W'->body.wpIn (Fence.wide.inRound l) 0 P (fun e _ w2=>e=.normal/\dM (S s) W' (S (nxt s xs)) w2) a₁ W') (fun _ _ _=>False))
    { tmps:=(ps.zip xs).foldl (fun t (p,v)=>t.setIfInBounds p v) a.tmps,defers:=[] } W)
  (a4:∀(l:Nat) (L:PH),(∀{J:PH} {s:α} {xs:Array Value},Ok s xs->N0 P l xs J [(S s).uni L] fun v I2 qs=>v=.bool true/\I2=J/\qs=[(S (nxt s xs)).uni L])->
   aK P gf (#[.func (.yield l) #[] #[]]++lb) I [(S s0).uni L] fun _ _ qs=>∃s,qs=[(S s).uni L]/\Fin s)
  (a3:∀(D:Nat) (W:World) (s:α) (I2:PH),w.heap.size<=D->Fin s->I.le I2->Dj [I2,S s]->dM (U [I,S s0]) w (U [I2,S s]) W->W.heap[D]?=some (.deferred (some []))->Q .normal { a with defers:={ target:=.collected D,args:=#[] }::a.defers } W) :
  (Code.rangeFunc g ps assign body).wpIn Fence.wide 0 P Q a w:=by
 refine wpIn_rangeFunc fun fn _=>?_;obtain⟨rec,aa⟩:∃rec:LoopState->Option Code->Loop,rec=fun st pe=>{ state:=st,pending:=pe,fn,tmps:=a.tmps,params:=ps,assign,body,defers:=w.heap.size }:=⟨_,rfl⟩;obtain⟨W1,a1⟩:∃W1,(w.alloc (.deferred (some []))).alloc (.loop (rec .ready none))=W1:=⟨_,rfl⟩;have b2:W1.heap[w.heap.size+1]?=some (.loop (rec .ready none)):=by
  rw[<-a1];have:=World.alloc_heap_new (w.alloc (.deferred (some []))) (.loop (rec .ready none));rwa [World.size_alloc]at this
 have ao:∀b,b<w.heap.size->W1.heap[b]?=w.heap[b]?:=fun b hb=>by
  rw[<-a1];exact(RowKit.Below.heap_alloc _ _ b (by simp;omega)).trans (RowKit.Below.heap_alloc _ _ b hb)
 have cs:W1.heap[w.heap.size]?=some (.deferred (some [])):=by
  rw[<-a1];exact(RowKit.Below.heap_alloc _ _ _ (by simp)).trans (World.alloc_heap_new w _)
 have b6:W1.heap.size=w.heap.size+2:=by rw[<-a1];simp
 have an:W1.os=w.os/\W1.tape=w.tape/\W1.output=w.output:=by rw[<-a1];exact⟨rfl,rfl,rfl⟩
 obtain⟨l,hl⟩:∃l,w.heap.size+1=l:=⟨_,rfl⟩;rw[hl]at b2;obtain⟨L,hL⟩:∃L,sg l (.loop (rec .ready none))=L:=⟨_,rfl⟩;have a0:∀b o,L b=some o<->b=l/\Obj.loop (rec .ready none)=o:=fun b o=>by rw[<-hL];exact NY
 have bc:∀b,b≠l->L b=none:=fun b hb=>by rw[<-hL];unfold sg;rw[ZV hb]
 have a6:∀s,S s l=none:=fun s=>hS s l ab;have aj:(I.disj (S s0)):=(List.pairwise_cons.1 hd).1 _ (.head _);have b3:∀b,w.heap.size<=b->I b=none:=fun b hb=>by
  cases h:I b with
  |none=>rfl
  |some o=>exact absurd (eO (hs b o ((nU hd).2 ⟨I,.head _,h⟩))) ab
 have dj2:∀{A B:PH},A.disj B->Dj [A,B]:=fun h=>List.pairwise_cons.2 ⟨fun x hx=>by rw[List.mem_singleton.1 hx];exact h,aaW _ _⟩;have u2:∀{A B:PH} {b:Nat} {o:Obj},A.disj B->(U [A,B] b=some o<->A b=some o\/B b=some o):=fun h=>by
  rw[nU (dj2 h)];simp
 have u2n:∀{A B:PH} {b:Nat},U [A,B] b=none<->A b=none/\B b=none:=by intro A B b;rw[oL];simp
 have aS:∀s b o,((S s).uni L) b=some o<->S s b=some o\/L b=some o:=fun s b o=>PH.uni_some fun c=>by
  by_cases e:c=l
  ·subst e;exact .inl (a6 s)
  ·exact .inr (bc c e)
 have bx:I.disj ((S s0).uni L):=fun b=>by
  rcases aaf b w.heap.size with h|h
  ·rcases aj b with e|e
   ·exact .inl e
   ·exact .inr (PH.uni_none.2 ⟨e,bc b ab⟩)
  ·exact .inl (b3 b h)
 have cb:Sub (U [I,(S s0).uni L]) W1:=fun b o hb=>by
  rcases(u2 bx).1 hb with e|e
  ·rw[ao b (eO (hs b o ((u2 aj).2 (.inl e))))];exact hs b o ((u2 aj).2 (.inl e))
  ·rcases(aS s0 b o).1 e with e|e
   ·rw[ao b (eO (hs b o ((u2 aj).2 (.inr e))))];exact hs b o ((u2 aj).2 (.inr e))
   ·obtain⟨rfl,rfl⟩:=(a0 b o).1 e;exact b2
 refine⟨l,[{ target:=.collected w.heap.size,args:=#[] }],W1,{ target:=.fn (.func gf) lb,args:=#[.func (.yield l) #[] #[]] },W1,gf,#[.func (.yield l) #[] #[]]++lb,W1,?_,?_,fun _ _=>trivial,?_,fun h=>by simp[Fence.wide]at h,?_⟩
 ·rw[<-a1,aa,<-hl];exact run_enterLoop_outer _ _ _ _ _
 ·simp only[resolve,hg];simp[Deferred.ofValue];rfl
 ·simp[invoke,eg]
 ·have round:∀{J:PH} {s:α} {xs:Array Value},Ok s xs->N0 P l xs J [(S s).uni L] fun v I2 qs=>v=.bool true/\I2=J/\qs=[(S (nxt s xs)).uni L]:=by
   intro J s xs bs cm W hW;have hJ:J.disj ((S s).uni L):=(List.pairwise_cons.1 cm).1 _ (.head _);have bb:W.heap[l]?=some (.loop (rec .ready none)):=hW l _ ((u2 hJ).2 (.inr ((aS s l _).2 (.inr ((a0 l _).2 ⟨rfl,rfl⟩)))));have ci:=eO bb;have b1:Sub (S s) W:=fun b o hb=>hW b o ((u2 hJ).2 (.inr ((aS s b o).2 (.inl hb))));have hy:=run_yield (P:=P) (args:=xs) bb (by rw[aa];exact cf s xs bs);rw[aa]at hy;refine⟨fn,_,assign,body,hy,roundIn_of_wpIn trivial ?_⟩;refine wpIn_mono (a5 l s xs W bs b1) fun e a₁ w₁ hq=>?_;cases e<;>first|exact hq|skip
   obtain⟨rfl,hq⟩:=hq;have cp:=run_beginRound (P:=P) bb (by rw[aa]);refine⟨_,cp,?_⟩;obtain⟨W',aq⟩:∃W',w₁.putObj l (.loop { rec .ready none with state:=.busy })=W':=⟨_,rfl⟩;rw[aq];have am:∀b,b≠l->W'.heap[b]?=w₁.heap[b]?:=fun b hb=>by rw[<-aq];exact World.putObj_heap_other hb
   have hW'l:W'.heap[l]?=some (.loop { rec .ready none with state:=.busy }):=by rw[<-aq];exact World.putObj_heap_same ci
   have ca:W'.heap.size=w₁.heap.size:=by rw[<-aq];simp
   have cr:Sub (S s) W':=fun b o hb=>by
    rw[am b fun e=>by rw[e,a6]at hb;cases hb];exact b1 b o hb
   refine wpIn_mono (hq W' cr) fun e a2 w3 cc=>?_;obtain⟨rfl,st⟩:=cc;have h3l:w3.heap[l]?=some (.loop { rec .ready none with state:=.busy }):=by rw[st.priv l ab (a6 s)];exact hW'l
   have cl:=run_endRound (P:=P) none h3l;have a9:=eO h3l;have b4:=st.size;refine⟨_,_,cl,_,⟨fun b o hb=>?_,by simp;omega,fun b hb hn=>?_,fun b hb hn=>?_,?_,?_,?_⟩,J,[(S (nxt s xs)).uni L],rfl,?_,abW _,rfl,rfl,rfl⟩
   case refine_7=>
    refine dj2 fun b=>?_;rcases hJ b with e|e
    ·exact .inl e
    ·obtain⟨e1,e2⟩:=PH.uni_none.1 e;cases bd:J b with
     |none=>exact .inl rfl
     |some o=>
      have hb:=eO (hW b o ((u2 hJ).2 (.inl bd)));exact .inr (PH.uni_none.2 ⟨st.dom b ab e1,e2⟩)
   ·have ct:J.disj ((S (nxt s xs)).uni L):=fun b=>by
     rcases hJ b with e|e
     ·exact .inl e
     ·obtain⟨e1,e2⟩:=PH.uni_none.1 e;cases bd:J b with
      |none=>exact .inl rfl
      |some o=>
       have hb:=eO (hW b o ((u2 hJ).2 (.inl bd)));exact .inr (PH.uni_none.2 ⟨st.dom b ab e1,e2⟩)
    rcases(u2 ct).1 hb with e|e
    ·have b0:=hW b o ((u2 hJ).2 (.inl e));obtain⟨e1,e2⟩:=PH.uni_none.1 (hJ.left e);have ac:b≠l:=fun h=>by subst h;rw[(a0 b _).2 ⟨rfl,rfl⟩]at e2;cases e2
     rw[World.putObj_heap_other ac,st.priv b (by have:=eO b0;omega) e1,am b ac];exact b0
    ·rcases(aS _ b o).1 e with e|e
     ·have ac:b≠l:=fun h=>by subst h;rw[a6]at e;cases e
      rw[World.putObj_heap_other ac];exact st.sub b o e
     ·obtain⟨rfl,rfl⟩:=(a0 b o).1 e;rw[World.putObj_heap_same a9,aa];rfl
   ·obtain⟨e1,e2⟩:=u2n.1 hn;obtain⟨e3,e4⟩:=PH.uni_none.1 e2;have ac:b≠l:=fun h=>by subst h;rw[(a0 b _).2 ⟨rfl,rfl⟩]at e4;cases e4
    rw[World.putObj_heap_other ac,st.priv b ab e3,am b ac]
   ·obtain⟨e1,e2⟩:=u2n.1 hn;obtain⟨e3,e4⟩:=PH.uni_none.1 e2;exact u2n.2 ⟨e1,PH.uni_none.2 ⟨st.dom b ab e3,e4⟩⟩
   ·show w3.os=_;rw[st.os,<-aq];rfl
   ·show w3.tape=_;rw[st.tape,<-aq];rfl
   ·show w3.output=_;rw[st.out,<-aq];rfl
  refine callsIn_wide.2 ((a4 l L round (dj2 bx) W1 cb).mono fun e W2 he=>?_);cases e with
  |outgrown=>exact he.elim
  |panicked c=>exact he.elim
  |returned v=>
   obtain⟨H2,st,I2,qs,rfl,cn,cj,s,rfl,ba⟩:=he;have a7:I2.disj ((S s).uni L):=(List.pairwise_cons.1 cn).1 _ (.head _);have h2l:W2.heap[l]?=some (.loop (rec .ready none)):=st.sub l _ ((u2 a7).2 (.inr ((aS s l _).2 (.inr ((a0 l _).2 ⟨rfl,rfl⟩)))));have hI2s:I2.disj (S s):=fun b=>by
    rcases a7 b with e|e
    ·exact .inl e
    ·exact .inr (PH.uni_none.1 e).1
   have ak:∀b,b≠l->U [I,S s0] b=none->U [I,(S s0).uni L] b=none:=fun b hb hn=>by
    obtain⟨e1,e2⟩:=u2n.1 hn;exact u2n.2 ⟨e1,PH.uni_none.2 ⟨e2,bc b hb⟩⟩
   refine⟨none,_,by have:=run_endLoop (P:=P) h2l (by rw[aa];simp);rw[aa]at this;exact this,?_⟩;have b5:=st.size;refine a3 w.heap.size _ s I2 (ZR _) ba cj (dj2 hI2s) ⟨fun b o hb=>?_,by simp;omega,fun b hb hn=>?_,fun b hb hn=>?_,?_,?_,?_⟩ ?_
   ·have ac:b≠l:=fun h=>by
     subst h;rcases(u2 hI2s).1 hb with e|e
     ·have:=a7.left e;rw[(aS s b _).2 (.inr ((a0 b _).2 ⟨rfl,rfl⟩))]at this;cases this
     ·rw[a6]at e;cases e
    rw[World.putObj_heap_other ac];refine st.sub b o ((u2 a7).2 ?_);rcases(u2 hI2s).1 hb with e|e
    ·exact .inl e
    ·exact .inr ((aS s b o).2 (.inl e))
   ·have ac:b≠l:=by omega
    rw[World.putObj_heap_other ac,st.priv b ab (ak b ac hn),ao b hb]
   ·have:=u2n.1 (st.dom b ab (ak b ab hn));exact u2n.2 ⟨this.1,(PH.uni_none.1 this.2).1⟩
   ·show W2.os=_;rw[st.os,an.1]
   ·show W2.tape=_;rw[st.tape,an.2.1]
   ·show W2.output=_;rw[st.out,an.2.2]
   ·rw[World.putObj_heap_other ab,st.priv _ ab (ak _ ab (u2n.2 ⟨b3 _ (ZR _),hS _ _ (ZR _)⟩))];exact cs
end Go.Sx
namespace Go.Proofs.YtfaclfkpnmcmlaaGreatDoor
open Go Go.Sx Dg Syn
variable{I:PH}
def ab9{lp:Nat}{S:Nat->Nat->PH}(hY:Cnt lp S){cb:Nat}{vk vd:Value}{l:List Nd}(hb:aP I cb 0 [vk,vd])(hS:eE I vk l)(hC:sB vk)(hz:du l<2^41):
  aK Tryz.prog 141 #[.func (.yield lp) #[] #[],pt cb] I [S 0 0] fun _ _ qs=>qs=[S (du l) (gJ l)]:=by
 obtain⟨ka,kc,rfl,_⟩:=id hS;have hp:T8 I (.slice none 0 0) []:=⟨none,0,rfl,.inl rfl⟩;intro hd;refine ah 7 Tryz.func141 fun w0=>?_
 try simp only[pt]
 refine aT ?_;refine XN (l:=[.slice ka l.length kc]) rfl (cellsU hd (.head _) (by simpa using hb.get (i:=0) rfl)) (.inr ⟨PL,rfl⟩) ?_;refine aT ?_;refine ad hd [0] [S 0 0] [] rfl Lg rfl (ab5 hY _ (aba _) hS hC hp ab (by simp only[aaO];omega) (ZR _) ab) fun v I2 qs ac aa hq=>?_;obtain⟨rfl,rfl⟩:=hq;have e0:S (0+du l) (max 0 (([]:List Nat).length+gJ l))=S (du l) (gJ l):=by rw[ZZ,aaO,ZZ,Nat.zero_max]
 rw[e0]at ac |-;simp only[Z3]at ac |-;refine aT ?_;exact d8 rfl ac (r:=[]) rfl aa rfl
def acp{ka da:Option Addr}{kn kc dn' dc:Nat}:aK Tryz.prog 81 #[.agg #[.slice ka kn kc,.slice da dn' dc]] I [] fun r I2 qs=>qs=[]/\∃cb,r=.func (.func 141) #[] #[pt cb]/\aP I2 cb 0 [.slice ka kn kc,.slice da dn' dc]:=by
 intro hd;refine ah 4 Tryz.func81 fun w0=>?_;apply bL 6;simp only[go_sem];refine fV 1 hd rfl fun cb aj=>?_;refine ae (c:=.st _) aj fun I2 ac aa ak=>?_;have hb:aP I2 cb 0 [.slice ka kn kc,.slice da dn' dc]:=(ay (by simp) rfl:aP (sg cb (.cells [.slice ka kn kc,.slice da dn' dc].toArray 36 (0,0))) cb 0 [.slice ka kn kc,.slice da dn' dc]).le ak;apply RG;simp only[go_sem,mF,List.map,pt];exact af rfl ac (r:=[_]) rfl aa ⟨rfl,cb,rfl,hb⟩
def Lq(b:Nat)(s:Nat×Nat):PH:=U [sg b (.cells #[.int .i64 s.1] 3 (0,0)),sg (b+1) (.cells #[.int .i64 s.2] 3 (0,0))]
variable{s:Nat×Nat}{b:Nat}
def bC{c:Nat}{o:Obj}:Lq b s c=some o<->c=b/\Obj.cells #[.int .i64 s.1] 3 (0,0)=o\/c=b+1/\Obj.cells #[.int .i64 s.2] 3 (0,0)=o:=by
 unfold Lq;have hd:Dj [sg b (.cells #[.int .i64 s.1] 3 (0,0)),sg (b+1) (.cells #[.int .i64 s.2] 3 (0,0))]:=List.pairwise_cons.2 ⟨fun x hx=>by
  rw[List.mem_singleton.1 hx];intro d;by_cases e:d=b
  ·exact .inr (by unfold sg;rw[ZV ab])
  ·exact .inl (by unfold sg;rw[ZV e]),aaW _ _⟩
 rw[nU hd];simp only[aad,aaB,or_false,exists_eq_or_imp,exists_eq_left,NY]
def gT{c:Nat}(h1:c≠b)(h2:c≠b+1):Lq b s c=none:=by
 cases h:Lq b s c with
 |none=>rfl
 |some o=>rcases bC.1 h with ⟨e,_⟩|⟨e,_⟩<;>omega
variable{v:Value}{w:World}
def cd{T:TypeId}(h:w.heap[b]?=some (.cells #[v] T (0,0))):w.cell? ⟨b,0,none⟩=some v/\w.frozen? ⟨b,0,none⟩=false:=by
 simp[World.cell?,World.frozen?,h]
def b7{u:Value}{T:TypeId}(h:w.heap[b]?=some (.cells #[u] T (0,0))):(w.setCell ⟨b,0,none⟩ v).heap[b]?=some (.cells #[v] T (0,0)):=by
 show (w.heap.modify b _)[b]?=_;rw[Array.getElem?_modify];simp[h]
def Ol{m n:Nat}{x y:Int}(h:Go.Sx.Sub (Lq b s) w)(hx:x=(m:Int))(hy:y=(n:Int)):dM (Lq b s) w (Lq b (m,n)) ((w.setCell ⟨b,0,none⟩ (.int .i64 x)).setCell ⟨b+1,0,none⟩ (.int .i64 y)).drew:=by
 subst hx hy;have g1:=h _ _ (bC.2 (.inl ⟨rfl,rfl⟩));have g2:=h _ _ (bC.2 (.inr ⟨rfl,rfl⟩));have oth:∀c,c≠b->c≠b+1->((w.setCell ⟨b,0,none⟩ (.int .i64 m)).setCell ⟨b+1,0,none⟩ (.int .i64 n)).drew.heap[c]?=w.heap[c]?:=fun c h1 h2=>
  (RowKit.Below.heap_setCell _ _ _ c h2).trans (RowKit.Below.heap_setCell _ _ _ c h1)
 have ne:∀c,Lq b s c=none->c≠b/\c≠b+1:=by
  intro c hc;constructor
  ·intro e;rw[bC.2 (.inl ⟨e,rfl⟩)]at hc;cases hc
  ·intro e;rw[bC.2 (.inr ⟨e,rfl⟩)]at hc;cases hc
 refine⟨fun c o hc=>?_,by simp[World.setCell,World.drew],fun c _ hc=>oth c (ne c hc).1 (ne c hc).2,fun c _ hc=>gT (ne c hc).1 (ne c hc).2,rfl,rfl,rfl⟩;rcases bC.1 hc with ⟨rfl,rfl⟩|⟨rfl,rfl⟩
 ·exact(RowKit.Below.heap_setCell _ _ _ _ (by simp)).trans (b7 g1)
 ·exact b7 ((RowKit.Below.heap_setCell _ _ _ _ (by simp)).trans g2)
def okS(s:Nat×Nat)(xs:Array Value):Prop:=∃a k c v,xs=#[.slice a k c,v]/\s.1<2^60/\s.2<2^60/\k<2^60
def nxS(s:Nat×Nat)(xs:Array Value):Nat×Nat:=match xs.toList with
 | [.slice _ k _,_]=>(s.1+1,max s.2 k)
 |_=>s
attribute [go_sem] Oper.semAt_some
theorem QZ{t:Tr}(hT:He I v t)(hz:du t.kids<=aN):aK Tryz.prog 26 #[v] I [] fun r _ qs=>qs=[]/\r=.tuple #[iv (du t.kids),iv (gJ t.kids)]:=by
 obtain⟨vk,vd,rfl,hK,b0,hD,b4⟩:=id hT;obtain⟨ka,kc,rfl,_⟩:=id hK;obtain⟨da,dc,rfl,_⟩:=id hD;unfold aN at hz;obtain⟨N,hN⟩:∃N,du t.kids=N:=⟨_,rfl⟩;obtain⟨D,a3⟩:∃D,gJ t.kids=D:=⟨_,rfl⟩;rw[hN,a3];intro hd w hw;have aa:∀b,w.heap.size<=b->U [I] b=none:=fun b hb=>by
  cases h:U [I] b with
  |none=>rfl
  |some o=>exact absurd (eO (hw b o h)) ab
 refine(callsIn_wide (n:=0)).1 (callsIn_of_wp_marks Tryz.func26 rfl trivial ?_);simp only[Tryz.ntmps26,List.size_toArray,aaj,aaO,Nat.reduceAdd,Nat.reduceSub,Array.replicate_succ,Array.replicate_zero,List.push_toArray,List.append_toArray,aaA,aaz]
 gi_wp2
 refine⟨trivial,rfl,?_⟩;obtain⟨W,hW⟩:∃W,((w.alloc (.cells #[.slice ka t.kids.length kc,.slice da t.diags.length dc] 36)).alloc (.cells #[.int .i64 0] 3)).alloc (.cells #[.int .i64 0] 3)=W:=⟨_,rfl⟩;rw[hW];have b1:W.heap.size=w.heap.size+3:=by rw[<-hW];simp
 have an:W.os=w.os/\W.tape=w.tape/\W.output=w.output:=by rw[<-hW];exact⟨rfl,rfl,rfl⟩
 have aj:∀b,b<w.heap.size->W.heap[b]?=w.heap[b]?:=fun b hb=>by
  rw[<-hW];exact(RowKit.Below.heap_alloc _ _ b (by simp;omega)).trans ((RowKit.Below.heap_alloc _ _ b (by simp;omega)).trans (RowKit.Below.heap_alloc _ _ b hb))
 have bx:W.heap[w.heap.size+1]?=some (.cells #[.int .i64 0] 3 (0,0)):=by
  rw[<-hW];refine(RowKit.Below.heap_alloc _ _ _ (by simp)).trans ?_;have:=World.alloc_heap_new (w.alloc (.cells #[.slice ka t.kids.length kc,.slice da t.diags.length dc] 36)) (.cells #[.int .i64 0] 3)
  rwa [World.size_alloc]at this
 have bs:W.heap[w.heap.size+1+1]?=some (.cells #[.int .i64 0] 3 (0,0)):=by
  rw[<-hW];have:=World.alloc_heap_new ((w.alloc (.cells #[.slice ka t.kids.length kc,.slice da t.diags.length dc] 36)).alloc (.cells #[.int .i64 0] 3)) (.cells #[.int .i64 0] 3);simpa using this
 have a9:Go.Sx.Sub (U [I]) W:=fun b o hb=>by have h:=hw b o hb;rw[aj b (eO h)];exact h
 clear hW;refine(callsIn_wide.2 (acp hd W a9)).mono ?_;rintro e W2 he;cases e with
 |outgrown=>exact he.elim
 |panicked c=>exact he.elim
 |returned v=>
 obtain⟨H2,st,I2,qs,rfl,bb,a0,rfl,cb,rfl,bd⟩:=he;dsimp only[pt]
 gi_wp2
 have a1:∀c,w.heap.size<=c->c<W.heap.size->I2 c=none:=fun c h1 h2=>by
  have:=st.dom c h2 (aa c h1);exact oL.1 this _ (.head _)
 have a7:=st.size;have a2:Dj [I2,Lq (w.heap.size+1) (0,0)]:=List.pairwise_cons.2 ⟨fun x hx=>by
  rw[List.mem_singleton.1 hx];intro c;by_cases h1:c=w.heap.size+1
  ·exact .inl (a1 c ab ab)
  ·by_cases h2:c=w.heap.size+1+1
   ·exact .inl (a1 c ab ab)
   ·exact .inr (gT h1 h2),aaW _ _⟩
 refine GA (gf:=141) (lb:=#[.pointer (some ⟨cb,0,none⟩)]) rfl (fun args w=>AW Tryz.func141 rfl rfl args w) (I:=I2) (Lq (w.heap.size+1)) (0,0) (fun s=>s=(N,D)) okS nxS ?_ a2 ?_ ?_ ?_ ?_ ?_
 ·intro c o hc;rw[nU a2]at hc;simp only[aad,aaB,or_false,exists_eq_or_imp,exists_eq_left]at hc;rcases hc with hc|hc
  ·exact st.sub c o (cP bb c o hc)
  ·rcases bC.1 hc with ⟨rfl,rfl⟩|⟨rfl,rfl⟩
   ·rw[st.priv _ ab (aa _ ab)];exact bx
   ·rw[st.priv _ ab (aa _ ab)];exact bs
 ·exact fun s c hc=>gT ab ab
 ·rintro s xs ⟨a,k,c,v,rfl,_⟩;rfl
 ·rintro l s xs W3 ⟨a,k,c,v,rfl,h1,h2,h3⟩ b2
  gi_wp2
  refine⟨trivial,fun W4 am=>?_⟩;have g1:=am _ _ (bC.2 (.inl ⟨rfl,rfl⟩));have g2:=am _ _ (bC.2 (.inr ⟨rfl,rfl⟩));have c1:=cd g1;have c2:=cd g2;obtain⟨c1,f1⟩:=c1;obtain⟨c2,f2⟩:=c2;have e1:IntKind.i64.wrap ((s.1:Int)+1)=((s.1+1:Nat):Int):=by rw[<-wrap64 (n:=s.1+1) ab];congr 1
  have e2:(if s.2<k then (k:Int)else (s.2:Int))=((max s.2 k:Nat):Int):=by split<;>omega
  gi_wp2
  gi_region
  all_goals gi_wp2
  all_goals exact Ol (m:=s.1+1) (n:=max s.2 k) am ab ab
 ·intro l L round;have hc:Cnt l fun n d=>(Lq (w.heap.size+1) (n,d)).uni L:=fun{J n d k c a v} hn hk bc=>round (s:=(n,d)) (xs:=#[.slice a k c,v]) ⟨a,k,c,v,rfl,hn,bc,hk⟩;have a4:du t.kids<2^41:=by omega
  exact(ab9 (l:=t.kids) hc bd (eE.le hK a0) b0 a4).mono fun v J qs _ hq=>⟨_,hq,by rw[hN,a3]⟩
 ·intro D0 W5 s I3 hD aq ao ba st3 aS;obtain rfl:s=(N,D):=aq;have u5:∀{c o},U [I3,Lq (w.heap.size+1) (N,D)] c=some o<->I3 c=some o\/Lq (w.heap.size+1) (N,D) c=some o:=by
   intro c o;rw[nU ba];simp only[aad,aaB,or_false,exists_eq_or_imp,exists_eq_left]
  have g1:=st3.sub _ _ (u5.2 (.inr (bC.2 (.inl ⟨rfl,rfl⟩))));have g2:=st3.sub _ _ (u5.2 (.inr (bC.2 (.inr ⟨rfl,rfl⟩))));obtain⟨c1,f1⟩:=cd g1;obtain⟨c2,f2⟩:=cd g2;simp only at c1 c2
  gi_wp2
  gi_region
  all_goals gi_wp2
  have k1:∀c,c≠w.heap.size+1->c≠w.heap.size+1+1->((W5.setCell ⟨w.heap.size+1,0,none⟩ (.int .i64 N)).setCell ⟨w.heap.size+1+1,0,none⟩ (.int .i64 D)).drew.heap[c]?=W5.heap[c]?:=fun c h1 h2=>
   (RowKit.Below.heap_setCell _ _ _ c h2).trans (RowKit.Below.heap_setCell _ _ _ c h1)
  have n1:=cd ((RowKit.Below.heap_setCell _ _ _ _ (by simp)).trans (b7 (v:=.int .i64 (N:Int)) g1):(((W5.setCell ⟨w.heap.size+1,0,none⟩ (.int .i64 N)).setCell ⟨w.heap.size+1+1,0,none⟩ (.int .i64 D)).drew).heap[w.heap.size+1]?=_);have n2:=cd (b7 (v:=.int .i64 (D:Int)) ((RowKit.Below.heap_setCell _ _ _ _ (by simp)).trans g2):(((W5.setCell ⟨w.heap.size+1,0,none⟩ (.int .i64 N)).setCell ⟨w.heap.size+1+1,0,none⟩ (.int .i64 D)).drew).heap[w.heap.size+1+1]?=_);refine⟨by simp,.inl ⟨_,_,rfl,run_takeDeferred ((k1 D0 ab ab).trans aS),?_⟩⟩;obtain⟨Wf,ak⟩:∃Wf,(((W5.setCell ⟨w.heap.size+1,0,none⟩ (.int .i64 N)).setCell ⟨w.heap.size+1+1,0,none⟩ (.int .i64 D)).drew.putObj D0 (.deferred none))=Wf:=⟨_,rfl⟩;have f0:∀c,c≠D0->Wf.heap[c]?=((W5.setCell ⟨w.heap.size+1,0,none⟩ (.int .i64 N)).setCell ⟨w.heap.size+1+1,0,none⟩ (.int .i64 D)).drew.heap[c]?:=fun c hc=>by rw[<-ak];exact World.putObj_heap_other hc
  have h1:Wf.heap[w.heap.size+1]?=some (.cells [Value.int .i64 (N:Int)].toArray 3 (0,0)):=(f0 _ ab).trans ((RowKit.Below.heap_setCell _ _ _ _ (by simp)).trans (b7 g1));have h2:Wf.heap[w.heap.size+1+1]?=some (.cells [Value.int .i64 (D:Int)].toArray 3 (0,0)):=(f0 _ ab).trans (b7 ((RowKit.Below.heap_setCell _ _ _ _ (by simp)).trans g2));have a5:Wf.heap.size=W5.heap.size:=by rw[<-ak];simp[World.setCell,World.drew]
  have ac:Wf.os=W5.os/\Wf.tape=W5.tape/\Wf.output=W5.output:=by rw[<-ak];exact⟨rfl,rfl,rfl⟩
  rw[ak];have l1:(loadVar 3 ⟨w.heap.size+1,0,none⟩).run Tryz.prog Wf=.ok (.int .i64 (N:Int)) Wf:=pK h1 (by unfold iR;rw[jq];rfl);have l2:(loadVar 3 ⟨w.heap.size+1+1,0,none⟩).run Tryz.prog Wf=.ok (.int .i64 (D:Int)) Wf:=pK h2 (by unfold iR;rw[jq];rfl);have a6:=st3.size;refine⟨.tuple #[iv N,iv D],by simp[results,Tryz.results26,ZY,Result.andThen,asAddr,l1,l2,iv],U [I],⟨fun c o hc=>?_,ab,fun c hc hn=>?_,fun c _ hn=>hn,?_,?_,?_⟩,I,[],rfl,hd,abW _,rfl,rfl⟩
  ·have hi:=hw c o hc;have b3:=eO hi;rw[f0 c ab,k1 c ab ab];exact st3.sub c o (u5.2 (.inl (ao c o (a0 c o (by simpa[U,PH.uni_no]using hc)))))
  ·have h3:U [I2,Lq (w.heap.size+1) (0,0)] c=none:=oL.2 (by
    intro A hA;simp only[aad,aaB,or_false]at hA;rcases hA with rfl|rfl
    ·exact oL.1 (st.dom c ab hn) _ (.head _)
    ·exact gT ab ab)
   rw[f0 c ab,k1 c ab ab,st3.priv c ab h3,st.priv c ab hn,aj c hc]
  ·rw[ac.1,st3.os,st.os,an.1]
  ·rw[ac.2.1,st3.tape,st.tape,an.2.1]
  ·rw[ac.2.2,st3.out,st.out,an.2.2]
end Go.Proofs.YtfaclfkpnmcmlaaGreatDoor
