import Derived.Test.YtfaclfkpnmcmlaaGreatDoorJ03
import Derived.Test.YtfaclfkpnmcmlaaGreatDoorJ10
import Derived.Test.YtfaclfkpnmcmlaaGreatDoorJ16
import Derived.Test.YtfaclfkpnmcmlaaGreatDoorJ19
import Derived.Test.YtfaclfkpnmcmlaaGreatDoorJ22
import Derived.Test.YtfaclfkpnmcmlaaGreatDoorJ24
import Derived.Laws.MakeOwn
import Derived.Laws.StructEq
set_option maxHeartbeats 8000000
set_option linter.all false
open Go.Proofs.Tryz
namespace Go.Proofs.YtfaclfkpnmcmlaaGreatDoor
open Go Go.Sx Dg Syn
structure It where
 kind:Nat
 text:al
 cubes:List (Nat×Nat)
def nh(I:PH)(c:List Value)(x:It):Prop:=∃a,c=[.int .u8 x.kind,.string ⟨⟨x.text⟩⟩,a]/\g4 I a x.cubes
variable{x:It}{c:List Value}{I J:PH}
def nh.le(h:nh I c x)(k:I.le J):nh J c x:=by obtain⟨a,e,h⟩:=h;exact⟨a,e,g4.le h k⟩
def nh.len(c:List Value)(x:It)(h:nh I c x):c.length=3:=by obtain⟨a,e,_⟩:=h;rw[e];rfl
abbrev px(I:PH)(v:Value)(l:List It):Prop:=Sl nh I v l
variable{v:Value}
def px.le{l:List It}(h:px I v l)(k:I.le J):px J v l:=Sl.le (R:=nh) (fun{I J c a} h k=>nh.le h k) h k
def fP(x:It):Tok:=⟨x.kind,x.text,kS x.cubes,true⟩
def yZ(x:It):Prop:=x.cubes.length<2^40/\x.text.length<2^40
def yL(x:It):Nat:=1+x.cubes.length+x.text.length / 64
def si(n0:Nat)(l:List It):Nat:=n0+(l.map yL).sum
def XN(n0:Nat)(l:List It)(x:It):si n0 (l++[x])=si n0 l+yL x:=by unfold si;rw[mf,List.sum_append];simp;omega
def LL(n0:Nat):∀l:List It,l.length<=si n0 l
 | []=>aF _
 |x::l=>by
  have:=LL n0 l;unfold si at this |-;simp only[ib,List.sum_cons,bm];have:1<=yL x:=by unfold yL;omega
  omega
def s9(vl a:Value)(most:Nat)(x:Nat×Nat×Nat):St:=⟨dn 120 [(0,.v vl),(1,.v a),(2,.v (E most)),(6,.p 6 0),(7,.v (.slice none 0 0)),(8,.v (.int .u32 0)),(9,.v (.bool false)),(10,.v (.int .u32 x.2.1)),(11,.v (E x.2.2)),(12,.p 12 0),(13,.v (E x.1))],[⟨6,27,[.slice none 0 0,.slice none 0 0]⟩,⟨12,27,[.slice none 0 0,.slice none 0 0]⟩]⟩
def oI(vl:Value)(u:Nat)(x:Nat×Value×Value):St:=⟨dn 120 [(0,.v vl),(6,.p 6 0),(10,.v (.int .u32 u)),(12,.p 12 0),(14,.v x.2.2),(15,.v (E x.1))],[⟨6,27,[.slice none 0 0,.slice none 0 0]⟩,⟨12,27,[x.2.1,.slice none 0 0]⟩]⟩
def iW(u:Nat)(I:PH)(c:List Value)(x:It):Prop:=∃pv a,c=[.int .u8 x.kind,.string ⟨⟨x.text⟩⟩,pv,.int .i64 0,.int .i64 0,a]/\Sx.one pv=true/\sL I a (yC x.cubes u)
variable{u:Nat}
def iW.len(c:List Value)(x:It)(h:iW u I c x):c.length=6:=by obtain⟨pv,a,e,_⟩:=h;rw[e];rfl
def iW.le(h:iW u I c x)(k:I.le J):iW u J c x:=by obtain⟨pv,a,e,h1,h2⟩:=h;exact⟨pv,a,e,h1,h2.le k⟩
def iW.ones(h:iW u I c x):c.all Sx.one=true:=by obtain⟨pv,d,rfl,h1,a,b,rfl,_⟩:=h;simp only[List.all_cons,List.all_nil,h1,qI,Bool.true_and];rfl
abbrev qW(u:Nat)(I A:PH)(v:Value)(l:List It):Prop:=Ow (iW u) 136 6 I A v l
def qW.le{A:PH}{l:List It}(h:qW u I A v l)(k:I.le J):qW u J A v l:=Ow.le (R:=iW u) (fun{I J c a} h k=>iW.le h k) h k
def Tn(u:Nat)(l:List It)(a:PH)(x:Nat×Value×Value)(H:PH):Prop:=∃I A B m,H=U [I,A,B]/\Dj [I,A,B]/\a.le I/\x.1<=l.length/\iy I A x.2.1 ((l.take x.1).map fP)/\qW u I B x.2.2 m/\m=l.take x.1
def LV(l:List It)(w:List (Nat×Nat))(v:Value)(b:PH):Prop:=
 (∃lv,v=.tuple #[lv,.slice none 0 0,.int .u32 0,.bool false]/\lv=.agg #[.slice none 0 0,.slice none 0 0])\/
 (∃lv a n c u,v=.tuple #[lv,.slice a n c,.int .u32 u,.bool true]/\od b lv (l.map fP)/\l.length<400/\∃a n k g,lv=.agg #[.slice a n k,g]/\n<=k)
def LW(l:List It)(w:List (Nat×Nat))(most:Nat)(v:Value)(b:PH):Prop:=
 (∃lv,v=.tuple #[lv,.slice none 0 0,.int .u32 0,.bool false]/\lv=.agg #[.slice none 0 0,.slice none 0 0])\/
 (∃lv a c u,v=.tuple #[lv,.slice a l.length c,.int .u32 (u:Nat),.bool true]/\od b lv (l.map fP)/\l.length<400/\(∃a n k g,lv=.agg #[.slice a n k,g]/\n<=k)/\
  Sl (iW u) b (.slice a l.length c) l/\u<2^24/\lJ w u/\(∀y∈l,lJ y.cubes u)/\fp u 32<=most)
variable{most:Nat}{w:List (Nat×Nat)}
theorem Tu{vl vw:Value}{l:List It}(hS:px I vl l)(hW:g4 I vw w)(hb:∀x∈l,yZ x)(hl:l.length<2^40)(hw:w.length<2^40)(hm:most<=8):aT prog 16 #[vl,vw,E most] I [] fun r I2 qs=>qs=[]/\LW l w most r I2:=by
 obtain⟨la,lc,rfl,_⟩:=id hS;obtain⟨wa,wc,rfl,_⟩:=id hW;intro hd;refine aP 120 func16 fun w0=>?_
 try simp only[E]
 refine ai ?_;refine X4 rfl H8 (GK (g4.le hW (iH hd)) O) ?_;rintro v H2⟨rfl,rfl⟩;refine ai ?_;apply il (fun(x:Nat×Nat×Nat)=>l.length-x.1) (s9 (.slice la l.length lc) (.slice wa w.length wc) most) (fun x H=>H=U [I]/\x.1<=l.length/\x.2.1<2^24/\x.2.2=si w.length (l.take x.1)/\x.2.2<2^44/\lJ w x.2.1/\∀y∈l.take x.1,lJ y.cubes x.2.1) (fun x H=>H=U [I]/\x.2.1<2^24/\x.2.2<2^44/\(x.2.2<400->si w.length l<400/\lJ w x.2.1/\∀y∈l,lJ y.cubes x.2.1)) (0,sP w,w.length)
 .exact ak
 .exact(by simp only[go_sem,Y,s9])
 .exact⟨rfl,aF _,GJ w,by simp[si],by simp only;omega,KX w,fun y N=>by simp at N⟩
 .rintro⟨i,u,n⟩ H ⟨rfl,hi,hu,hn,T,Q,P⟩ K Z;simp only at hi hu hn T Q P;simp only[s9];rcases aI i l.length with V|b7
  .have a1:=Z5 i l.length;rcases aI n 2000 with b4|b4
   .have a9:decide ((n:Int)<2000)=true:=bl O;have e1:=Z7 i;obtain⟨x,hx⟩:∃x,l[i]?=some x:=⟨_,aZ V⟩;obtain⟨b,off,cs,rfl,⟨va,rfl,hc⟩,p⟩:=Sl.load (fun{I} c a h=>nh.len c a h) hS hx;obtain⟨ca,cc,rfl,_⟩:=id hc;have c1:=p.get (i:=1) rfl;have c2:=p.get (i:=2) rfl;obtain⟨b1,b2⟩:=hb x (cY hx);have e31:=Z7 n;have e38:IntKind.i64.wrap (((n+1:Nat):Int)+(x.cubes.length:Int))=((n+1+x.cubes.length:Nat):Int):=by rw[<-wrap64 (n:=n+1+x.cubes.length) O];congr 1
    have e45:IntKind.i64.wrap ((x.text.length:Int).tdiv 64)=((x.text.length / 64:Nat):Int):=by
     have e:(x.text.length:Int).tdiv 64=((x.text.length / 64:Nat):Int):=by rw[Int.tdiv_eq_ediv_of_nonneg O];rfl
     rw[e];exact wrap64 O
    have e46:IntKind.i64.wrap (((n+1+x.cubes.length:Nat):Int)+((x.text.length / 64:Nat):Int))=((n+1+x.cubes.length+x.text.length / 64:Nat):Int):=by rw[<-wrap64 (n:=n+1+x.cubes.length+x.text.length / 64) O];congr 1
    refine dW a1 a9 ?_;refine bE [0,1,2,3,4,5,6,7,8,9,10,11,12,13,14,15,16,17] [6,13] [] ?_;refine bJ e31 ?_
    try refine⟨O,?_⟩
    refine X6 (l:=[.slice ca x.cubes.length cc]) rfl (cellsU hd (.head _) (by simpa using c2)) (.inr ⟨wH,rfl⟩) ?_;refine kL e31 e38 ?_
    try refine⟨O,?_⟩
    refine X6 (l:=[.string ⟨⟨x.text⟩⟩]) rfl (cellsU hd (.head _) (by simpa using c1)) (.inr ⟨gM,rfl⟩) ?_;apply bd;simp only[go_sem,E,fW,e31,e38,e45,e46];apply aL;refine bF ?_
    try refine⟨O,?_⟩
    refine X5 (l:=[.slice ca x.cubes.length cc]) rfl (cellsU hd (.head _) (by simpa using c2)) (.inr ⟨wH,rfl⟩) ?_;refine bF ?_;refine X4 rfl H8 (GK (g4.le hc (iH hd)) O) ?_;rintro v H2⟨rfl,rfl⟩;have b0:=GJ x.cubes;have q1:=AV (a:=u) (b:=sP x.cubes) O O;refine dW q1 e1 ?_;exact K (i+1,u|||sP x.cubes,n+1+x.cubes.length+x.text.length / 64) _ _ bh ak (by simp only[go_sem,Y,s9]) ⟨rfl,V,Nat.or_lt_two_pow hu b0,by simp only;rw[md hx,XN,<-hn];unfold yL;omega,by simp only;omega,Q.left _,fun y N=>by
     simp only at N |-;rw[md hx]at N;rcases List.mem_append.1 N with N|N
     .exact(P y N).left _
     .rw[List.mem_singleton]at N;subst N;exact(KX _).right _⟩
   .have a9:decide ((n:Int)<2000)=false:=cd O;apply cD 14;simp only[go_sem,E,a1,a9];exact Z (i,u,n) _ _ ak (by simp only[go_sem,Y,s9]) ⟨rfl,hu,T,fun h=>by simp only at h;omega⟩
  .have:i=l.length:=by omega
   subst this;have a1:=Z6 l.length;rw[dO]at hn P;apply cD 14;simp only[go_sem,E,a1];exact Z (l.length,u,n) _ _ ak (by simp only[go_sem,Y,s9]) ⟨rfl,hu,T,fun h=>⟨by simp only at h;omega,Q,P⟩⟩
 rintro⟨i,u,n⟩ H ⟨rfl,hu,T,bb⟩;simp only at hu T bb;simp only[s9];rcases aI n 400 with bs|bs
 rotate_left
 .have a7:decide ((n:Int)>=400)=true:=bl O;refine be a7 ?_;exact az rfl hd (r:=[.agg #[.slice none 0 0,.slice none 0 0],.slice none 0 0,.int .u32 0,.bool false]) (by simp only[results16,go_sem,E]) (aC _) ⟨rfl,.inl ⟨_,rfl,rfl⟩⟩
 have a7:decide ((n:Int)>=400)=false:=cd O;obtain⟨b3,Q,P⟩:=bb bs;have b6:=LL w.length l;refine be a7 ?_;refine X4 rfl Qp (OU (most:=most) O) ?_;rintro v H2⟨rfl,rfl⟩;cases b8:decide (fp u 32<=most)
 .refine bF ?_;exact az rfl hd (r:=[.agg #[.slice none 0 0,.slice none 0 0],.slice none 0 0,.int .u32 0,.bool false]) (by simp only[results16,go_sem,E]) (aC _) ⟨rfl,.inl ⟨_,rfl,rfl⟩⟩
 have S:=ng b8;have an:fp u 32<=8:=fD S hm;have am:u<2^32:=by omega
 refine bF ?_;refine dg hd fun cj=>?_;refine dg cj fun ci=>?_;refine bY (fun x=>l.length-x.1) (oI (.slice la l.length lc) u) (Tn u l I) (0,.slice none 0 0,.slice none 0 0) ak (by simp only[go_sem,Y,oI]) ?_ ?_
 .exact⟨I,_,_,[],rfl,ci,aC _,aF _,Ow.nil _ _ _ _,Ow.nil _ _ _ _,by simp⟩
 rintro⟨j,va,vb⟩ H ⟨I1,A1,B1,m,rfl,a0,X,hj,hA,hB,aq⟩ K;simp only at hj hA hB aq;have cp:m.length=j:=by rw[aq,lw];omega
 simp only[oI];obtain⟨aa,ac,rfl⟩:=hA.shape;obtain⟨ba,bc,rfl⟩:=hB.shape;rcases aI j l.length with V|b7
 .have a6:=Z5 j l.length;have e1:=Z7 j;obtain⟨x,hx⟩:∃x,l[j]?=some x:=⟨_,aZ V⟩;obtain⟨b,off,cs,rfl,⟨vc,rfl,hc⟩,p⟩:=Sl.load (fun{I} c a h=>nh.len c a h) (px.le hS X) hx;obtain⟨ca,cc,rfl,_⟩:=id hc;have c0:=p.get (i:=0) rfl;have c1:=p.get (i:=1) rfl;have c2:=p.get (i:=2) rfl;obtain⟨b1,b2⟩:=hb x (cY hx);have b5:((l.take j).map fP).length=j:=by simp;omega
  have hI:I1.le (U [I1,A1,B1]):=iH a0;refine be a6 ?_;apply sK (fun(y:Value)=>oI (.slice (some ⟨b,off,none⟩) l.length lc) u (j,y,.slice ba m.length bc)) (fun y H=>∃I A B,H=U [I,A,B]/\Dj [I,A,B]/\I1.le I/\iy I A y ((l.take (j+1)).map fP)/\qW u I B (.slice ba m.length bc) m)
  .intro hg;have fin:∀{J A B:PH} {ua:Option Addr} {uc nb:Nat} {sv:Value} {za:Option Addr} {zk:Nat},I1.le J->iy J A (.slice ua ((l.take j).map fP++[fP x]).length uc) ((l.take j).map fP++[fP x])->iy J A (.slice ua ((l.take j).map fP++[fP x]).length uc) ((l.take (j+1)).map fP):=fun _ h=>by rw[md hx,mf];exact h
   refine F9 mixed [0,1,2,3,4,5,6,7,8,9,10,11,12,14,15,16,17,18] 13 19 [20,21,22,23,24] [20,21,22,23,24] [] [] [6,11,18] [13,19,21] I1 rfl rfl ?_;apply nj;simp only[go_sem,E]
   try refine⟨O,?_⟩
   refine tY (l:=[.int .u8 x.kind]) rfl hI rfl rfl rfl (by simpa using c0) (.inr ⟨uq,rfl⟩) ?_;apply nj;simp only[go_sem,E]
   try refine⟨O,?_⟩
   refine tY (l:=[.string ⟨⟨x.text⟩⟩]) rfl hI rfl rfl rfl (by simpa using c1) (.inr ⟨gM,rfl⟩) ?_;apply nj;simp only[go_sem,E]
   try refine⟨O,?_⟩
   refine tY (l:=[.slice ca x.cubes.length cc]) rfl hI rfl rfl rfl (by simpa using c2) (.inr ⟨wH,rfl⟩) ?_;apply nj;simp only[go_sem,E];refine ww ?_ ?_;refine im a0 (by exact mV) rfl rfl rfl rfl rfl af fun nb I4 C d a2=>?_;refine bR ?_;refine F6 C [0,1] rfl (fun _=>d) rfl DR (by rfl) (ps:=[]) (F:=[A1,B1]) rfl (E0 (g4.le hc d) O) ?_;rintro v1 I5 qs g s⟨rfl,hr⟩;simp only[Z3]at g |-;obtain⟨za,zk,rfl⟩:=hr.shape2;refine cF ?_;refine im g (by exact yf) rfl rfl rfl rfl rfl af fun kb I6 q f L=>?_;have G:=D d (D s f);have ap:Sl cR I6 (.slice (some ⟨kb,0,none⟩) 1 1) [fP x]:=⟨_,_,rfl,.inr ⟨kb,0,_,rfl,(bz L (by simp[av,Value.cells]) (by simp[av,Value.cells,E,sD,rD]):aX I6 kb 0 [.int .u8 x.kind,.string ⟨⟨x.text⟩⟩,.slice (some ⟨nb,0,none⟩) 1 1,.int .i64 0,.int .i64 0,sD za zk (kS x.cubes),rD (kS x.cubes)]),.one ⟨.slice (some ⟨nb,0,none⟩) 1 1,0,0,za,zk,by simp[fP,sD,rD,E],rfl,hr.le f⟩⟩⟩
   rotate_left
   refine F6 a0 [0,1] rfl (fun _=>aC _) rfl DR (by rfl) (ps:=[]) (F:=[A1,B1]) rfl (E0 hc O) ?_;rintro v1 I5 qs g s⟨rfl,hr⟩;simp only[Z3]at g |-;obtain⟨za,zk,rfl⟩:=hr.shape2;refine cF ?_;refine im g (by exact mV) rfl rfl rfl rfl rfl af fun nb I4 C d a2=>?_;refine cF ?_;refine im C (by exact yf) rfl rfl rfl rfl rfl af fun kb I6 q f L=>?_;have G:=D s (D d f);have ap:Sl cR I6 (.slice (some ⟨kb,0,none⟩) 1 1) [fP x]:=⟨_,_,rfl,.inr ⟨kb,0,_,rfl,(bz L (by simp[av,Value.cells]) (by simp[av,Value.cells,E,sD,rD]):aX I6 kb 0 [.int .u8 x.kind,.string ⟨⟨x.text⟩⟩,.slice (some ⟨nb,0,none⟩) 1 1,.int .i64 0,.int .i64 0,sD za zk (kS x.cubes),rD (kS x.cubes)]),.one ⟨.slice (some ⟨nb,0,none⟩) 1 1,0,0,za,zk,by simp[fP,sD,rD,E],rfl,hr.le (D d f)⟩⟩⟩
   all_goals
    refine bR ?_;refine tZ (R:=cR) (xs:=(l.take j).map fP) (ys:=[fP x]) q (by exact yf) (iy.le hA G) ap (fun{I J c a} h k=>cR.le h k) (fun{I} c a h=>cR.len c a h) (fun{I} c a h=>cR.ones h) rfl rfl rfl rfl rfl rfl (by simp only[bm,bo];omega) (by simp only[bm,bo];unfold maxLen;omega) fun ua uc I7 A7 aS W cn=>?_;refine bR ?_;apply aL;have k7:=D G W;exact hg (.slice ua ((l.take j).map fP++[fP x]).length uc) _ _ ⟨I7,A7,B1,rfl,aS,k7,by rw[md hx,mf];exact cn,qW.le hB k7⟩ ak (by simp only[go_sem,Y,oI])
  rintro va2 H ⟨I2,A2,B2,rfl,C,o,bx,a4⟩;obtain⟨aa2,ac2,rfl⟩:=bx.shape;simp only[oI];have c0:=c0.le o;have c1:=c1.le o;have c2:=c2.le o;have hc:=g4.le hc o;have hI:I2.le (U [I2,A2,B2]):=iH C;refine bF ?_;apply sK (fun(y:Value)=>oI (.slice (some ⟨b,off,none⟩) l.length lc) u (j,.slice aa2 ((l.take (j+1)).map fP).length ac2,y)) (fun y H=>∃I A B,H=U [I,A,B]/\Dj [I,A,B]/\I2.le I/\iy I A (.slice aa2 ((l.take (j+1)).map fP).length ac2) ((l.take (j+1)).map fP)/\qW u I B y (m++[x]))
  .intro hg;refine F9 mixed [0,1,2,3,4,5,6,7,8,9,10,11,13,14,15,16,17,18] 12 19 [20,21,22,23] [20,21,22,23] [] [] [5,10,17] [12,19,21] I2 rfl rfl ?_;apply nj;simp only[go_sem,E]
   try refine⟨O,?_⟩
   refine tY (l:=[.int .u8 x.kind]) rfl hI rfl rfl rfl (by simpa using c0) (.inr ⟨uq,rfl⟩) ?_;apply nj;simp only[go_sem,E]
   try refine⟨O,?_⟩
   refine tY (l:=[.string ⟨⟨x.text⟩⟩]) rfl hI rfl rfl rfl (by simpa using c1) (.inr ⟨gM,rfl⟩) ?_;apply nj;simp only[go_sem,E]
   try refine⟨O,?_⟩
   refine tY (l:=[.slice ca x.cubes.length cc]) rfl hI rfl rfl rfl (by simpa using c2) (.inr ⟨wH,rfl⟩) ?_;apply nj;simp only[go_sem,E];refine ww ?_ ?_;refine im C (by exact mV) rfl rfl rfl rfl rfl af fun nb I4 g d a2=>?_;refine bR ?_;refine F6 g [0,1] rfl (fun _=>d) rfl HX (by rfl) (ps:=[]) (F:=[A2,B2]) rfl (Lj (g4.le hc d) O am an) ?_;rintro v1 I5 qs q s⟨rfl,ht⟩;obtain⟨ta,tc,rfl,_⟩:=id ht;simp only[Z3]at q |-;refine bR ?_;refine im q (by exact E4) rfl rfl rfl rfl rfl af fun kb I6 aS f L=>?_;have G:=D d (D s f);have ap:Sl (iW u) I6 (.slice (some ⟨kb,0,none⟩) 1 1) [x]:=⟨_,_,rfl,.inr ⟨kb,0,_,rfl,(bz L (by simp[av,Value.cells]) (by simp[av,Value.cells,E]):aX I6 kb 0 [.int .u8 x.kind,.string ⟨⟨x.text⟩⟩,.slice (some ⟨nb,0,none⟩) 1 1,.int .i64 0,.int .i64 0,.slice ta (yC x.cubes u).length tc]),.one ⟨.slice (some ⟨nb,0,none⟩) 1 1,_,rfl,rfl,ht.le f⟩⟩⟩
   rotate_left
   refine F6 C [0,1] rfl (fun _=>aC _) rfl HX (by rfl) (ps:=[]) (F:=[A2,B2]) rfl (Lj hc O am an) ?_;rintro v1 I5 qs q s⟨rfl,ht⟩;obtain⟨ta,tc,rfl,_⟩:=id ht;simp only[Z3]at q |-;refine bR ?_;refine im q (by exact mV) rfl rfl rfl rfl rfl af fun nb I4 g d a2=>?_;refine bR ?_;refine im g (by exact E4) rfl rfl rfl rfl rfl af fun kb I6 aS f L=>?_;have G:=D s (D d f);have ap:Sl (iW u) I6 (.slice (some ⟨kb,0,none⟩) 1 1) [x]:=⟨_,_,rfl,.inr ⟨kb,0,_,rfl,(bz L (by simp[av,Value.cells]) (by simp[av,Value.cells,E]):aX I6 kb 0 [.int .u8 x.kind,.string ⟨⟨x.text⟩⟩,.slice (some ⟨nb,0,none⟩) 1 1,.int .i64 0,.int .i64 0,.slice ta (yC x.cubes u).length tc]),.one ⟨.slice (some ⟨nb,0,none⟩) 1 1,_,rfl,rfl,ht.le (D d f)⟩⟩⟩
   all_goals
    refine bR ?_;refine iV aS [1,0] fun cf=>?_;refine tZ (R:=iW u) (xs:=m) (ys:=[x]) cf (by exact E4) (qW.le a4 G) ap (fun{I J c a} h k=>iW.le h k) (fun{I} c a h=>iW.len c a h) (fun{I} c a h=>iW.ones h) rfl rfl rfl rfl rfl rfl (by simp only[bm,bo];omega) (by simp only[bm,bo];unfold maxLen;omega) fun ua uc I7 B7 cb W cl=>?_;refine bR ?_;refine iV cb [1,0] fun a3=>?_;apply aL;have k7:=D G W;exact hg (.slice ua (m++[x]).length uc) _ _ ⟨I7,A2,B7,rfl,a3,k7,iy.le bx k7,cl⟩ ak (by simp only[go_sem,Y,oI])
  rintro vb2 H ⟨I3,A3,B3,rfl,g,z,a5,cm⟩;simp only[oI];refine be e1 ?_;exact K (j+1,.slice aa2 ((l.take (j+1)).map fP).length ac2,vb2) _ _ bh ak (by simp only[go_sem,Y,oI]) ⟨I3,A3,B3,m++[x],rfl,g,D X (D o z),V,a5,cm,by simp only;rw[md hx,<-aq]⟩
 .have:j=l.length:=by omega
  subst this;have a6:=Z6 l.length;rw[dO]at hA aq |-;subst m;refine aj a0 [1,0] fun C=>?_;refine aj C [0,1] fun g=>?_;refine aH (c:=.st _) g fun I2 g o a4=>?_;refine aj g [0] fun q=>?_;refine aH (c:=.st _) q fun I3 q z a5=>?_;refine be a6 ?_;refine az rfl q (r:=[.agg #[.slice aa (l.map fP).length ac,.slice none 0 0],.slice ba l.length bc,.int .u32 u,.bool true]) (by simp only[results16,go_sem,E]) (D X (D o z)) ⟨rfl,.inr ⟨_,_,_,u,rfl,⟨⟨_,_,_,_,rfl,Ow.sl (R:=cR) (fun{I J c a} h k=>cR.le h k) (iy.le hA o) z a5⟩,?_,?_,?_⟩,O,⟨_,_,_,_,rfl,hA.cap (fun c a h=>cR.len c a h)⟩,?_,hu,Q,P,S⟩⟩
  .intro t ht;obtain⟨y,N,rfl⟩:=List.mem_map.1 ht;exact Om y.cubes
  .rw[eN];omega
  .intro t ht;obtain⟨y,N,rfl⟩:=List.mem_map.1 ht;exact(hb y N).2
  .exact Ow.sl (R:=iW u) (fun{I J c a} h k=>iW.le h k) hB (D o z) (D a4 z)
def Tt{vl vw:Value}{l:List It}(g:px I vl l)(f:g4 I vw w)(hb:∀x∈l,yZ x)(e:l.length<2^40)(d:w.length<2^40)(hm:most<=8):aT prog 16 #[vl,vw,E most] I [] fun r i b=>b=[]/\LV l w r i:=
 (Tu g f hb e d hm).mono fun _ _ _ _ h=>⟨h.1,h.2.imp id fun⟨lv,a,c,u,h1,h2,h3,h4,_⟩=>⟨lv,a,_,c,u,h1,h2,h3,h4⟩⟩
def Ac:ax prog 51:=⟨_,func51,rfl,rfl⟩
def Pz:ax prog 170:=⟨_,func170,rfl,rfl⟩
def PB:ax prog 172:=⟨_,func172,rfl,rfl⟩
def PW:ax prog 238:=⟨_,func238,rfl,rfl⟩
def Py:ax prog 169:=⟨_,func169,rfl,rfl⟩
def PU:ax prog 237:=⟨_,func237,rfl,rfl⟩
def AD{va vb:Value}{a b:T}(ha:bU I va a)(hb:bU I vb b):aT prog 51 #[va,vb] I [] fun r n e=>e=[]/\r=.bool (!decide (a.and b=.lf false)):=by
 obtain⟨l,k,rfl⟩:=ha.shape2;obtain⟨j,i,rfl⟩:=hb.shape2;intro hd;refine aP 10 func51 fun w0=>?_
 try simp only[sD,rD,E]
 refine cv ?_;refine fF hd rfl kT (kP ha hb) ?_;rintro m o e d c⟨rfl,hr⟩;obtain⟨h,g,rfl⟩:=hr.shape2;refine cv ?_;refine X4 rfl iG (iE hr) ?_;rintro v H2⟨rfl,rfl⟩;refine cv ?_;exact az rfl d (r:=[_]) rfl c ⟨rfl,rfl⟩
def XJ{va vb:Value}{a b:T}(ha:bU I va a)(hb:bU I vb b):aT prog 170 #[va,vb] I [] fun r l h=>h=[]/\r=.bool (decide (a.and b.not=.lf false)):=by
 obtain⟨s,q,rfl⟩:=ha.shape2;obtain⟨p,o,rfl⟩:=hb.shape2;intro hd;refine aP 10 func170 fun w0=>?_
 try simp only[sD,rD,E]
 refine cv ?_;refine bE [0,1,2,3,4,5] [] [] ?_;refine cF ?_;refine eY hd rfl pT (qf hb) ?_;rintro t x h k c⟨rfl,hr⟩;obtain⟨n,m,rfl⟩:=hr.shape2;refine cF ?_;refine eY k rfl kT (kP (ha.le c) hr) ?_;rintro v2 l h j g⟨rfl,d⟩;obtain⟨v,u,rfl⟩:=d.shape2;refine cF ?_;refine eY j rfl iG (br.keep (iE d)) ?_;rintro v3 w h i f⟨rfl,rfl⟩;refine cF ?_;apply aL;refine ai ?_;exact az rfl i (r:=[_]) rfl (D c (D g f)) ⟨rfl,rfl⟩
def tT(_:PH)(c:List Value)(k:Nat):Prop:=c=[.int .u8 k]
def tT.len(c:List Value)(k:Nat)(h:tT I c k):c.length=1:=by rw[show c=_ from h];rfl
abbrev gk(I:PH)(v:Value)(l:List Nat):Prop:=Sl tT I v l
variable{l:List Nat}
def gk.le(h:gk I v l)(k:I.le J):gk J v l:=Sl.le (R:=tT) (fun{I J c a} h k=>h) h k
def Ao(v:Value)(k n i:Nat):St:=⟨dn 19 [(0,.v v),(1,.v (.int .u8 k)),(4,.v (E 0)),(7,.v (E n)),(8,.v (E i))],[]⟩
def SM{H:PH}{k:Nat}(h:gk H v l)(w:l.length<2^40)(s:k∈l):br prog 238 #[v,.int .u8 k] H fun r H2=>(∃i:Nat,r=E i)/\H2=H:=by
 obtain⟨q,vc,rfl,_⟩:=id h;refine aP 19 func238 fun w0=>?_
 try simp only[E]
 refine ai ?_;refine bY (fun i=>l.length-i) (Ao (.slice q l.length vc) k l.length) (fun i H2=>H2=H/\i<=l.length/\k∉l.take i) 0 ak (by simp only[go_sem,Y,Ao,E]) ⟨rfl,aF _,by simp⟩ ?_;rintro i H2 ⟨rfl,hi,j⟩ d;simp only[Ao];rcases aI i l.length with g|m
 .have u:=Z5 i l.length;have e1:=Z7 i;obtain⟨x,p⟩:∃x,l[i]?=some x:=⟨_,aZ g⟩;obtain⟨b,off,cs,rfl,t,f⟩:=Sl.load (fun{I} c a h=>tT.len (I:=I) c a h) h p;cases t
  refine be u ?_;refine⟨O,?_⟩;refine X5 (l:=[.int .u8 x]) rfl (by simpa using f) (.inr ⟨uq,rfl⟩) ?_;cases o:((k:Int) == (x:Int))
  .refine dW o e1 ?_;refine d (i+1) _ _ O ak (by simp only[go_sem,Y,Ao,E]) ⟨rfl,g,?_⟩;rw[md p,lx,List.mem_singleton];have:¬k=x:=fun e=>by subst e;simp at o
   exact fun h=>h.elim j this
  .refine be o ?_;exact aU (r:=[_]) rfl ⟨⟨i,rfl⟩,rfl⟩
 .rw[yU m]at j;exact absurd s j
def Sv{H:PH}{k:Nat}(h:gk H v l)(a:l.length<2^40)(b:k∈l):br prog 172 #[v,.int .u8 k] H fun r H2=>r=.bool true/\H2=H:=by obtain⟨c,vc,rfl,_⟩:=id h;refine aP 9 func172 fun w0=>?_;refine ai ?_;refine X4 rfl PW (SM h a b) ?_;rintro v H2⟨⟨i,rfl⟩,rfl⟩;have h3:decide ((i:Int)>=0)=true:=bl O;refine be h3 ?_;exact aU (r:=[_]) rfl ⟨rfl,rfl⟩
def WB{x:al}(e:x.length<2^40)(f:ip I)(h1:mE 1 x=true)(h2:fy x=false):aT prog 237 #[.string ⟨⟨x⟩⟩] I [] fun r h c=>c=[]/\r=.bool true:=by intro hd;refine aP 10 func237 fun w0=>?_;refine ai ?_;refine fF hd rfl DH (Ed (k:=1) e f) ?_;rintro g i c b a⟨rfl,rfl⟩;refine dq h1 ?_;refine X4 rfl HZ Iv ?_;rintro v H2⟨rfl,rfl⟩;refine dq h2 ?_;exact az rfl b (r:=[_]) rfl a ⟨rfl,rfl⟩
def FB(k:Nat)(x:al):Prop:=mE k x=true
def TK{k:Nat}{x:al}(l:x.length<2^40)(m:ip I)(i:1<=k/\k<=19)(h:lq FB k x):aT prog 169 #[.int .u8 k,.string ⟨⟨x⟩⟩] I [] fun r n d=>d=[]/\r=.bool true:=by
 have p:∀{k:Nat},(k=2\/k=3\/k=4\/k=7\/k=18\/k=19)->FB 1 x/\fy x=false->aT prog 169 #[.int .u8 k,.string ⟨⟨x⟩⟩] I [] fun r n d=>d=[]/\r=.bool true:=by
  intro k i ⟨h1,h2⟩ hd;refine aP 50 func169 fun w0=>?_;rcases i with rfl|rfl|rfl|rfl|rfl|rfl
  all_goals
   apply RG;simp only[go_sem,dL];refine fF hd rfl PU (WB l m h1 h2) ?_;rintro o s d f c⟨rfl,rfl⟩;refine ai ?_;exact az rfl f (r:=[_]) rfl c ⟨rfl,rfl⟩
 have rest:x=[]->∀{k:Nat},(k=1\/k=6\/k=8\/k=9\/k=10\/k=11\/k=12\/k=17)->aT prog 169 #[.int .u8 k,.string ⟨⟨x⟩⟩] I [] fun r n d=>d=[]/\r=.bool true:=by
  intro q k i hd;subst q;refine aP 50 func169 fun w0=>?_;rcases i with rfl|rfl|rfl|rfl|rfl|rfl|rfl|rfl
  all_goals
   apply RG;simp only[go_sem,dL];exact az rfl hd (r:=[_]) rfl (aC _) ⟨rfl,rfl⟩
 have two:∀{a b:al},x=a\/x=b->(x == a)=true\/((x == a)=false/\(x == b)=true):=fun{a b} h=>by
  cases ha:(x == a)with
  |true=>exact .inl rfl
  |false=>
   rcases h with rfl|rfl
   .simp at ha
   .exact .inr ⟨rfl,by simp⟩
 have g:(k=2\/k=3\/k=4\/k=7\/k=18\/k=19)\/(k=1\/k=6\/k=8\/k=9\/k=10\/k=11\/k=12\/k=17)\/k=5\/k=13\/k=14\/k=15\/k=16:=by omega
 rcases g with g|g|rfl|rfl|rfl|rfl|rfl
 .refine p g ?_;unfold lq at h
  rwa [ag g]at h
 .refine rest ?_ g;unfold lq at h
  rwa [ab O,ab O,ab O,ab O,ab O,ab O]at h
 .have h:x=nZ\/x=nY:=h;intro hd;refine aP 50 func169 fun w0=>?_;rcases two h with e|⟨e,e2⟩
  .have e:(x == [105,110,116])=true:=e;apply RG;simp only[go_sem,dL,e];exact az rfl hd (r:=[_]) rfl (aC _) ⟨rfl,rfl⟩
  .have e:(x == [105,110,116])=false:=e;have e2:(x == [98,111,111,108])=true:=e2;apply RG;simp only[go_sem,dL,e,e2];exact az rfl hd (r:=[_]) rfl (aC _) ⟨rfl,rfl⟩
 .have h:fQ x≠9:=h;intro hd;refine aP 50 func169 fun w0=>?_;apply RG;simp only[go_sem,dL];refine X4 rfl HS Ja ?_;rintro v H2⟨rfl,rfl⟩;rw[ab h];have h3:decide ((fQ x:Int)>=0)=true:=bl O;refine dq h3 ?_;exact az rfl hd (r:=[_]) rfl (aC _) ⟨rfl,rfl⟩
 .have h:x=sd\/x=o5:=h;intro hd;refine aP 50 func169 fun w0=>?_;rcases two h with e|⟨e,e2⟩
  .have e:(x == [33])=true:=e;apply RG;simp only[go_sem,dL,e];exact az rfl hd (r:=[_]) rfl (aC _) ⟨rfl,rfl⟩
  .have e:(x == [33])=false:=e;have e2:(x == [45])=true:=e2;apply RG;simp only[go_sem,dL,e,e2];exact az rfl hd (r:=[_]) rfl (aC _) ⟨rfl,rfl⟩
 .have h:mE 2 x=true:=h;intro hd;refine aP 50 func169 fun w0=>?_;apply RG;simp only[go_sem,dL];refine fF hd rfl DH (Ed (k:=2) l m) ?_;rintro o s d f c⟨rfl,rfl⟩;refine dq h ?_;exact az rfl f (r:=[_]) rfl c ⟨rfl,rfl⟩
 .have h:x=o6\/x=qD:=h;intro hd;refine aP 50 func169 fun w0=>?_;rcases two h with e|⟨e,e2⟩
  .have e:(x == [116,114,117,101])=true:=e;apply RG;simp only[go_sem,dL,e];exact az rfl hd (r:=[_]) rfl (aC _) ⟨rfl,rfl⟩
  .have e:(x == [116,114,117,101])=false:=e;have e2:(x == [102,97,108,115,101])=true:=e2;apply RG;simp only[go_sem,dL,e,e2];exact az rfl hd (r:=[_]) rfl (aC _) ⟨rfl,rfl⟩
def PA:ax prog 171:=⟨_,func171,rfl,rfl⟩
def og(I:PH)(c:List Value)(r:Nat×List Nat):Prop:=∃a,c=[.int .u8 r.1,a]/\gk I a r.2
def og.len(c:List Value)(r:Nat×List Nat)(h:og I c r):c.length=2:=by obtain⟨a,e,_⟩:=h;rw[e];rfl
def og.le{r:Nat×List Nat}(h:og I c r)(k:I.le J):og J c r:=by obtain⟨a,e,h⟩:=h;exact⟨a,e,h.le k⟩
abbrev gL(I:PH)(v:Value)(l:List (Nat×List Nat)):Prop:=Sl og I v l
def gL.le{l:List (Nat×List Nat)}(h:gL I v l)(k:I.le J):gL J v l:=Sl.le (R:=og) (fun{I J c a} h k=>og.le h k) h k
def IF{I:PH}:∀l:List Nat,LR (tT I) (l.map fun k=>.int .u8 (k:Nat)) l
 | []=>rfl
 |_::l=>⟨_,_,rfl,rfl,IF l⟩
variable{b:Nat}
def nU{n:Nat}(h:aX I b 0 (l.map fun k=>.int .u8 (k:Nat)))(a:l.length=n):gk I (.slice (some ⟨b,0,none⟩) n n) l:=⟨_,_,by rw[a],.inr ⟨b,0,_,rfl,h,IF l⟩⟩
def qy{h:Nat}{K:List Nat}(c:aX I b 0 [.int .u8 h,v])(a:gk I v K):gL I (.slice (some ⟨b,0,none⟩) 1 1) [(h,K)]:=
 ⟨_,_,rfl,.inr ⟨b,0,_,rfl,c,_,_,rfl,⟨_,rfl,a⟩,rfl⟩⟩
def ES{h h':Nat}{v':Value}{K K':List Nat}(c:aX I b 0 [.int .u8 h,v,.int .u8 h',v'])(a:gk I v K)(d:gk I v' K'):gL I (.slice (some ⟨b,0,none⟩) 2 2) [(h,K),(h',K')]:=
 ⟨_,_,rfl,.inr ⟨b,0,_,rfl,c,_,_,rfl,⟨_,rfl,a⟩,_,_,rfl,⟨_,rfl,d⟩,rfl⟩⟩
def Kb{h h' h2:Nat}{v' v2:Value}{K K' K2:List Nat}(c:aX I b 0 [.int .u8 h,v,.int .u8 h',v',.int .u8 h2,v2])(a:gk I v K)(d:gk I v' K')(a2:gk I v2 K2):gL I (.slice (some ⟨b,0,none⟩) 3 3) [(h,K),(h',K'),(h2,K2)]:=
 ⟨_,_,rfl,.inr ⟨b,0,_,rfl,c,_,_,rfl,⟨_,rfl,a⟩,_,_,rfl,⟨_,rfl,d⟩,_,_,rfl,⟨_,rfl,a2⟩,rfl⟩⟩
theorem Vh{k:Nat}(hk:1<=k/\k<=19):aT prog 171 #[.int .u8 k] I [] fun r I2 qs=>qs=[]/\gL I2 r (rl k):=by
 intro cB;refine aP 68 func171 fun w0=>?_;refine ai ?_;refine cH cB (by exact nT) rfl rfl rfl rfl rfl af fun b6 I1 cA U c2=>?_;refine ai ?_;refine cH cA (by exact nT) rfl rfl rfl rfl rfl af fun b7 I2 cy T c1=>?_;refine ai ?_;refine cH cy (by exact nT) rfl rfl rfl rfl rfl af fun b8 I3 cx S c0=>?_;refine ai ?_;refine cH cx (by exact lh) rfl rfl rfl rfl rfl af fun b10 I4 cs R cj=>?_;refine ai ?_;refine cH cs (by exact nT) rfl rfl rfl rfl rfl af fun b11 I5 cr Q ci=>?_;refine ai ?_;refine cH cr (by exact lh) rfl rfl rfl rfl rfl af fun b15 I6 cp P cf=>?_;refine ai ?_;refine cH cp (by exact nT) rfl rfl rfl rfl rfl af fun b16 I7 cn N cc=>?_;refine ai ?_;refine cH cn (by exact nT) rfl rfl rfl rfl rfl af fun b18 I8 cm L cb=>?_;refine ai ?_;refine cH cm (by exact nT) rfl rfl rfl rfl rfl af fun b20 I9 cl K ca=>?_;refine ai ?_;refine cH cl (by exact lh) rfl rfl rfl rfl rfl af fun b22 dT a3 v b5=>?_;refine ai ?_;refine cH a3 (by exact nT) rfl rfl rfl rfl rfl af fun b23 dx a2 u b4=>?_;refine ai ?_;refine cH a2 (by exact lh) rfl rfl rfl rfl rfl af fun b25 dw a1 t b3=>?_;refine ai ?_;refine cH a1 (by exact lh) rfl rfl rfl rfl rfl af fun b28 dv a0 s b2=>?_;refine ai ?_;refine cH a0 (by exact lh) rfl rfl rfl rfl rfl af fun b31 dk aS q b1=>?_;refine ai ?_;refine cH aS (by exact nT) rfl rfl rfl rfl rfl af fun b34 dd aq p b0=>?_;refine ai ?_;refine cH aq (by exact nT) rfl rfl rfl rfl rfl af fun b36 dc ap o bx=>?_;refine ai ?_;refine cH ap (by exact lh) rfl rfl rfl rfl rfl af fun b38 da an n bs=>?_;refine ai ?_;refine cH an (by exact nT) rfl rfl rfl rfl rfl af fun b41 c9 am m bc=>?_;refine ai ?_;refine cH am (by exact lh) rfl rfl rfl rfl rfl af fun b43 c8 ac l bb=>?_;refine ai ?_
 refine cH ac (by exact lh) rfl rfl rfl rfl rfl af fun b46 c7 aa j ba=>?_;refine ai ?_;refine cH aa (by exact lh) rfl rfl rfl rfl rfl af fun b49 c6 Z i a9=>?_;refine ai ?_;refine cH Z (by exact lh) rfl rfl rfl rfl rfl af fun b52 c5 X h a7=>?_;refine ai ?_;refine cH X (by exact lh) rfl rfl rfl rfl rfl af fun b57 c4 W g a6=>?_;refine ai ?_;refine cH W (by exact lh) rfl rfl rfl rfl rfl af fun b60 c3 V f a5=>?_;refine ai ?_;refine cH V (by exact lh) rfl rfl rfl rfl rfl af fun b63 a b e a4=>?_;have w:=aC a;have x:=D e w;have y:=D f x;have z:=D g y;have A:=D h z;have B:=D i A;have m19:=D j B;have m18:=D l m19;have m17:=D m m18;have m16:=D n m17;have m15:=D o m16;have C:=D p m15;have F:=D q C;have G:=D s F;have H:=D t G;have J:=D u H;have m9:=D v J;have m8:=D K m9;have m7:=D L m8;have m6:=D N m7;have m5:=D P m6;have m4:=D Q m5;have m3:=D R m4;have m2:=D S m3;have m1:=D T m2;have c:=D U m1;have d:gk a (.slice (some ⟨b6,0,none⟩) 7 7) bV:=nU ((bz c2 (by simp[av,Value.cells,bV,dN]) (by simp[av,Value.cells,bV,dN])).le m1) rfl;have K7:gk a (.slice (some ⟨b7,0,none⟩) 9 9) dN:=nU ((bz c1 (by simp[av,Value.cells,bV,dN]) (by simp[av,Value.cells,bV,dN])).le m2) rfl;have K8:gk a (.slice (some ⟨b8,0,none⟩) 2 2) [2,3]:=nU ((bz c0 (by simp[av,Value.cells,bV,dN]) (by simp[av,Value.cells,bV,dN])).le m3) rfl;have K11:gk a (.slice (some ⟨b11,0,none⟩) 1 1) [5]:=nU ((bz ci (by simp[av,Value.cells,bV,dN]) (by simp[av,Value.cells,bV,dN])).le m5) rfl
 have K16:gk a (.slice (some ⟨b16,0,none⟩) 1 1) [4]:=nU ((bz cc (by simp[av,Value.cells,bV,dN]) (by simp[av,Value.cells,bV,dN])).le m7) rfl;have K18:gk a (.slice (some ⟨b18,0,none⟩) 1 1) [5]:=nU ((bz cb (by simp[av,Value.cells,bV,dN]) (by simp[av,Value.cells,bV,dN])).le m8) rfl;have K20:gk a (.slice (some ⟨b20,0,none⟩) 1 1) [6]:=nU ((bz ca (by simp[av,Value.cells,bV,dN]) (by simp[av,Value.cells,bV,dN])).le m9) rfl;have K23:gk a (.slice (some ⟨b23,0,none⟩) 1 1) [5]:=nU ((bz b4 (by simp[av,Value.cells,bV,dN]) (by simp[av,Value.cells,bV,dN])).le H) rfl;have K34:gk a (.slice (some ⟨b34,0,none⟩) 1 1) [6]:=nU ((bz b0 (by simp[av,Value.cells,bV,dN]) (by simp[av,Value.cells,bV,dN])).le m15) rfl;have K36:gk a (.slice (some ⟨b36,0,none⟩) 2 2) [6,8]:=nU ((bz bx (by simp[av,Value.cells,bV,dN]) (by simp[av,Value.cells,bV,dN])).le m16) rfl;have K41:gk a (.slice (some ⟨b41,0,none⟩) 1 1) [6]:=nU ((bz bc (by simp[av,Value.cells,bV,dN]) (by simp[av,Value.cells,bV,dN])).le m18) rfl;have R10:gL a (.slice (some ⟨b10,0,none⟩) 1 1) [(2,[2,3])]:=qy ((bz cj (by simp[av,Value.cells]) (by simp[av,Value.cells])).le m4) K8;have R15:gL a (.slice (some ⟨b15,0,none⟩) 2 2) [(0,[5]),(1,bV)]:=ES ((bz cf (by simp[av,Value.cells]) (by simp[av,Value.cells])).le m6) K11 d;have R22:gL a (.slice (some ⟨b22,0,none⟩) 3 3) [(2,[4]),(1,[5]),(0,[6])]:=Kb ((bz b5 (by simp[av,Value.cells]) (by simp[av,Value.cells])).le J) K16 K18 K20;have R25:gL a (.slice (some ⟨b25,0,none⟩) 1 1) [(0,[5])]:=qy ((bz b3 (by simp[av,Value.cells]) (by simp[av,Value.cells])).le G) K23;have R28:gL a (.slice (some ⟨b28,0,none⟩) 1 1) [(2,dN)]:=qy ((bz b2 (by simp[av,Value.cells]) (by simp[av,Value.cells])).le F) K7
 have R31:gL a (.slice (some ⟨b31,0,none⟩) 1 1) [(0,bV)]:=qy ((bz b1 (by simp[av,Value.cells]) (by simp[av,Value.cells])).le C) d;have R38:gL a (.slice (some ⟨b38,0,none⟩) 3 3) [(0,bV),(0,[6]),(1,[6,8])]:=Kb ((bz bs (by simp[av,Value.cells]) (by simp[av,Value.cells])).le m17) d K34 K36;have R43:gL a (.slice (some ⟨b43,0,none⟩) 2 2) [(0,bV),(0,[6])]:=ES ((bz bb (by simp[av,Value.cells]) (by simp[av,Value.cells])).le m19) d K41;have R46:gL a (.slice (some ⟨b46,0,none⟩) 1 1) [(1,bV)]:=qy ((bz ba (by simp[av,Value.cells]) (by simp[av,Value.cells])).le B) d;have R49:gL a (.slice (some ⟨b49,0,none⟩) 1 1) [(0,bV)]:=qy ((bz a9 (by simp[av,Value.cells]) (by simp[av,Value.cells])).le A) d;have R52:gL a (.slice (some ⟨b52,0,none⟩) 1 1) [(0,bV)]:=qy ((bz a7 (by simp[av,Value.cells]) (by simp[av,Value.cells])).le z) d;have R57:gL a (.slice (some ⟨b57,0,none⟩) 2 2) [(0,bV),(0,bV)]:=ES ((bz a6 (by simp[av,Value.cells]) (by simp[av,Value.cells])).le y) d d;have R60:gL a (.slice (some ⟨b60,0,none⟩) 1 1) [(0,bV)]:=qy ((bz a5 (by simp[av,Value.cells]) (by simp[av,Value.cells])).le x) d;have R63:gL a (.slice (some ⟨b63,0,none⟩) 1 1) [(2,bV)]:=qy ((bz a4 (by simp[av,Value.cells]) (by simp[av,Value.cells])).le w) d;have hc:k=1\/k=2\/k=3\/k=4\/k=6\/k=7\/k=8\/k=9\/k=10\/k=11\/k=12\/k=13\/k=14\/k=19\/(k=5\/k=15\/k=16\/k=17\/k=18):=by omega
 rcases hc with rfl|rfl|rfl|rfl|rfl|rfl|rfl|rfl|rfl|rfl|rfl|rfl|rfl|rfl|hc
 .apply RG;simp only[go_sem,dL,gH];exact az rfl b (r:=[_]) rfl c ⟨rfl,R10⟩
 .apply RG;simp only[go_sem,dL,gH];exact az rfl b (r:=[_]) rfl c ⟨rfl,R15⟩
 .apply RG;simp only[go_sem,dL,gH];exact az rfl b (r:=[_]) rfl c ⟨rfl,R22⟩
 .apply RG;simp only[go_sem,dL,gH];exact az rfl b (r:=[_]) rfl c ⟨rfl,R25⟩
 .apply RG;simp only[go_sem,dL,gH];exact az rfl b (r:=[_]) rfl c ⟨rfl,R28⟩
 .apply RG;simp only[go_sem,dL,gH];exact az rfl b (r:=[_]) rfl c ⟨rfl,R31⟩
 .apply RG;simp only[go_sem,dL,gH];exact az rfl b (r:=[_]) rfl c ⟨rfl,R38⟩
 .apply RG;simp only[go_sem,dL,gH];exact az rfl b (r:=[_]) rfl c ⟨rfl,R43⟩
 .apply RG;simp only[go_sem,dL,gH];exact az rfl b (r:=[_]) rfl c ⟨rfl,R46⟩
 .apply RG;simp only[go_sem,dL,gH];exact az rfl b (r:=[_]) rfl c ⟨rfl,R49⟩
 .apply RG;simp only[go_sem,dL,gH];exact az rfl b (r:=[_]) rfl c ⟨rfl,R52⟩
 .apply RG;simp only[go_sem,dL,gH];exact az rfl b (r:=[_]) rfl c ⟨rfl,R57⟩
 .apply RG;simp only[go_sem,dL,gH];exact az rfl b (r:=[_]) rfl c ⟨rfl,R60⟩
 .apply RG;simp only[go_sem,dL,gH];exact az rfl b (r:=[_]) rfl c ⟨rfl,R63⟩
 .rcases hc with rfl|rfl|rfl|rfl|rfl
  all_goals
   apply RG;simp only[go_sem,dL,gH];exact az rfl b (r:=[_]) rfl c ⟨rfl,none,0,rfl,.inl rfl⟩
end Go.Proofs.YtfaclfkpnmcmlaaGreatDoor
namespace Go.Sx
open Go
section
variable {C:Cx} {P:Program} {k:List Item} {σ:St} {H:PH}
variable{v z:Value}{S:Value->Value->Prop}{r:Nat}{mt kt et:TypeId}
def TC(K:Maps.Keyed P kt)(hm:P.underlying mt=some (.map kt et))(m:bk P et=some z)(h:eQ P H r kt S){x:Value}(I:fg P kt x)(hs:S x v)(w:World)(J:Sub H w):
  (Instr.lookup mt (.map (some r)) x false).run P w=.ok v w:=by
 have G:(zeroValue et).run P w=.ok z w:=by
  unfold bk at m;cases hi:P.info? et with
  |none=>rw[hi]at m;cases m
  |some i=>rw[hi]at m;simp only[dz]at m;simp[zeroValue,typeInfo,program,Sem.run,hi,m]
 obtain⟨q,g,a,b,c,d⟩:=h;obtain⟨l,B⟩:=I;have n:(getObj r).run P w=.ok (.map q g) w:=by simp[getObj,Sem.run,J _ _ a]
 obtain⟨u,p,f,t⟩:=(d x v).1 hs;rcases K.find w B q.toList b with ⟨h1,h2⟩|⟨j,e,h1,h2,h3⟩
 .exact absurd f (h2 u p)
 .have:e=u:=by
   have o:e∈q.toList:=cY h2;by_cases F:e=u
   .exact F
   .exfalso;rcases List.mem_iff_getElem.1 o with ⟨s,A,rfl⟩
    rcases List.mem_iff_getElem.1 p with ⟨i2,y,rfl⟩
    rcases sx s i2 with h|h|h
    .exact List.pairwise_iff_getElem.1 c s i2 A y h (h3.trans f.symm)
    .subst h;exact F rfl
    .exact List.pairwise_iff_getElem.1 c i2 s y A h (f.trans h3.symm)
  subst this;subst t;have L:=K.check w q.isEmpty B;simp[Instr.lookup,eV hm,Result.andThen,n,L,h1,G]
def TB(K:Maps.Keyed P kt)(hm:P.underlying mt=some (.map kt et))(g:bk P et=some z)(h:eQ P H r kt S){x:Value}(q:fg P kt x)(hs:∀v,¬S x v)(w:World)(s:Sub H w):
  (Instr.lookup mt (.map (some r)) x false).run P w=.ok z w:=by
 obtain⟨n,f,a,b,c,d⟩:=h;obtain⟨l,o⟩:=q;have m:(getObj r).run P w=.ok (.map n f) w:=by simp[getObj,Sem.run,s _ _ a]
 have p:(zeroValue et).run P w=.ok z w:=by
  unfold bk at g;cases hi:P.info? et with
  |none=>rw[hi]at g;cases g
  |some i=>rw[hi]at g;simp only[dz]at g;simp[zeroValue,typeInfo,program,Sem.run,hi,g]
 rcases K.find w o n.toList b with ⟨h1,h2⟩|⟨j,e,h1,h2,h3⟩
 .have t:=K.check w n.isEmpty o;simp[Instr.lookup,eV hm,Result.andThen,m,t,h1,p]
 .exact absurd ((d x e.val).2 ⟨e,cY h2,h3,rfl⟩) (hs _)
variable{key:Value}{x y:Operand}{o:Oper}
def Jg(K:Maps.Keyed P kt)(hm:P.underlying mt=some (.map kt et))(b:bk P et=some z)(aa:o.op=.lookup mt x y false)
  (d:ev σ x=.v (.map (some r))) (c:ev σ y=.v key) (h:eQ P H r kt S) (f:fg P kt key)  (hs:S key v\/v=z/\∀u,¬S key u) :
  bQ σ o.op=true/\∀w,Sub H w->(execOp (bf σ) o).run P w=.ok (.value v) w:=by
 constructor
 .simp[bQ,aa,fB,Op.operands,d,c,fO]
 .intro w e;have a:(Instr.lookup mt (.map (some r)) key false).run P w=.ok v w:=by
   rcases hs with hs|⟨rfl,hs⟩
   .exact TC K hm b h f hs w e
   .exact TB K hm b h f hs w e
  simp[execOp,aa,bf,d,c,a,Result.andThen]
variable{ol:List Oper}
def L5{rem:List Oper}(K:Maps.Keyed C.P kt)(hm:C.P.underlying mt=some (.map kt et))(a:bk C.P et=some z)(d:bH ol σ o=some true)(aa:o.op=.lookup mt x y false)
  (c:ev σ x=.v (.map (some r))) (b:ev σ y=.v key) (h:eQ C.P H r kt S) (e:fg C.P kt key)  (hs:S key v\/v=z/\∀u,¬S key u)
  (f:RC C (.op ol rem k) (σ.put o.dst (.v v)) H):RC C (.op ol (o::rem) k) σ H:=by
 obtain⟨h1,h2⟩:=Jg K hm a aa c b h e hs;exact tX _ d h1 h2 f
def Mi{fr:cu}{str:cw}{i:Nat}{l:List (Nat×Oper)}(K:Maps.Keyed C.P kt)(hm:C.P.underlying mt=some (.map kt et))(a:bk C.P et=some z)(hf:fr.h.contains i=true)(d:bH ol σ o=some true)(aa:o.op=.lookup mt x y false)
  (c:ev σ x=.v (.map (some r))) (b:ev σ y=.v key) (h:eQ C.P H r kt S) (e:fg C.P kt key)  (hs:S key v\/v=z/\∀u,¬S key u)
  (f:RD C ol fr str l k (σ.put o.dst (.v v)) H):RD C ol fr str ((i,o)::l) k σ H:=by
 obtain⟨h1,h2⟩:=Jg K hm a aa c b h e hs;exact zf _ hf d h1 (by rw[aa];rfl) h2 f
def Wa{t e:TypeId}{size bytes n:Nat}(ht:cL P t e size bytes)(c:bk P e=some z)(aa:o.op=.makeSlice t x y)(l:ev σ x=.v (.int .i64 n))(j:ev σ y=.v (.int .i64 n))(hb:bytes*n<=281474976710656)(h:n*size<=16777216):
  bQ σ o.op=true/\eD P (execOp (bf σ) o) H fun sv H2=>∃b,H b=none/\sv=.v (.slice (some ⟨b,0,none⟩) n n)/\H2=H.put b (.cells (madeCells z.cells (n*size)) e (0,0)):=by
 constructor
 .simp[bQ,aa,fB,Op.operands,l,j,fO]
 .intro w r;obtain⟨i,f,u,a2,a3,a4,a5,B,s⟩:=ht;have g:f=z:=by unfold bk at c;rw[a2]at c;simp only[dz]at c;rw[a3]at c;exact cW c
  subst g;subst a4;have A:n*1<=n*i.size:=Nat.mul_le_mul_left _ s;have a:=run_makeSlice (P:=P) w t e i f u a2 a3 .i64 .i64 (n:Int) (n:Int) O (Int.le_refl _) (by rw[Int.toNat_natCast];exact h) (by rw[a5,<-Int.natCast_mul];generalize bytes*n=q at hb;omega) O;simp only[Int.toNat_natCast]at a;obtain⟨p,m⟩:=cM.new r (.cells (madeCells f.cells (n*i.size)) e (0,0));have d:(execOp (bf σ) o).run P w=.ok (.value (.slice (some ⟨w.heap.size,0,none⟩) n n)) { w with heap:=w.heap.push (.cells (madeCells f.cells (n*i.size)) e (0,0)) }:=by simp only[execOp,aa,bf,l,j,eI,a];rw[World.alloc_eq];rfl
  rw[d];exact⟨_,m,w.heap.size,p,rfl,rfl⟩
def L7{rem:List Oper}{t e:TypeId}{size bytes n:Nat}{I:PH}{l:List PH}(hd:Dj (I::l))(ht:cL C.P t e size bytes)(g:bk C.P e=some z)(j:bH ol σ o=some true)(aa:o.op=.makeSlice t x y)(i:ev σ x=.v (.int .i64 n))(h:ev σ y=.v (.int .i64 n))(hb:bytes*n<=281474976710656)(f:n*size<=16777216)
  (m:∀b,Dj (I::sg b (.cells (madeCells z.cells (n*size)) e (0,0))::l)->RC C (.op ol rem k) (σ.put o.dst (.v (.slice (some ⟨b,0,none⟩) n n))) (U (I::sg b (.cells (madeCells z.cells (n*size)) e (0,0))::l))):RC C (.op ol (o::rem) k) σ (U (I::l)):=by
 obtain⟨h1,h2⟩:=Wa (H:=U (I::l)) ht g aa i h hb f;refine jw j h1 (h2.mono fun sv H2 ⟨b,a,c,d⟩=>?_);subst c;subst d;obtain⟨e1,e2⟩:=vu hd (o:=.cells (madeCells z.cells (n*size)) e (0,0)) a;rw[e1];exact m b e2
end
end Go.Sx
namespace Go.Proofs.YtfaclfkpnmcmlaaGreatDoor
open Go Go.Sx Dg Syn
def Pi:ax prog 107:=⟨_,func107,rfl,rfl⟩
def DZ:ax prog 53:=⟨_,func53,rfl,rfl⟩
def Ci(P:Program)(T:TypeId)(cs:Array Value):Prop:=P.eqGuardType P.depth T=false/\∀w,(Op.equalIn 10000 T (.agg cs) (.agg cs)).run P w=.ok true w
variable{cs:Array Value}{T2:TypeId}
def V5{P:Program}{σ:St}{H:PH}{o:Oper}{T:TypeId}{op:BinOp}{x y:Operand}(aa:o.op=.binOp op T x y T2)(d:op=.eql\/op=.neq)(c:ev σ x=.v (.agg cs))(b:ev σ y=.v (.agg cs))(a:Ci P T cs):
  bQ σ o.op=true/\∀w,Sub H w->(execOp (bf σ) o).run P w=.ok (.value (.bool (match op with | .neq=>false|_=>true))) w:=by
 constructor
 .simp[bQ,aa,fB,Op.operands,c,b,fO]
 .intro w _;rcases d with rfl|rfl
  .simp[execOp,aa,bf,c,b,eI,run_eqGuard_agg w .eql T x y cs cs a.1,run_eql_struct,a.2 w,Result.andThen]
  .simp[execOp,aa,bf,c,b,eI,run_eqGuard_agg w .neq T x y cs cs a.1,run_neq_struct,a.2 w,Result.andThen]
variable{i:Nat}
def Mk{C:Cx}{ol:List Oper}{fr:cu}{str:cw}{k:List Item}{σ:St}{H:PH}{o:Oper}{l:List (Nat×Oper)}{T:TypeId}{x y:Operand}(hf:fr.h.contains i=true)(e:bH ol σ o=some true)(aa:o.op=.binOp .neq T x y T2)(d:ev σ x=.v (.agg cs))(c:ev σ y=.v (.agg cs))(f:Ci C.P T cs)(h:RD C ol fr str l k (σ.put o.dst (.v (.bool false))) H):RD C ol fr str ((i,o)::l) k σ H:=by obtain⟨b,a⟩:=V5 (H:=H) aa (.inr rfl) d c f;exact zf (.bool false) hf e b (by rw[aa];rfl) a h
def OH(a b c:Int):Ci prog 181 #[.int .i64 a,.int .i64 b,.int .i64 c]:=by
 refine⟨by kernel_rfl,fun w=>?_⟩;have g:prog.underlying 181=some (.struct (prog.fieldsOf 181)):=by kernel_rfl
 have hp:prog.stoodInHeld 181=false:=by kernel_rfl
 have hf:(prog.fieldsOf 181).toList=[⟨ "Var",3,0,false,"","",0⟩,⟨ "Low",3,1,false,"","",8⟩,⟨ "High",3,2,false,"","",16⟩]:=by unfold Program.fieldsOf;rw[FG]
 have f:(part 3 #[.int .i64 a,.int .i64 b,.int .i64 c] 0).run prog w=.ok (.int .i64 a) w:=x8 (by unfold l6;rw[fI];rfl);have e:(part 3 #[.int .i64 a,.int .i64 b,.int .i64 c] 1).run prog w=.ok (.int .i64 b) w:=x8 (by unfold l6;rw[fI];rfl);have d:(part 3 #[.int .i64 a,.int .i64 b,.int .i64 c] 2).run prog w=.ok (.int .i64 c) w:=x8 (by unfold l6;rw[fI];rfl);rw[show (10000:Nat)=9998+1+1 from rfl,run_equalIn_agg w (9998+1) 181 _ _ g hp,hf];simp[Op.eqFields,eI,f,e,d,Result.andThen,run_equalIn_int w 9998 3 .i64 .i64 _ _ se]
def zS(a v2:Value)(n i:Nat):St:=⟨dn 26 [(0,.v a),(1,.v v2),(11,.v a),(12,.v (E n)),(13,.v (E i))],[]⟩
def OI{H:PH}{v1 v2:Value}{Z:List T}(h1:lG H v1 Z)(h2:lG H v2 Z)(s:Z.length<2^40):br prog 107 #[v1,v2] H fun r H2=>r=.bool true/\H2=H:=by
 obtain⟨q,c1,rfl,g1⟩:=h1;obtain⟨a2,c2,rfl,g2⟩:=h2;refine aP 26 func107 fun w0=>?_;have h0:((Z.length:Int) != (Z.length:Int))=false:=by simp
 apply RG;simp only[go_sem,h0];refine bY (fun x=>Z.length-x) (zS (.slice q Z.length c1) (.slice a2 Z.length c2) Z.length) (fun i H2=>H2=H/\i<=Z.length) 0 ak (by simp only[go_sem,Y,zS]) ⟨rfl,aF _⟩ ?_;rintro i H2 ⟨rfl,hi⟩ d;simp only[zS];rcases aI i Z.length with c|p
 .have f:=Z5 i Z.length;have e1:=Z7 i;obtain⟨t,ht⟩:∃t,Z[i]?=some t:=⟨_,aZ c⟩;have j:(ln Z).length=Z.length*3:=yH _;have g:∀{a:Option Addr},(Z=[]\/∃b,a=some ⟨b,0,none⟩/\aX H2 b 0 (ln Z))->∃b,a=some ⟨b,0,none⟩/\aX H2 b (i*3) (i8 (T.dec Z t)):=by
   rintro a (h|⟨b,e,h⟩)
   .rw[h]at c;simp at c
   .have k:=h.sub (i*3) 3 O;rw[yG ht,ii]at k;exact⟨b,e,k⟩
  obtain⟨w,rfl,o⟩:=g g1;obtain⟨u,rfl,m⟩:=g g2;refine be f ?_;refine bE [0,1,2,3,4,5,6,7,8] [3,7,8] [] ?_;refine bR ?_
  try refine⟨O,?_⟩
  refine X6 (l:=i8 (T.dec Z t)) (v:=ew (T.dec Z t)) rfl (by simpa using o) (.inl ⟨sO,rfl⟩) ?_;apply bd;simp only[go_sem,E,ew]
  try refine⟨O,?_⟩
  refine X6 (l:=i8 (T.dec Z t)) (v:=ew (T.dec Z t)) rfl (by simpa using m) (.inl ⟨sO,rfl⟩) ?_;apply bd;simp only[go_sem,E,ew];refine Mk rfl rfl rfl rfl rfl (OH (T.dec Z t).1 (T.dec Z t).2.1 (T.dec Z t).2.2) ?_;refine bR ?_;apply aL;refine be e1 ?_;exact d (i+1) _ _ O ak (by simp only[go_sem,Y,zS]) ⟨rfl,c⟩
 .have:i=Z.length:=by omega
  subst this;have f:=Z6 Z.length;refine be f ?_;exact aU (r:=[_]) rfl ⟨rfl,rfl⟩
variable{t:T}
def Wv(h:t.ok 0):(T.subs t).length+1<=2^24:=by obtain⟨us,e1,e2,_⟩:=(T.vis_spec t h O [] T.Seq.nil).2.2;rw[aM]at e1;show (t.vis []).length+1<=_;rw[e1];exact e2
def EW{H:PH}{v1 v2:Value}(h1:bU H v1 t)(h2:bU H v2 t):br prog 53 #[v1,v2] H fun r H2=>r=.bool true/\H2=H:=by
 have c:=Wv h1.1;obtain⟨_,b,rfl,g1⟩:=h1;obtain⟨_,a,rfl,g2⟩:=h2;obtain⟨d,c1,rfl,_⟩:=id g1;obtain⟨a2,c2,rfl,_⟩:=id g2;refine aP 17 func53 fun w0=>?_
 try simp only[E]
 refine ai ?_;refine X4 rfl Pi (OI g1 g2 O) ?_;rintro v H2⟨rfl,rfl⟩;refine ai ?_;exact aU (r:=[_]) rfl ⟨rfl,rfl⟩
def lD(I:PH)(c:List Value)(t:T):Prop:=∃a k,c=[sD a k t,rD t]/\bU I (.agg #[sD a k t,rD t]) t
variable{I:PH}
def lD.len(c:List Value)(t:T)(h:lD I c t):c.length=2:=by obtain⟨a,k,e,_⟩:=h;rw[e];rfl
def lD.le{J:PH}{c:List Value}(h:lD I c t)(k:I.le J):lD J c t:=by obtain⟨a,b,e,h⟩:=h;exact⟨a,b,e,h.le k⟩
abbrev qX(I A:PH)(v:Value)(l:List T):Prop:=Ow lD 50 2 I A v l
def qX.le{J A:PH}{v:Value}{l:List T}(h:qX I A v l)(k:I.le J):qX J A v l:=Ow.le (R:=lD) (fun{I J c a} h k=>lD.le h k) h k
def Uq{b n:Nat}(g:n<=3):qX I (sg b (.cells (madeCells (Value.agg #[.slice none 0 0,.int .i64 0]).cells (n*2)) 50 (0,0))) (.slice (some ⟨b,0,none⟩) n n) (List.replicate n (ff:T)):=by
 have h0:lD I [.slice none 0 0,.int .i64 0] ff:=⟨none,0,rfl,x5 I⟩;have f:madeCells (Value.agg #[.slice none 0 0,.int .i64 0]).cells (0*2)=([]:List Value).toArray:=by kernel_rfl
 have e:madeCells (Value.agg #[.slice none 0 0,.int .i64 0]).cells (1*2)=([Value.slice none 0 0,.int .i64 0]:List Value).toArray:=by kernel_rfl
 have d:madeCells (Value.agg #[.slice none 0 0,.int .i64 0]).cells (2*2)=([Value.slice none 0 0,.int .i64 0,Value.slice none 0 0,.int .i64 0]:List Value).toArray:=by kernel_rfl
 have c:madeCells (Value.agg #[.slice none 0 0,.int .i64 0]).cells (3*2)=([Value.slice none 0 0,.int .i64 0,Value.slice none 0 0,.int .i64 0,Value.slice none 0 0,.int .i64 0]:List Value).toArray:=by kernel_rfl
 have a:n=0\/n=1\/n=2\/n=3:=by omega
 rcases a with rfl|rfl|rfl|rfl
 .rw[f];exact⟨[],x7 rfl af,rfl⟩
 .rw[e];exact⟨[Value.slice none 0 0,.int .i64 0],x7 rfl af,⟨_,_,rfl,h0,rfl⟩⟩
 .rw[d];exact⟨[Value.slice none 0 0,.int .i64 0,Value.slice none 0 0,.int .i64 0],x7 rfl af,⟨_,_,rfl,h0,_,_,rfl,h0,rfl⟩⟩
 .rw[c];exact⟨[Value.slice none 0 0,.int .i64 0,Value.slice none 0 0,.int .i64 0,Value.slice none 0 0,.int .i64 0],x7 rfl af,⟨_,_,rfl,h0,_,_,rfl,h0,_,_,rfl,h0,rfl⟩⟩
def gU(l:List M)(s:Nat):T:=l.foldl (fun a n=>if n.slot=(s:Int)then a.or n.cond else a) ff
def oX(n:Nat)(l:List M):List T:=(List.range n).map (gU l)
def VO(l:List M)(m:M)(s:Nat):gU (l++[m]) s=if m.slot=(s:Int)then (gU l s).or m.cond else gU l s:=by simp[gU]
def VP(n:Nat):oX n []=List.replicate n (ff:T):=by
 unfold oX;refine List.ext_getElem? fun i=>?_;rw[jG,List.getElem?_replicate];split
 .rename_i h;rw[List.getElem?_range h];rfl
 .rename_i h;rw[fe (by simp;omega)];rfl
def Bz{n:Nat}(h:i<n)(l:List M):(oX n l)[i]?=some (gU l i):=by unfold oX;rw[jG,List.getElem?_range h];rfl
def yi(n:Nat)(l:List M):(oX n l).length=n:=by simp[oX]
def VQ{n:Nat}(h:i<n)(l:List M)(m:M)(hm:m.slot=(i:Int)):oX n (l++[m])=(oX n l).set i ((gU l i).or m.cond):=by
 refine List.ext_getElem? fun j=>?_;rw[vX];rcases aI j n with a|a
 .rw[Bz a,Bz a,VO,yi];by_cases e:i=j
  .subst e;rw[ag hm,ag rfl,ag h]
  .rw[ab e,ab O]
 .rw[fe (by rw[yi];exact a),ab O,fe (by rw[yi];exact a)]
def E6:∀(l:List M) (s:Nat),(∀m∈l,m.cond.ok 0)->(gU l s).ok 0/\∀c,(gU l s).at' c=l.any fun m=>decide (m.slot=(s:Int)) && m.cond.at' c:=by
 intro l s;have key:∀(l:List M) (a:T),a.ok 0->(∀m∈l,m.cond.ok 0)->(l.foldl (fun a n=>if n.slot=(s:Int)then a.or n.cond else a) a).ok 0/\∀c,(l.foldl (fun a n=>if n.slot=(s:Int)then a.or n.cond else a) a).at' c=(a.at' c || l.any fun m=>decide (m.slot=(s:Int)) && m.cond.at' c):=by
  intro l
  induction l with
  |nil=>intro a ha _;exact⟨ha,fun c=>by simp⟩
  |cons m l f=>
   intro a ha b;simp only[gW,List.any_cons];split
   .rename_i e;obtain⟨h1,h2⟩:=f (a.or m.cond) (T.or_ok ha (b m (.head _))) fun x d=>b x (.tail _ d);refine⟨h1,fun c=>?_⟩;rw[h2,T.or_at ha (b m (.head _)),bl e,Bool.true_and,Bool.or_assoc]
   .rename_i e;obtain⟨h1,h2⟩:=f a ha fun x d=>b x (.tail _ d);refine⟨h1,fun c=>?_⟩;rw[h2,cd e,Bool.false_and,me]
 intro b;obtain⟨h1,h2⟩:=key l ff trivial b;exact⟨h1,fun c=>by rw[gU,h2];rfl⟩
def zx{a b:T}(ha:a.ok 0)(hb:b.ok 0)(h:∀c,¬(a.at' c=true/\b.at' c=true)):a.and b=.lf false:=by refine T.ext (T.and_ok ha hb) (show (ff:T).ok 0 from trivial) fun c=>?_;rw[T.and_at ha hb];have:=h c;cases ha:a.at' c<;>cases hb:b.at' c<;>simp_all<;>rfl
def XK{a b:T}(ha:a.ok 0)(hb:b.ok 0)(h:np a b):a.and b.not=.lf false:=zx ha (T.not_ok hb) fun c ⟨h1,h2⟩=>by rw[T.not_at,h c h1]at h2;cases h2
def pA(I:PH)(L:List (Int×T))(S:Value->Value->Prop):Prop:=∀y u,S y u->∃o t,y=.int .i64 o/\bU I u t/\∀c,t.at' c=true->∃p∈L,p.1=o/\p.2.at' c=true
def pz(I Z:PH)(r:Nat)(L:List (Int×T)):Prop:=∃S,jv prog Z r 3 S/\pA I L S
variable{L:List (Int×T)}
def pz.le{J Z:PH}{r:Nat}(h:pz I Z r L)(k:I.le J):pz J Z r L:=by obtain⟨S,h1,h2⟩:=h;exact⟨S,h1,fun y u hs=>let ⟨o,t,e,hr,ha⟩:=h2 y u hs;⟨o,t,e,hr.le k,ha⟩⟩
def SA{o:Int}(h:-1<=o)(h2:o<1099511627776):fg prog 3 (.int .i64 o):=⟨_,Maps.keyOf_int_mk se (FP O O)⟩
variable{S:Value->Value->Prop}
def WQ(h:pA I L S)(o:Int):∃a k t,(S (.int .i64 o) (.agg #[sD a k t,rD t])\/(.agg #[sD a k t,rD t]:Value)=.agg #[.slice none 0 0,.int .i64 0]/\∀u,¬S (.int .i64 o) u)/\bU I (.agg #[sD a k t,rD t]) t/\∀c,t.at' c=true->∃p∈L,p.1=o/\p.2.at' c=true:=by
 by_cases d:∃u,S (.int .i64 o) u
 .obtain⟨u,b⟩:=d;obtain⟨o',t,e,hr,ha⟩:=h _ _ b;simp only[Value.int.injEq,eW]at e;subst e;obtain⟨a,k,rfl⟩:=hr.shape2;exact⟨a,k,t,.inl b,hr,ha⟩
 .exact⟨none,0,ff,.inr ⟨rfl,fun u b=>d ⟨u,b⟩⟩,x5 I,fun c f=>by cases f⟩
theorem pA.put{J:PH}(h:pA I L S)(k:I.le J){o:Int}{u:Value}{d:T}(ht:t.ok 0)(hd:d.ok 0)(hr:bU J u (t.or d))(ha:∀c,t.at' c=true->∃p∈L,p.1=o/\p.2.at' c=true):
  pA J (L++[(o,d)]) fun y x=>(y=.int .i64 o/\x=u)\/(y≠.int .i64 o/\S y x):=by
 rintro y x (⟨rfl,rfl⟩|⟨_,hs⟩)
 .refine⟨o,_,rfl,hr,fun c a=>?_⟩;rw[T.or_at ht hd,sr]at a;rcases a with a|a
  .obtain⟨p,hp,e⟩:=ha c a;exact⟨p,ge _ hp,e⟩
  .exact⟨(o,d),by simp,rfl,a⟩
 .obtain⟨o',t',e,hr,ha⟩:=h _ _ hs;exact⟨o',t',e,hr.le k,fun c a=>let ⟨p,hp,e⟩:=ha c a;⟨p,ge _ hp,e⟩⟩
def FX(k:Nat)(x:al):Prop:=FB k x/\x.length<2^40
def Xi{k:Nat}{x:al}(h:lq FX k x):lq FB k x/\x.length<2^40:=by
 unfold lq at h |-;by_cases h1:k=2\/k=3\/k=4\/k=7\/k=18\/k=19
 .rw[ag h1]at h |-;exact⟨⟨h.1.1,h.2⟩,h.1.2⟩
 rw[ab h1]at h |-;by_cases h2:k=5
 .rw[ag h2]at h |-;exact⟨h,by rcases h with rfl|rfl<;>decide⟩
 rw[ab h2]at h |-;by_cases h3:k=13
 .rw[ag h3]at h |-;refine⟨h,?_⟩;by_cases f:x.length<2^40
  .exact f
  .exfalso;apply h;have ne:∀y:al,y.length<2^40->x≠y:=fun y r e=>f (e▸r);have q:=ne Fs af;have p:=ne Fh af;have o:=ne Fj af;have n:=ne Fr af;have m:=ne Fo af;have l:=ne Fm af;have j:=ne Fl af;have i:=ne Fk af;have g:=ne Ft af;have d:=ne o5 af;have c:=ne Fq af;have b:=ne Fi af;have a:=ne Fp af;simp[fQ,q,p,o,n,m,l,j,i,g,d,c,b,a]
 rw[ab h3]at h |-;by_cases h4:k=14
 .rw[ag h4]at h |-;exact⟨h,by rcases h with rfl|rfl<;>decide⟩
 rw[ab h4]at h |-;by_cases h5:k=15
 .rw[ag h5]at h |-;exact⟨h.1,h.2⟩
 rw[ab h5]at h |-;by_cases h6:k=16
 .rw[ag h6]at h |-;exact⟨h,by rcases h with rfl|rfl<;>decide⟩
 rw[ab h6]at h |-;exact⟨h,by rw[h];decide⟩
def Ve(k:Nat):(rl k).length<=3:=by
 rcases aI k 20 with a|a
 .exact(by decide:∀k,k<20->(rl k).length<=3) k a
 .have:rl k=[]:=by
   unfold rl
   repeat rw[ab O]
  rw[this];decide
end Go.Proofs.YtfaclfkpnmcmlaaGreatDoor
