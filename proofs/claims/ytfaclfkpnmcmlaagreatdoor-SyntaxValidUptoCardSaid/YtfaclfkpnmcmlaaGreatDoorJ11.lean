import Derived.Test.YtfaclfkpnmcmlaaGreatDoorJ04
import Derived.DeepKeys4
set_option maxHeartbeats 8000000
set_option linter.all false
open Go.Proofs.Tryz hiding d6
namespace Go.Proofs.YtfaclfkpnmcmlaaGreatDoor
open Go Go.Sx Dg
def E(n:Nat):Value:=.int .i64 n
def ew(d:Nat×Nat×Nat):Value:=.agg #[E d.1,E d.2.1,E d.2.2]
def i8(d:Nat×Nat×Nat):List Value:=[E d.1,E d.2.1,E d.2.2]
def ln(Z:List T):List Value:=Z.flatMap fun t=>i8 (T.dec Z t)
def pt(b:Nat):Value:=.pointer (some ⟨b,0,none⟩)
def Hq{f:T->List Value}{n:Nat}(hf:∀t,(f t).length=n):∀(l:List T),(l.flatMap f).length=l.length*n
 | []=>by simp
 |t::l=>by simp only[pf,aE,hf,Hq hf l,bm];rw[ig];omega
def Hp{f:T->List Value}{n:Nat}(hf:∀t,(f t).length=n):∀(l:List T) (i:Nat) (t:T),l[i]?=some t->((l.flatMap f).drop (i*n)).take n=f t
 | [],i,t,h=>by simp at h
 |x::l,0,t,h=>by simp only[yQ,a8]at h;subst h;simp only[pf,Nat.zero_mul,gV];exact List.take_left' (hf x)
 |x::l,i+1,t,h=>by simp only[vW]at h;rw[pf,ig,qJ,Nat.add_comm,<-lr,List.drop_left' (hf x)];exact Hp hf l i t h
theorem yH(Z:List T):(ln Z).length=Z.length*3:=Hq (f:=fun t=>i8 (T.dec Z t)) (fun _=>rfl) Z
variable{t:T}{i:Nat}{Z:List T}
def yG(h:Z[i]?=some t):((ln Z).drop (i*3)).take 3=i8 (T.dec Z t):=Hp (f:=fun t=>i8 (T.dec Z t)) (fun _=>rfl) Z i t h
variable{v:Nat}
def Lq(s:T.Seq Z){l h:T}(a:T.isIn Z l)(b:T.isIn Z h):ln (Z++[.nd v l h])=ln Z++i8 (v,T.plc Z l,T.plc Z h):=by
 unfold ln;rw[yM];congr 1
 .rw[List.flatMap_def,List.flatMap_def];congr 1;refine m0 fun t ht=>?_;obtain⟨i,hi⟩:=List.mem_iff_getElem?.1 ht;obtain⟨c,l',d,e,_⟩:=s.2 i t hi;rw[T.dec_app s (show T.isIn Z t by subst e;exact ht)]
 .simp[i8,T.dec,T.plc_app a,T.plc_app b]
def xx(ms:List T)(y u:Value):Prop:=∃t∈ms,y=ew (T.dec ms t)/\u=E (T.plc ms t)
def po(mb:Nat)(ms:List T)(a:List PH):Prop:=∃A sv r Z,a=[A,sg mb (.cells #[sv,.map (some r)] 300 (0,0)),Z]/\dE A 181 3 sv ms.length (ln ms)/\jv prog Z r 181 (xx ms)/\T.Seq ms
def E2:1<prog.types.size:=ng (by kernel_rfl)
theorem FG:prog.underlying 181=some (.struct #[⟨ "Var",3,0,false,"","",0⟩,⟨ "Low",3,1,false,"","",8⟩,⟨ "High",3,2,false,"","",16⟩]):=by kernel_rfl
theorem SP:prog.keyTypeAt 3 181=true:=by kernel_rfl
theorem WL:prog.tiled 3 181=true:=by kernel_rfl
def Ck:Maps.Keyed prog 181:=by refine Maps.Keyed.of_law (deep_law (m:=3) O SP WL ?_);rw[FG]
theorem SB:prog.keyType 181=true:=by kernel_rfl
theorem NP:prog.cellsOf 181=3:=by kernel_rfl
theorem CZ:prog.cellsOf 3=1:=by kernel_rfl
variable{n:Nat}
def vT(h:n<2^62):(Lit.int .i64 n).wf=true:=by
 have h1:IntKind.min .i64=-9223372036854775808:=by decide
 have h2:IntKind.max .i64=9223372036854775807:=by decide
 simp only[Lit.wf,h1,h2,cX,dA];omega
def SF {P:Program} {k t:TypeId} {a b c:Nat} (e:P.underlying k=some (.struct #[⟨ "Var",t,0,false,"","",0⟩,⟨ "Low",t,1,false,"","",8⟩,⟨ "High",t,2,false,"","",16⟩])) (h1:P.keyType k=true) (h2:P.cellsOf k=3) (h3:P.cellsOf t=1) (h4:P.underlying t=some (.int .i64)) (h5:1<P.types.size)
  (ha:a<2^62) (hb:b<2^62) (f:c<2^62):fg P k (ew (a,b,c)):=by
 obtain⟨n,d⟩:∃n,P.types.size=n+1:=⟨P.types.size-1,O⟩;unfold fg keyOf;rw[h1];simp[e,Value.formed,ew,d,Program.keyLits,h2,h3,h4,Value.cells,vT ha,vT hb,vT f,E]
theorem se:prog.underlying 3=some (.int .i64):=by kernel_rfl
def Sw{a b c:Nat}(ha:a<2^62)(hb:b<2^62)(d:c<2^62):fg prog 181 (ew (a,b,c)):=SF (t:=3) FG SB NP CZ se E2 ha hb d
theorem mixed:prog.follows .mixedOrders=true:=by kernel_rfl
def z8:ax prog 125:=⟨_,func125,rfl,rfl⟩
def Ee{a b:Nat}(h:E a=E b):a=b:=by simp[E]at h;omega
def On{a b:Nat×Nat×Nat}(h:ew a=ew b):a=b:=by obtain⟨f,a2,a3⟩:=a;obtain⟨e,d,c⟩:=b;simp[ew,E]at h;obtain⟨h1,h2,h3⟩:=h;rw[Int.ofNat.inj h1,Int.ofNat.inj h2,Int.ofNat.inj h3]
variable{u:Value}{ms:List T}
def Eh(s:T.Seq ms){lo hi:T}(e:T.isIn ms lo)(g:T.isIn ms hi):xx ms (ew (i,T.plc ms lo,T.plc ms hi)) u<->T.nd i lo hi∈ms/\u=E (T.plc ms (.nd i lo hi)):=by
 constructor
 .rintro⟨t,ht,e1,e2⟩;obtain⟨j,f⟩:=List.mem_iff_getElem?.1 ht;obtain⟨v,l,h,rfl,_⟩:=s.2 j t f;have:=On e1;simp only[T.dec,ij]at this;obtain⟨rfl,b,c⟩:=this;have d:=s.kids ht;rw[T.plc_inj e d.1 b,T.plc_inj g d.2 c];exact⟨ht,e2⟩
 .rintro⟨a,b⟩;exact⟨_,a,rfl,b⟩
def SN(s:T.Seq ms){lo hi:T}(c:T.isIn ms lo)(d:T.isIn ms hi)(b:T.nd i lo hi∉ms)(y u:Value):
  xx (ms++[.nd i lo hi]) y u<->(y=ew (i,T.plc ms lo,T.plc ms hi)/\u=E (ms.length+2))\/(y≠ew (i,T.plc ms lo,T.plc ms hi)/\xx ms y u):=by
 have a:∀t∈ms,T.isIn ms t:=fun t ht=>by obtain⟨j,f⟩:=List.mem_iff_getElem?.1 ht;obtain⟨v,l,h,rfl,_⟩:=s.2 j t f;exact ht
 have new:T.dec (ms++[.nd i lo hi]) (.nd i lo hi)=(i,T.plc ms lo,T.plc ms hi)/\T.plc (ms++[.nd i lo hi]) (.nd i lo hi)=ms.length+2:=by refine⟨by simp[T.dec,T.plc_app c,T.plc_app d],?_⟩;simp only[T.plc];rw[List.idxOf_append,ab b];simp
 unfold xx;constructor
 .rintro⟨t,ht,e1,e2⟩;rcases List.mem_append.1 ht with h|h
  .rw[T.dec_app s (a t h)]at e1;rw[T.plc_app (a t h)]at e2;refine .inr ⟨fun e=>?_,t,h,e1,e2⟩;exact b ((Eh s c d (u:=u)).1 ⟨t,h,e▸e1,e2⟩).1
  .simp at h;subst h;rw[new.1]at e1;rw[new.2]at e2;exact .inl ⟨e1,e2⟩
 .rintro(⟨e1,e2⟩|⟨_,t,h,e1,e2⟩)
  .exact⟨_,gz _ (.head _),by rw[new.1];exact e1,by rw[new.2];exact e2⟩
  .exact⟨t,ge _ h,by rw[T.dec_app s (a t h)];exact e1,by rw[T.plc_app (a t h)];exact e2⟩
theorem wrap64(h:n<2^62):IntKind.i64.wrap (n:Int)=(n:Int):=by have h1:(n:Int) % (2^64:Int)=n:=tJ O O;simp only[IntKind.wrap,show IntKind.bits .i64=64 from rfl,show IntKind.signed .i64=true from rfl,h1];rw[ab];simp;omega
theorem Z7(i:Nat)(h:i+1<2^62:=by omega):IntKind.i64.wrap ((i:Int)+1)=((i+1:Nat):Int):=by rw[<-wrap64 (n:=i+1) h];congr 1
variable{ps:List PH}{I:PH}{mb:Nat}
def AN(h:po mb ms ps){lo hi:T}(q:i<24)(z:lo.ok (i+1))(B:hi.ok (i+1))(f:T.isIn ms lo)(g:T.isIn ms hi)(S:ms.length<2^30):
  aT prog 125 #[pt mb,E i,E (T.plc ms lo),E (T.plc ms hi)] I ps fun v I2 W=>∃us,po mb (ms++us) W/\us.length<=1/\T.isIn (ms++us) (T.mk i lo hi)/\v=E (T.plc (ms++us) (T.mk i lo hi)):=by
 intro hd;obtain⟨A,sv,r,Z,rfl,Q,x,sq⟩:=h;have pl:=T.plc_lt f;have ph:=T.plc_lt g;refine eX func125 rfl (by simp[ntmps125]) fun w0=>?_;simp only[ntmps125,pt,E];by_cases e:T.plc ms lo=T.plc ms hi
 .have e':=T.plc_inj f g e;subst e';have k:((T.plc ms lo:Int) == (T.plc ms lo:Int))=true:=by simp
  refine dq k ?_;refine az rfl hd (r:=[_]) rfl (aC _) ⟨[],?_,by simp,?_,?_⟩
  .rw[Y];exact⟨A,sv,r,Z,rfl,Q,x,sq⟩
  .rw[Y];simp only[T.mk,co];exact f
  .simp[T.mk,dS,E]
 .have c:¬lo=hi:=fun e2=>e (by rw[e2]);have k:((T.plc ms lo:Int) == (T.plc ms hi:Int))=false:=by simp;omega
  refine dq k ?_;refine iA mixed [0,1,2,3,4,5,6,7,8,9,10] [3,5] [] rfl rfl ?_;refine d6 ?_;refine X6 (l:=[_]) rfl (cellsU hd (.tail _ (.tail _ (.head _))) (dt (by simp) rfl)) (.inr ⟨CK,rfl⟩) ?_;refine d6 ?_;have t:=x.atU hd (by simp);have d:fg prog 181 (ew (i,T.plc ms lo,T.plc ms hi)):=Sw O O O;by_cases a:T.nd i lo hi∈ms
  .refine ze Ck Ec pe (key:=ew (i,T.plc ms lo,T.plc ms hi)) rfl rfl rfl rfl rfl t d (E (T.plc ms (.nd i lo hi))) true (.inl ⟨rfl,(Eh sq f g).2 ⟨a,rfl⟩⟩) ?_;refine d6 ?_;apply aL;refine ai ?_;refine az rfl hd (r:=[_]) rfl (aC _) ⟨[],?_,by simp,?_,?_⟩
   .rw[Y];exact⟨A,sv,r,Z,rfl,Q,x,sq⟩
   .rw[Y];simp only[T.mk,ab c];exact a
   .rw[Y];simp only[T.mk,ab c];rfl
  .refine ze Ck Ec pe (key:=ew (i,T.plc ms lo,T.plc ms hi)) rfl rfl rfl rfl rfl t d (E 0) false (.inr ⟨rfl,rfl,fun u hu=>a ((Eh sq f g).1 hu).1⟩) ?_;refine d6 ?_;apply aL;refine ai ?_;refine iA mixed [0,1,2,3,4,5,6,7,8,9,10] [4] [6] rfl rfl ?_;refine d6 ?_;refine X6 (l:=[_]) rfl (cellsU hd (.tail _ (.tail _ (.head _))) (dt (by simp) rfl)) (.inr ⟨ro,rfl⟩) ?_;refine d6 ?_;refine im hd By rfl rfl rfl rfl rfl af fun b I2 s p hb=>?_;refine wx (m:=1) s By Q rfl rfl rfl rfl rfl rfl (cellsU s (.head _) (bz (l:=i8 (i,T.plc ms lo,T.plc ms hi)) hb (by simp[i8,av,Value.cells]) (by simp[i8,av,Value.cells,E]))) rfl rfl O (by unfold maxLen;omega) fun v' V R N o w=>?_;obtain⟨a3,c3,rfl⟩:=w.slice;refine d6 ?_;refine iV N [1,0,2] fun L=>?_;refine cT L rfl rfl rfl rfl rfl rfl Fe (by simp) fun K=>?_;apply aL;have j:Dj [V,sg mb (.cells #[.slice a3 (ms.length+1) c3,.map (some r)] 300 (0,0)),R,Z]:=K;show RC _ _ _ (U [V,sg mb (.cells #[.slice a3 (ms.length+1) c3,.map (some r)] 300 (0,0)),R,Z]);refine ai ?_;refine X5 (l:=[_]) rfl (cellsU j (.tail _ (.head _)) (dt (by simp) rfl)) (.inr ⟨ro,rfl⟩) ?_;have X:IntKind.i64.wrap (((ms.length+1:Nat):Int)+1)=((ms.length+2:Nat):Int):=by have:=wrap64 (n:=ms.length+2) O;rw[<-this];congr 1
   refine dq X ?_;refine iA mixed [0,1,2,3,4,5,6] [3] [] rfl rfl ?_;refine d6 ?_;refine X6 (l:=[_]) rfl (cellsU j (.tail _ (.head _)) (dt (by simp) rfl)) (.inr ⟨CK,rfl⟩) ?_;refine d6 ?_;refine iV j [2,0,1] fun J=>?_;refine Ct (by exact Ck) (by exact Ec) (key:=ew (i,T.plc ms lo,T.plc ms hi)) (v:=E (ms.length+2)) J rfl rfl rfl (.inl rfl) rfl rfl rfl x d fun M2 H P=>?_;apply aL;refine ai ?_;refine aj H [2,1,0] fun G=>?_;have F:(T.nd i lo hi).ok 0:=⟨aF _,q,c,z,B⟩;have C:T.plc (ms++[.nd i lo hi]) (.nd i lo hi)=ms.length+2:=by simp only[T.plc];rw[List.idxOf_append,ab a];simp
   refine az rfl G (r:=[_]) rfl (D p o) ⟨[.nd i lo hi],⟨R,.slice a3 (ms.length+1) c3,r,M2,rfl,w.xs (by simp) (Lq sq f g).symm,P.congr fun y u=>SN sq f g a y u,sq.snoc F f g a⟩,by simp,?_,?_⟩
   .simp only[T.mk,ab c];show T.nd i lo hi∈_;simp
   .simp only[T.mk,ab c,C];rfl
def Ew(I:PH):aT prog 124 #[] I [] fun v f d=>∃mb,v=pt mb/\po mb [] d:=by intro hd;refine eX func124 rfl (by simp[ntmps124]) fun w0=>?_;simp only[ntmps124];refine ai ?_;refine Cq 181 hd rfl rfl fun r Z c e=>?_;refine ai ?_;refine jL 3 c rfl fun mb b=>?_;refine dg b fun a=>?_;refine az rfl a (r:=[_]) rfl (aC _) ⟨mb,rfl,PH.no,.slice none 0 0,r,Z,rfl,dE.nil _ _,e.congr fun y u=>⟨fun⟨t,h,_⟩=>(by simp at h),fun h=>h.elim⟩,T.Seq.nil⟩
def lG(I:PH)(sl:Value)(Z:List T):Prop:=∃a c,sl=.slice a Z.length c/\(Z=[]\/∃b,a=some ⟨b,0,none⟩/\aX I b 0 (ln Z))
variable{J:PH}
def lG.le{sl:Value}(h:lG I sl Z)(d:I.le J):lG J sl Z:=by obtain⟨a,c,e,h⟩:=h;exact⟨a,c,e,h.imp id fun⟨b,e1,e2⟩=>⟨b,e1,e2.le d⟩⟩
def bU(I:PH)(v:Value)(t:T):Prop:=t.ok 0/\∃sl,v=.agg #[sl,E (T.plc (T.subs t) t)]/\lG I sl (T.subs t)
def bU.le{v:Value}(h:bU I v t)(b:I.le J):bU J v t:=by obtain⟨a,sl,e,h⟩:=h;exact⟨a,sl,e,h.le b⟩
def GE{H:PH}{sl rv:Value}(k:lG H sl Z)(sq:T.Seq Z)(ht:T.isIn Z t)(g:Z.length<2^40):
  br prog 236 #[.agg #[sl,rv],E (T.plc Z t)] H fun v H2=>v=ew (T.dec Z t)/\H2=H:=by
 obtain⟨a,c,rfl,e⟩:=k;refine eX func236 rfl (by simp[ntmps236]) fun w0=>?_;simp only[ntmps236,E];cases t with
 |lf b=>
  have h6:decide (((T.plc Z (.lf b):Nat):Int)<2)=true:=by simp only[T.plc];split<;>simp
  refine dq h6 ?_;refine aU (r:=[.agg #[.int .i64 24,.int .i64 (T.plc Z (.lf b):Nat),.int .i64 (T.plc Z (.lf b):Nat)]]) (by simp only[results236,go_sem]) ⟨?_,rfl⟩;simp only[dS,ew,T.dec,T.plc,E];cases b<;>rfl
 |nd v l h=>
  have hm:T.nd v l h∈Z:=ht;have hi:=tK hm;have hp:T.plc Z (.nd v l h)=Z.idxOf (.nd v l h)+2:=rfl;have h6:decide (((T.plc Z (.nd v l h):Nat):Int)<2)=false:=by rw[hp];simp;omega
  have f:IntKind.i64.wrap (((T.plc Z (.nd v l h):Nat):Int)-2)=((Z.idxOf (.nd v l h):Nat):Int):=by rw[<-wrap64 (n:=Z.idxOf (.nd v l h)) O,hp];congr 1;omega
  rcases e with rfl|⟨b,rfl,e⟩
  .simp at hm
  .refine lI h6 f ?_;refine⟨⟨O,O⟩,?_⟩;have i:=T.plc_get hm;rw[hp,tM]at i;have j:(ln Z).length=Z.length*3:=yH Z;have d:=e.sub (Z.idxOf (.nd v l h)*3) 3 O;rw[yG i,ii]at d;refine X5 (l:=i8 (T.dec Z (.nd v l h))) (v:=ew (T.dec Z (.nd v l h))) rfl d (.inl ⟨sO,rfl⟩) ?_;apply RG;simp only[go_sem,ew,E];refine aU (r:=[ew (T.dec Z (.nd v l h))]) (by simp only[results236,go_sem,ew,E]) ⟨rfl,rfl⟩
def K3:Maps.Keyed prog 3:=Maps.int_keyed se
def Am(h:n<2^62):fg prog 3 (E n):=⟨_,Maps.keyOf_int_mk se (vT h)⟩
def DM:ax prog 189:=⟨_,func189,rfl,rfl⟩
def xT(ms us:List T)(y u:Value):Prop:=∃t,T.isIn ms t/\T.isIn us t/\y=E (T.plc ms t)/\u=E (T.plc us t)
variable{us:List T}
def EG(ht:T.isIn ms t):xT ms us (E (T.plc ms t)) u<->T.isIn us t/\u=E (T.plc us t):=by
 constructor
 .rintro⟨t',h1,h2,h3,h4⟩;have:=T.plc_inj ht h1 (Ee h3);subst this;exact⟨h2,h4⟩
 .rintro⟨a,b⟩;exact⟨t,ht,a,rfl,b⟩
def Ry(s:T.Seq us)(ht:t∈us):T.isIn us t:=by obtain⟨j,a⟩:=List.mem_iff_getElem?.1 ht;obtain⟨v,l,h,rfl,_⟩:=s.2 j t a;exact ht
def EJ{l h:T}(a:T.nd v l h∉us):T.plc (us++[.nd v l h]) (.nd v l h)=us.length+2:=by simp only[T.plc];rw[List.idxOf_append,ab a];simp
def Aj{l h:T}:T.isIn (us++[.nd v l h]) t<->T.isIn us t\/t=.nd v l h:=by
 cases t with
 |lf b=>simp[T.isIn]
 |nd a l' c=>simp[T.isIn]
def UF{l h:T}(a:T.isIn ms (.nd v l h))(b:T.nd v l h∉us)(y u:Value):
  xT ms (us++[.nd v l h]) y u<->(y=E (T.plc ms (.nd v l h))/\u=E (us.length+2))\/(y≠E (T.plc ms (.nd v l h))/\xT ms us y u):=by
 constructor
 .rintro⟨t,h1,h2,rfl,rfl⟩;rcases Aj.1 h2 with h3|rfl
  .refine .inr ⟨fun e=>?_,t,h1,h3,rfl,by rw[T.plc_app h3]⟩;have:=T.plc_inj h1 a (Ee e);subst this;exact b h3
  .exact .inl ⟨rfl,by rw[EJ b]⟩
 .rintro(⟨rfl,rfl⟩|⟨_,t,h1,h2,rfl,rfl⟩)
  .exact⟨_,a,Aj.2 (.inr rfl),rfl,by rw[EJ b]⟩
  .exact⟨t,h1,Aj.2 (.inl h2),rfl,by rw[T.plc_app h2]⟩
def zX(pb tb vb ob:Nat):Value:=.func (.func 189) #[] #[pt pb,pt tb,pt vb,pt ob]
structure wE(I:PH)(pb tb vb ob mb r:Nat)(ms:List T):Prop where
 hp:I pb=some (.cells #[.map (some r)] 301 (0,0))
 ht:I tb=some (.cells #[pt mb] 217 (0,0))
 hv:I vb=some (.cells #[zX pb tb vb ob] 302 (0,0))
 hm:∃slv m,I mb=some (.cells #[slv,m] 300 (0,0))/\lG I slv ms
 sq:T.Seq ms
 len:ms.length<2^30
def wE.le{pb tb vb ob r:Nat}(h:wE I pb tb vb ob mb r ms)(e:I.le J):wE J pb tb vb ob mb r ms:=
 ⟨e _ _ h.hp,e _ _ h.ht,e _ _ h.hv,let ⟨a,b,c,d⟩:=h.hm;⟨a,b,e _ _ c,d.le e⟩,h.sq,h.len⟩
def CF(ob r:Nat)(ms us:List T)(a:List PH):Prop:=∃A sv Z,a=[A,sg ob (.cells #[sv] 48 (0,0)),Z]/\dE A 181 3 sv us.length (ln us)/\jv prog Z r 3 (xT ms us)/\T.Seq us
def XC{pb tb vb ob r:Nat}(t:T):∀{k:Nat} {us:List T} {I:PH} {ps:List PH},t.ok k->k<=24->T.isIn ms t->wE I pb tb vb ob mb r ms->CF ob r ms us ps->us.length+2^(24-k)<=2^30->
  aT prog 189 #[E (T.plc ms t),pt pb,pt tb,pt vb,pt ob] I ps fun v I2 qs=>CF ob r ms (t.vis us) qs/\v=E (T.plc (t.vis us) t):=by
 induction t with
 |lf x=>intro k us I ps G p c hI hP P hd;obtain⟨A,sv,Z,rfl,V,B,sq⟩:=hP;refine eX func189 rfl (by simp[ntmps189]) fun w0=>?_;simp only[ntmps189,pt,E];refine ai ?_;refine X5 (l:=[_]) rfl (cellsU hd (.head _) (bz hI.hp (by simp) rfl)) (.inr ⟨zt,rfl⟩) ?_;refine ai ?_;refine wv (by exact K3) (by exact uK) (by exact pe) (key:=E (T.plc ms (.lf x))) rfl rfl rfl rfl (B.atU hd (by simp)) (by exact Am (by simp only[T.plc];split<;>omega)) (E (T.plc us (.lf x))) true (.inl ⟨rfl,(EG c).2 ⟨trivial,rfl⟩⟩) ?_;refine ai ?_;exact az rfl hd (r:=[_]) rfl (aC _) ⟨⟨A,sv,Z,rfl,V,B,sq⟩,rfl⟩
 |nd v l h ihl ihh=>
  intro k us I ps G p c hI hP P hd;obtain⟨A,sv,Z,rfl,V,B,sq⟩:=hP;have bs:=T.plc_lt c;have b0:=hI.len;have d:fg prog 3 (E (T.plc ms (.nd v l h))):=Am O;refine eX func189 rfl (by simp[ntmps189]) fun w0=>?_;simp only[ntmps189,pt,E];refine ai ?_;refine X5 (l:=[_]) rfl (cellsU hd (.head _) (bz hI.hp (by simp) rfl)) (.inr ⟨zt,rfl⟩) ?_;refine ai ?_;by_cases b:T.nd v l h∈us
  .refine wv (by exact K3) (by exact uK) (by exact pe) (key:=E (T.plc ms (.nd v l h))) rfl rfl rfl rfl (B.atU hd (by simp)) (by exact d) (E (T.plc us (.nd v l h))) true (.inl ⟨rfl,(EG c).2 ⟨b,rfl⟩⟩) ?_;refine ai ?_;refine az rfl hd (r:=[_]) rfl (aC _) ⟨?_,?_⟩
   .simp only[T.vis,ag b];exact⟨A,sv,Z,rfl,V,B,sq⟩
   .simp only[T.vis,ag b];rfl
  .refine wv (by exact K3) (by exact uK) (by exact pe) (key:=E (T.plc ms (.nd v l h))) rfl rfl rfl rfl (B.atU hd (by simp)) (by exact d) (E 0) false (.inr ⟨rfl,rfl,fun u hu=>b ((EG c).1 hu).1⟩) ?_;refine ai ?_;refine X5 (l:=[_]) rfl (cellsU hd (.head _) (bz hI.ht (by simp) rfl)) (.inr ⟨zr,rfl⟩) ?_;apply RG;simp only[go_sem,pt];obtain⟨slv,mm,an,am,cm,rfl,a6⟩:=hI.hm;refine X5 (l:=[_]) rfl (cellsU hd (.head _) (bz an (by simp) rfl)) (.inr ⟨ro,rfl⟩) ?_;have hm:T.nd v l h∈ms:=c;have hi:=tK hm;have hp:T.plc ms (.nd v l h)=ms.idxOf (.nd v l h)+2:=rfl;have bc:IntKind.i64.wrap (((T.plc ms (.nd v l h):Nat):Int)-2)=((ms.idxOf (.nd v l h):Nat):Int):=by rw[<-wrap64 (n:=ms.idxOf (.nd v l h)) O,hp];congr 1;omega
   rcases a6 with rfl|⟨lb,rfl,hc⟩
   .simp at hm
   .refine dq bc ?_;refine⟨⟨O,O⟩,?_⟩;have hg:=T.plc_get hm;rw[hp,tM]at hg;have b3:(ln ms).length=ms.length*3:=yH ms;have e:=hc.sub (ms.idxOf (.nd v l h)*3) 3 O;rw[yG hg,ii]at e;refine X5 (l:=i8 (T.dec ms (.nd v l h))) (v:=ew (T.dec ms (.nd v l h))) rfl (cellsU hd (.head _) e) (.inl ⟨sO,rfl⟩) ?_;apply RG;simp only[go_sem,ew,E,T.dec];refine X5 (l:=[_]) rfl (cellsU hd (.head _) (bz hI.hv (by simp) rfl)) (.inr ⟨zu,rfl⟩) ?_;apply RG;simp only[go_sem,ew,E,T.dec,zX];have H:=G.2.2.2.1;have J:=G.2.2.2.2;have aa:=G.2.1;have b4:=G.1;have K:=hI.sq.kids hm;have bx:2^(24-(v+1))+2^(24-(v+1))<=2^(24-k):=by
     have:2^(24-(v+1))+2^(24-(v+1))=2^(24-v):=by rw[show 24-v=(24-(v+1))+1 by omega,tN];omega
     rw[this];exact we O O
    obtain⟨s1,i1,X,e1,n1,_⟩:=T.vis_spec l H O us sq;obtain⟨s2,i2,W,e2,n2,_⟩:=T.vis_spec h J O _ s1;have len1:(l.vis us).length=us.length+X.length:=by rw[e1];simp
    have len2:(h.vis (l.vis us)).length=(l.vis us).length+W.length:=by rw[e2];simp
    have a:(T.nd v l h).vis us=h.vis (l.vis us)++[.nd v l h]:=by simp only[T.vis,ab b]
    have s3:T.Seq ((T.nd v l h).vis us):=(T.vis_spec _ G p us sq).1;have f:T.nd v l h∉h.vis (l.vis us):=by rw[a]at s3;intro a1;exact(List.nodup_append.1 s3.1).2.2 _ a1 _ (.head _) rfl
    have pl1:T.plc (h.vis (l.vis us)) l=T.plc (l.vis us) l:=by rw[e2];exact T.plc_app i1
    have i1':T.isIn (h.vis (l.vis us)) l:=by rw[e2];exact i1.app
    have b1:=T.plc_lt i1;have b2:=T.plc_lt i2;refine F2 hd [0,1,2] rfl DM rfl (F:=[]) rfl (ihl H O K.1 hI ⟨A,sv,Z,rfl,V,B,sq⟩ O) ?_;rintro v1 I2 qs z o⟨⟨A2,sv2,M2,rfl,bb,a4,sq2⟩,rfl⟩;simp only[Y]at z |-;have C:=hI.le o;apply RG;simp only[go_sem,E];refine X5 (l:=[_]) rfl (cellsU z (.head _) (bz C.hv (by simp) rfl)) (.inr ⟨zu,rfl⟩) ?_;apply RG;simp only[go_sem,E,zX];refine F2 z [0,1,2] rfl DM rfl (F:=[]) rfl (ihh J O K.2 C ⟨A2,sv2,M2,rfl,bb,a4,sq2⟩ O) ?_;rintro v2 I3 qs w j⟨⟨A3,sv3,M3,rfl,ba,a3,sq3⟩,rfl⟩;simp only[Y]at w |-;have a9:=C.le j;apply RG;simp only[go_sem,E];refine X5 (l:=[_]) rfl (cellsU w (.tail _ (.tail _ (.head _))) (dt (by simp) rfl)) (.inr ⟨ro,rfl⟩) ?_;apply RG;simp only[go_sem,E];refine cH w (by exact By) rfl rfl rfl rfl rfl af fun nb I4 Q i ac=>?_;apply RG;simp only[go_sem,E];refine ni (m:=1) Q (by exact By) ba rfl rfl rfl rfl (cellsU Q (.head _) (bz (l:=i8 (v,T.plc (l.vis us) l,T.plc (h.vis (l.vis us)) h)) ac (by simp[i8,av,Value.cells]) (by simp[i8,av,Value.cells,E]))) rfl rfl O (by unfold maxLen;omega) fun v' I5 A5 a0 g S=>?_;obtain⟨a5,c5,rfl⟩:=S.slice;apply RG;simp only[go_sem,E];refine aj a0 [1,0,2] fun aS=>?_;refine kK aS rfl rfl rfl rfl rfl (by exact Fe) (by simp) fun aq=>?_;have s:Dj [I5,sg ob (.cells #[.slice a5 ((h.vis (l.vis us)).length+1) c5] 48 (0,0)),A5,M3]:=aq;show RC _ _ _ (U [I5,sg ob (.cells #[.slice a5 ((h.vis (l.vis us)).length+1) c5] 48 (0,0)),A5,M3]);have a7:=(a9.le i).le g;apply RG;simp only[go_sem,E];refine X5 (l:=[_]) rfl (cellsU s (.head _) (bz a7.hp (by simp) rfl)) (.inr ⟨zt,rfl⟩) ?_;apply RG;simp only[go_sem,E];refine X5 (l:=[_]) rfl (cellsU s (.tail _ (.head _)) (dt (by simp) rfl)) (.inr ⟨ro,rfl⟩) ?_
    have hw:IntKind.i64.wrap ((((h.vis (l.vis us)).length+1:Nat):Int)+1)=(((h.vis (l.vis us)).length+2:Nat):Int):=by have:=wrap64 (n:=(h.vis (l.vis us)).length+2) O;rw[<-this];congr 1
    apply RG;simp only[go_sem,E,hw];refine aj s [2,0,1] fun ap=>?_;refine zb (by exact K3) (by exact uK) (key:=E (T.plc ms (.nd v l h))) (v:=E ((h.vis (l.vis us)).length+2)) ap rfl (.inl rfl) rfl rfl rfl a3 (by exact d) fun M6 q a2=>?_;apply RG;simp only[go_sem,E];refine X5 (l:=[_]) rfl (cellsU q (.tail _ (.tail _ (.head _))) (dt (by simp) rfl)) (.inr ⟨ro,rfl⟩) ?_;apply RG;simp only[go_sem,E,hw];refine aj q [2,1,0] fun R=>?_;refine az rfl R (r:=[_]) rfl (D o (D j (D i g))) ⟨?_,?_⟩
    .refine⟨A5,_,M6,rfl,S.xs (by rw[a];simp) ?_,a2.congr fun y u=>by rw[a];exact UF c f y u,s3⟩;rw[a,Lq s2 i1' i2,pl1]
    .rw[a,EJ f];rfl
def DF:ax prog 124:=⟨_,func124,rfl,rfl⟩
def DG:ax prog 126:=⟨_,func126,rfl,rfl⟩
def dE.lst{A:PH}{sv:Value}(h:dE A 181 3 sv Z.length (ln Z))(b:A.le J):lG J sv Z:=by
 obtain⟨a,c,e⟩:=h.slice;rcases jt Z.length with d|hp
 .subst e;exact⟨a,c,rfl,.inl (List.length_eq_zero_iff.1 d)⟩
 .obtain⟨g,cap,e2,f⟩:=h.1.cells hp;exact⟨_,cap,e2,.inr ⟨g,rfl,f.le b⟩⟩
def UE {ms : List T} (y u : Value) : xT ms [] y u ↔ (y = E 1 ∧ u = E 1) ∨ (y ≠ E 1 ∧ ((y = E 0 ∧ u = E 0) ∨ (y ≠ E 0 ∧ False))) := by
  have aa : E 0 ≠ E 1 := fun e => absurd (Ee e) O
  constructor
  · rintro ⟨t, h1, h2, rfl, rfl⟩
    cases t with
    | lf b => cases b
              · exact .inr ⟨aa, .inl ⟨rfl, rfl⟩⟩
              · exact .inl ⟨rfl, rfl⟩
    | nd v l h => exact absurd h2 (by simp [T.isIn])
  · rintro (⟨rfl, rfl⟩ | ⟨_, ⟨rfl, rfl⟩ | ⟨_, h⟩⟩)
    · exact ⟨.lf true, trivial, trivial, rfl, rfl⟩
    · exact ⟨.lf false, trivial, trivial, rfl, rfl⟩
    · exact h.elim
def Dl(h:po mb ms ps)(ht:T.isIn ms t)(o:t.ok 0)(aa:ms.length<2^29):
  aT prog 126 #[pt mb,E (T.plc ms t)] I ps fun v I2 qs=>qs=[]/\bU I2 v t:=by
 intro hd;obtain⟨A,sv,r,Z,rfl,hA,hM,sq⟩:=h;refine eX func126 rfl (by simp[ntmps126]) fun w0=>?_;simp only[ntmps126,pt,E];refine aH (c:=.st _) hd fun I1 aS Q N=>?_;refine aH (c:=.st _) aS fun I2 aq k L=>?_;refine aH (c:=.st _) aq fun I3 ap i leC=>?_;refine ai ?_;refine Cq 3 ap rfl rfl fun q M1 an a2=>?_;refine ai ?_;refine zb (by exact K3) (by exact uK) (key:=E 0) (v:=E 0) an rfl (.inr rfl) rfl rfl rfl a2 (by exact Am O) fun M2 am a1=>?_;refine ai ?_;refine zb (by exact K3) (by exact uK) (key:=E 1) (v:=E 1) am rfl (.inr rfl) rfl rfl rfl a1 (by exact Am O) fun M3 ac a0=>?_;apply cD 9;simp only[go_sem];refine jL 6 ac rfl fun pb X=>?_;refine aH X fun I4 W g K=>?_;refine jL 2 W rfl fun tb V=>?_;refine aH V fun I5 C d J=>?_;refine jL 5 C rfl fun ob B=>?_;refine dg B fun z=>?_;refine jL 7 z rfl fun vb y=>?_;apply RG;simp only[go_sem,iN,List.map];refine kK y rfl rfl rfl rfl rfl (by exact K5) (by simp) fun x=>?_;refine aH x fun I6 f a H=>?_;have n:wE I6 pb tb vb ob mb q ms:=by
  refine⟨a _ _ (d _ _ (K _ _ (gT _ _))),a _ _ (J _ _ (gT _ _)),H _ _ (gT _ _),⟨sv,.map (some r),?_,?_⟩,sq,O⟩
  .exact a _ _ (d _ _ (g _ _ (i _ _ (L _ _ (gT _ _)))))
  .exact dE.lst hA (D N (D k (D i (D g (D d a)))))
 refine ai ?_;refine X5 (l:=[_]) rfl (cellsU f (.head _) (bz n.hv (by simp) rfl)) (.inr ⟨zu,rfl⟩) ?_;apply RG;simp only[go_sem,zX];have S:CF ob q ms [] [PH.no,sg ob (.cells #[.slice none 0 0] 48 (0,0)),M3]:=⟨PH.no,_,M3,rfl,dE.nil _ _,a0.congr UE,T.Seq.nil⟩;refine F2 f [0,1,2] rfl DM rfl (F:=[]) rfl (XC t o O ht n S af) ?_;rintro v1 I7 qs b p⟨⟨A2,sv2,M4,rfl,G,a4,sq2⟩,rfl⟩;simp only[Y]at b |-;obtain⟨sa,sc,rfl⟩:=G.slice;apply RG;simp only[go_sem,E];refine X5 (l:=[_]) rfl (cellsU b (.tail _ (.tail _ (.head _))) (dt (by simp) rfl)) (.inr ⟨ro,rfl⟩) ?_;apply RG;simp only[go_sem,E];refine aH b fun I8 w P R=>?_;refine aH w fun I9 u j _=>?_;refine aH u fun a3 s e _=>?_;have m:I.le a3:=D Q (D k (D i (D g (D d (D a (D p (D P (D j e))))))));refine az (r:=[.agg #[.slice sa (t.vis []).length sc,E (T.plc (t.vis []) t)]]) rfl s (by simp only[results126,go_sem,E]) m ⟨rfl,o,_,rfl,?_⟩;exact dE.lst G (D R (D j e))
def rH(a b:Nat):((a:Int) == (b:Int))=decide (a=b):=by
 by_cases h:a=b
 .subst h;simp
 .have:¬(a:Int)=b:=by omega
  simp[h,this]
def lP(a:Nat):((a:Int) == 0)=decide (a=0):=rH a 0
def lQ(a:Nat):((a:Int) == 1)=decide (a=1):=rH a 1
def xU:T.plc Z t=0<->t=.lf false:=by
 cases t with
 |lf b=>cases b<;>simp[T.plc]
 |nd v l h=>simp[T.plc]
def xV:T.plc Z t=1<->t=.lf true:=by
 cases t with
 |lf b=>cases b<;>simp[T.plc]
 |nd v l h=>simp[T.plc]
def iE{H:PH}{v:Value}(h:bU I v t):br prog 50 #[v] H fun v H2=>v=.bool (decide (t=.lf false))/\H2=H:=by obtain⟨b,sl,rfl,d⟩:=h;obtain⟨a,c,rfl,_⟩:=d;refine eX func50 rfl (by simp[ntmps50]) fun w0=>?_;simp only[ntmps50,E];apply RG;simp only[go_sem,lP];exact aU (r:=[_]) rfl ⟨by simp[dS,xU],rfl⟩
def Hv{H:PH}{v:Value}(h:bU I v t):br prog 68 #[v] H fun v H2=>v=.bool (decide (t=.lf true))/\H2=H:=by obtain⟨b,sl,rfl,d⟩:=h;obtain⟨a,c,rfl,_⟩:=d;refine eX func68 rfl (by simp[ntmps68]) fun w0=>?_;simp only[ntmps68,E];apply RG;simp only[go_sem,lQ];exact aU (r:=[_]) rfl ⟨by simp[dS,xV],rfl⟩
def oV(I:PH)(b:Bool):bU I (.agg #[.slice none 0 0,E (if b then 1 else 0)]) (.lf b):=⟨trivial,_,rfl,none,0,rfl,.inl rfl⟩
def yF(H:PH):br prog 27 #[] H fun v H2=>v=.agg #[.slice none 0 0,E 1]/\H2=H:=by refine eX func27 rfl (by simp[ntmps27]) fun w0=>?_;simp only[ntmps27];refine ai ?_;exact aU (r:=[.agg #[.slice none 0 0,E 1]]) (by simp only[results27,go_sem,E,dL]) ⟨rfl,rfl⟩
def sW(H:PH):br prog 80 #[] H fun v H2=>v=.agg #[.slice none 0 0,E 0]/\H2=H:=by refine eX func80 rfl (by simp[ntmps80]) fun w0=>?_;simp only[ntmps80];refine ai ?_;exact aU (r:=[.agg #[.slice none 0 0,E 0]]) (by simp only[results80,go_sem,E,dL]) ⟨rfl,rfl⟩
def pF(x y:Nat):Option Bool:=if x=0\/y=0 then some false else if x=1/\y=1 then some true else none
def qj(x y:Nat):Option Bool:=if x=1\/y=1 then some true else if x=0/\y=0 then some false else none
def bn(b:Bool):Nat:=if b then 1 else 0
def y6(f:FuncId)(S:Nat->Nat->Option Bool):Prop:=∀(x y:Nat) (H:PH),br prog f #[E x,E y] H fun v H2=>H2=H/\∃r,v=.tuple #[E r,.bool (S x y).isSome]/\∀b,S x y=some b->r=bn b
def OA:y6 97 qj:=by
 intro x y H;refine eX func97 rfl (by simp[ntmps97]) fun w0=>?_;simp only[ntmps97,E];have e1:((x:Int) == 1)=decide (x=1):=lQ x;cases h1:decide (x=1)
 .cases h2:decide (y=1)
  .cases h3:decide (x=0)
   .apply RG;simp only[go_sem,lQ,lP,h1,h2,h3];refine aU (r:=[_,_]) rfl ⟨rfl,0,?_,?_⟩<;>simp_all[dS,qj,E]
   .apply RG;simp only[go_sem,lQ,lP,h1,h2,h3];refine aU (r:=[_,_]) rfl ⟨rfl,0,?_,?_⟩
    .by_cases a:y=0<;>simp_all[dS,qj,E,bn]
    .intro b hb;simp_all[qj,bn]
  .apply RG;simp only[go_sem,lQ,lP,h1,h2];refine aU (r:=[_,_]) rfl ⟨rfl,1,?_,?_⟩<;>simp_all[dS,qj,E,bn]
 .apply RG;simp only[go_sem,lQ,lP,h1];refine aU (r:=[_,_]) rfl ⟨rfl,1,?_,?_⟩<;>simp_all[dS,qj,E,bn]
def Jo(x y:Nat):tg (.int .i64 x) (.int .i64 y)=some (.int .i64 ((min x y:Nat):Int)):=by simp only[tg,a8,Value.int.injEq,eW];split<;>omega
def TR(x:Nat):tg (.int .i64 x) (.int .i64 1)=some (.int .i64 ((min x 1:Nat):Int)):=Jo x 1
def Nw:y6 163 pF:=by
 intro x y H;refine eX func163 rfl (by simp[ntmps163]) fun w0=>?_;simp only[ntmps163,E];apply RG;simp only[go_sem,lQ,lP];refine tX (E (min (min x y) 1)) rfl rfl (fun w _=>?_) ?_
 .simp only[execOp,resolve,bf,ev,jA,invoke,builtin,Builtin.min_,eI];simp[Result.andThen,List.foldlM,resolve,bf,ev,jA,invoke,builtin,Builtin.min_,-Nat.min_assoc];rw[EU (Jo x y)];simp only[];rw[EU (TR _)];simp[E,Nat.min_assoc]
 cases h1:decide (x=0)
 .cases h2:decide (y=0)
  .cases h3:decide (x=1)
   .apply RG;simp only[go_sem,lQ,lP,h1,h2,h3];refine aU (r:=[_,_]) rfl ⟨rfl,min (min x y) 1,?_,?_⟩<;>simp_all[dS,pF,E]
   .apply RG;simp only[go_sem,lQ,lP,h1,h2,h3];refine aU (r:=[_,_]) rfl ⟨rfl,min (min x y) 1,?_,?_⟩
    .by_cases a:y=1<;>simp_all[dS,pF,E,bn]
    .intro b hb;simp_all[pF,bn]
  .apply RG;simp only[go_sem,lQ,lP,h1,h2];apply RG;simp only[go_sem,lQ,lP,h1,h2];refine aU (r:=[_,_]) rfl ⟨rfl,min (min x y) 1,?_,?_⟩<;>simp_all[dS,pF,E,bn]
 .apply RG;simp only[go_sem,lQ,lP,h1];apply RG;simp only[go_sem,lQ,lP,h1];refine aU (r:=[_,_]) rfl ⟨rfl,min (min x y) 1,?_,?_⟩<;>simp_all[dS,pF,E,bn]
end Go.Proofs.YtfaclfkpnmcmlaaGreatDoor
namespace Dg.T
open Dg
def opT(f:Bool->Bool->Bool)(s t:T):T:=op f 24 s t
variable{s t:T}{f:Bool->Bool->Bool}
theorem opT_ok{k:Nat}(hs:s.ok k)(ht:t.ok k)(a:k<=24):(opT f s t).ok k:=(u7 f 24 k s t O a hs ht).1
def AU(hs:s.ok 0)(ht:t.ok 0)(c:aD):(opT f s t).at' c=f (s.at' c) (t.at' c):=(u7 f 24 0 s t O O hs ht).2 c
theorem opT_rec{i:Nat}(hs:s.ok 0)(ht:t.ok 0)(hi:i=min s.var t.var)(a:i<24):opT f s t=mk i (opT f (lo i s) (lo i t)) (opT f (T.hi i s) (T.hi i t)):=by have g:=lo_ok hs (show i<=s.var by omega);have e:=lo_ok ht (show i<=t.var by omega);have d:=hi_ok hs (show i<=s.var by omega);have b:=hi_ok ht (show i<=t.var by omega);refine ext (opT_ok hs ht O) (mk_ok (k:=0) (aF i) a (opT_ok g e O) (opT_ok d b O)) fun c=>?_;rw[AU hs ht,mk_at,AU (g.mono (aF _)) (e.mono (aF _)),AU (d.mono (aF _)) (b.mono (aF _)),zz i s c,zz i t c];split<;>rfl
theorem opT_lf{b:Bool}(hs:s.ok 0)(ht:t.ok 0)(h:∀c,f (s.at' c) (t.at' c)=b):opT f s t=lf b:=
 ext (opT_ok hs ht O) (show (lf b).ok 0 from trivial) fun c=>by rw[AU hs ht,h];rfl
theorem and_eq(s t:T):and s t=opT (· && ·) s t:=rfl
theorem or_eq(s t:T):or s t=opT (· || ·) s t:=rfl
theorem dec_var(Z:List T)(t:T):(dec Z t).1=t.var:=by cases t<;>rfl
theorem dec_lo (Z : List T) (t : T) {i : Nat} (hi : i ≤ t.var) (aa : i < 24) : (if (dec Z t).1 = i then (dec Z t).2.1 else plc Z t) = plc Z (lo i t) := by
  cases t with
  | lf b => have e : ¬ (24 = i) := by omega
            simp [dec, lo, e]
  | nd v l h => by_cases e : v = i <;> simp [dec, lo, e]
theorem dec_hi (Z : List T) (t : T) {i : Nat} (hi : i ≤ t.var) (aa : i < 24) : (if (dec Z t).1 = i then (dec Z t).2.2 else plc Z t) = plc Z (T.hi i t) := by
  cases t with
  | lf b => have e : ¬ (24 = i) := by omega
            simp [dec, T.hi, e]
  | nd v l h => by_cases e : v = i <;> simp [dec, T.hi, e]
variable{Z: List T}
theorem isIn_lo  (s : Seq Z) {t : T} (h : isIn Z t) (i : Nat) : isIn Z (lo i t) := by
  cases t with
  | lf b => trivial
  | nd v l r => simp only [lo]; split
                · exact (s.kids h).1
                · exact h
theorem isIn_hi  (s : Seq Z) {t : T} (h : isIn Z t) (i : Nat) : isIn Z (T.hi i t) := by
  cases t with
  | lf b => trivial
  | nd v l r => simp only [T.hi]; split
                · exact (s.kids h).2
                · exact h
end Dg.T
namespace Go.Proofs.YtfaclfkpnmcmlaaGreatDoor
open Go Go.Sx Dg
theorem LA:prog.underlying 335=some (.array 2 3):=by kernel_rfl
theorem SR:prog.keyTypeAt 3 335=true:=by kernel_rfl
theorem WN:prog.tiled 3 335=true:=by kernel_rfl
def Cn:Maps.Keyed prog 335:=by refine Maps.Keyed.of_law (deep_law (m:=3) O SR WN ?_);rw[LA]
theorem SD:prog.keyType 335=true:=by kernel_rfl
theorem NR:prog.cellsOf 335=2:=by kernel_rfl
def kV(x y:Nat):Value:=.agg #[E x,E y]
def SE{P:Program}{k t:TypeId}{a b:Nat}(d:P.underlying k=some (.array 2 t))(h1:P.keyType k=true)(h2:P.cellsOf k=2)(h3:P.cellsOf t=1)(h4:P.underlying t=some (.int .i64))(h5:1<P.types.size)
  (ha:a<2^62) (hb:b<2^62):fg P k (kV a b):=by
 obtain⟨n,c⟩:∃n,P.types.size=n+1:=⟨P.types.size-1,O⟩;unfold fg keyOf;rw[h1];simp[d,Value.formed,kV,c,Program.keyLits,h2,h3,h4,Value.cells,vT ha,vT hb,E,List.range,List.range.loop]
def Sz{a b:Nat}(ha:a<2^62)(hb:b<2^62):fg prog 335 (kV a b):=SE LA SD NR CZ se E2 ha hb
def IE{a b c d:Nat}(h:kV a b=kV c d):a=c/\b=d:=by simp[kV,E]at h;exact⟨Int.ofNat.inj h.1,Int.ofNat.inj h.2⟩
def vH(f:Bool->Bool->Bool)(ta tb ms:List T)(L:List (T×T))(y u:Value):Prop:=∃s t,(s,t)∈L/\y=kV (T.plc ta s) (T.plc tb t)/\u=E (T.plc ms (T.opT f s t))
def qV(f:Bool->Bool->Bool)(ta tb ms:List T)(L:List (T×T)):Prop:=∀s t,(s,t)∈L->T.isIn ta s/\T.isIn tb t/\T.isIn ms (T.opT f s t)
variable{L:List (T×T)}{ta tb ms:List T}{f:Bool->Bool->Bool}
def qV.app{us:List T}(h:qV f ta tb ms L):qV f ta tb (ms++us) L:=fun s t hm=>⟨(h s t hm).1,(h s t hm).2.1,(h s t hm).2.2.app⟩
def VR{us:List T}(h:qV f ta tb ms L)(y u:Value):vH f ta tb (ms++us) L y u<->vH f ta tb ms L y u:=by
 constructor
 .rintro⟨s,t,hm,a,b⟩;exact⟨s,t,hm,a,by rw[b,T.plc_app (h s t hm).2.2]⟩
 .rintro⟨s,t,hm,a,b⟩;exact⟨s,t,hm,a,by rw[b,T.plc_app (h s t hm).2.2]⟩
def Kz(h:qV f ta tb ms L){s t:T}(hs:T.isIn ta s)(ht:T.isIn tb t){u:Value}:vH f ta tb ms L (kV (T.plc ta s) (T.plc tb t)) u<->(s,t)∈L/\u=E (T.plc ms (T.opT f s t)):=by
 constructor
 .rintro⟨s',t',hm,a,b⟩;obtain⟨e1,e2⟩:=IE a;have h1:=T.plc_inj hs (h s' t' hm).1 e1;have h2:=T.plc_inj ht (h s' t' hm).2.1 e2;subst h1;subst h2;exact⟨hm,b⟩
 .rintro⟨a,b⟩;exact⟨s,t,a,rfl,b⟩
def VS(h:qV f ta tb ms L){s t:T}(hs:T.isIn ta s)(ht:T.isIn tb t)(y u:Value):
  vH f ta tb ms ((s,t)::L) y u<->(y=kV (T.plc ta s) (T.plc tb t)/\u=E (T.plc ms (T.opT f s t)))\/(y≠kV (T.plc ta s) (T.plc tb t)/\vH f ta tb ms L y u):=by
 constructor
 .rintro⟨s',t',hm,rfl,rfl⟩;rcases List.mem_cons.1 hm with e|a
  .cases e;exact .inl ⟨rfl,rfl⟩
  .by_cases e:kV (T.plc ta s') (T.plc tb t')=kV (T.plc ta s) (T.plc tb t)
   .obtain⟨e1,e2⟩:=IE e;have h1:=T.plc_inj (h s' t' a).1 hs e1;have h2:=T.plc_inj (h s' t' a).2.1 ht e2;subst h1;subst h2;exact .inl ⟨rfl,rfl⟩
   .exact .inr ⟨e,s',t',a,rfl,rfl⟩
 .rintro(⟨rfl,rfl⟩|⟨_,s',t',hm,rfl,rfl⟩)
  .exact⟨s,t,.head _,rfl,rfl⟩
  .exact⟨s',t',.tail _ hm,rfl,rfl⟩
structure wo(I:PH)(pb mb q:Nat)(sla ra slb rb:Value)(ta tb:List T):Prop where
 hp:I pb=some (.cells #[pt mb,sla,ra,slb,rb,.map (some q)] 262 (0,0))
 ha:lG I sla ta
 hb:lG I slb tb
 sa:T.Seq ta
 sb:T.Seq tb
 la:ta.length<2^30
 lb:tb.length<2^30
def wo.le{I J:PH}{pb mb q:Nat}{sla ra slb rb:Value}(h:wo I pb mb q sla ra slb rb ta tb)(a:I.le J):wo J pb mb q sla ra slb rb ta tb:=
 ⟨a _ _ h.hp,h.ha.le a,h.hb.le a,h.sa,h.sb,h.la,h.lb⟩
def FW(f:Bool->Bool->Bool)(mb q:Nat)(ta tb ms:List T)(L:List (T×T))(a:List PH):Prop:=∃mk N,a=mk++[N]/\po mb ms mk/\jv prog N q 335 (vH f ta tb ms L)/\qV f ta tb ms L
structure zi(S:Nat->Nat->Option Bool)(f:Bool->Bool->Bool):Prop where
 yes:∀{ta tb:List T} {s t:T} {b:Bool},S (T.plc ta s) (T.plc tb t)=some b->∀c,f (s.at' c) (t.at' c)=b
 no:∀{x y:Nat},S x y=none->¬(x<2/\y<2)
def VC:zi pF (· && ·):=by
 refine⟨fun{ta tb s t b} h c=>?_,fun{x y} h=>?_⟩
 .unfold pF at h;split at h
  .rename_i h0;cases h
   rcases h0 with h0|h0
   .rw[xU.1 h0];rfl
   .rw[xU.1 h0];simp[T.at']
  .split at h
   .rename_i h1;cases h;rw[xV.1 h1.1,xV.1 h1.2];rfl
   .cases h
 .unfold pF at h;split at h
  .cases h
  .split at h
   .cases h
   .omega
def VE:zi qj (· || ·):=by
 refine⟨fun{ta tb s t b} h c=>?_,fun{x y} h=>?_⟩
 .unfold qj at h;split at h
  .rename_i h0;cases h
   rcases h0 with h0|h0
   .rw[xV.1 h0];rfl
   .rw[xV.1 h0];simp[T.at']
  .split at h
   .rename_i h1;cases h;rw[xU.1 h1.1,xU.1 h1.2];rfl
   .cases h
 .unfold qj at h;split at h
  .cases h
  .split at h
   .cases h
   .omega
def DL:ax prog 168:=⟨_,func168,rfl,rfl⟩
def HW:ax prog 236:=⟨_,func236,rfl,rfl⟩
variable{fid:FuncId}{S:Nat->Nat->Option Bool}
def Ss(a9:y6 fid S)(ba:ax prog fid)(hS:zi S f){pb mb q:Nat}{sla ra slb rb:Value}:
  ∀(n:Nat) {k:Nat} {s t:T} {ms:List T} {L:List (T×T)} {I:PH} {ps:List PH},24<=n+k->k<=24->s.ok k->t.ok k->T.isIn ta s->T.isIn tb t->wo I pb mb q sla ra slb rb ta tb->FW f mb q ta tb ms L ps->ms.length+2^n<=2^28->
  aT prog 168 #[pt pb,E (T.plc ta s),E (T.plc tb t),.func (.func fid) #[] #[]] I ps fun v I2 qs=>∃us L2,FW f mb q ta tb (ms++us) L2 qs/\us.length+1<=2^n/\T.isIn (ms++us) (T.opT f s t)/\v=E (T.plc (ms++us) (T.opT f s t)):=by
 intro n
 induction n with
 |zero=>
  intro k s t ms L I ps hn K hs ht j g hI hP a1 hd;have hk:k=24:=by omega
  subst hk;obtain⟨x,rfl⟩:=T.is_lf hs;obtain⟨y,rfl⟩:=T.is_lf ht;refine eX func168 rfl (by simp[ntmps168]) fun w0=>?_;simp only[ntmps168,pt,E];refine ai ?_;refine X4 rfl ba (a9 _ _ _) ?_;rintro v H2⟨rfl,r,rfl,hr⟩;have w:(S (T.plc ta (.lf x)) (T.plc tb (.lf y))).isSome=true:=by
   cases h:S (T.plc ta (.lf x)) (T.plc tb (.lf y))with
   |none=>exact absurd ⟨by simp only[T.plc];split<;>omega,by simp only[T.plc];split<;>omega⟩ (hS.no h)
   |some b=>rfl
  obtain⟨b,hb⟩:=Option.isSome_iff_exists.1 w;have a0:=hr b hb;have H:T.opT f (.lf x) (.lf y)=.lf b:=T.opT_lf trivial trivial (hS.yes hb);refine dq w ?_;refine az rfl hd (r:=[_]) rfl (aC _) ⟨[],L,by rw[Y];exact hP,by simp,?_,?_⟩
  .rw[H];trivial
  .rw[H,a0];rfl
 |succ n ih=>
  intro k s t ms L I ps hn K hs ht j g hI hP a1 hd;have aq:=hs.mono (aF k);have ap:=ht.mono (aF k);refine eX func168 rfl (by simp[ntmps168]) fun w0=>?_;simp only[ntmps168,pt,E];refine ai ?_;refine X4 rfl ba (a9 _ _ _) ?_;rintro v H2⟨rfl,r,rfl,hr⟩;cases z:S (T.plc ta s) (T.plc tb t)with
  |some b=>
   have a0:=hr b z;have H:T.opT f s t=.lf b:=T.opT_lf aq ap (hS.yes z);apply RG;simp only[go_sem,z,Option.isSome_some];refine az rfl hd (r:=[_]) rfl (aC _) ⟨[],L,by rw[Y];exact hP,by simp[Nat.one_le_two_pow],?_,?_⟩
   .rw[H];trivial
   .rw[H,a0];rfl
  |none=>
   have b2:=hS.no z;have p:=T.plc_lt j;have cn:=T.plc_lt g;have cy:=hI.la;have cx:=hI.lb;obtain⟨mk,N,rfl,hM,hN,B⟩:=hP;obtain⟨A,sv,r',Z,rfl,hA,bs,sq⟩:=hM;apply RG;simp only[go_sem,z,Option.isSome_none];refine iA mixed [0,1,2,3,4,5,6,7,8,9,10] [3,5] [] rfl rfl ?_;refine d6 ?_;refine X6 (l:=[_]) rfl (cellsU hd (.head _) (bz hI.hp (by simp) rfl)) (.inr ⟨CI,rfl⟩) ?_;refine d6 ?_;have J:fg prog 335 (kV (T.plc ta s) (T.plc tb t)):=Sz O O;by_cases G:(s,t)∈L
   .refine ze (by exact Cn) (by exact Eb) (by exact pe) (key:=kV (T.plc ta s) (T.plc tb t)) rfl rfl rfl rfl rfl (hN.atU hd (by simp)) (by exact J) (E (T.plc ms (T.opT f s t))) true (.inl ⟨rfl,(Kz B j g).2 ⟨G,rfl⟩⟩) ?_;refine d6 ?_;apply aL;refine ai ?_;refine az rfl hd (r:=[_]) rfl (aC _) ⟨[],L,?_,by simp[Nat.one_le_two_pow],?_,?_⟩
    .rw[Y];exact⟨_,N,rfl,⟨A,sv,r',Z,rfl,hA,bs,sq⟩,hN,B⟩
    .rw[Y];exact(B s t G).2.2
    .rw[Y];rfl
   .refine ze (by exact Cn) (by exact Eb) (by exact pe) (key:=kV (T.plc ta s) (T.plc tb t)) rfl rfl rfl rfl rfl (hN.atU hd (by simp)) (by exact J) (E 0) false (.inr ⟨rfl,rfl,fun u hu=>G ((Kz B j g).1 hu).1⟩) ?_;refine d6 ?_;apply aL;refine ai ?_;refine iA mixed [12,13,0,1,2,3,4,6,7,8,9,10,5,11,14,15] [3,9] [5] rfl rfl ?_;refine d6 ?_;refine X6 (l:=[sla,ra]) (v:=.agg #[sla,ra]) rfl (cellsU hd (.head _) (bz hI.hp (by simp) rfl)) (.inl ⟨iB,rfl⟩) ?_;refine d6 ?_;refine X6 (l:=[slb,rb]) (v:=.agg #[slb,rb]) rfl (cellsU hd (.head _) (bz hI.hp (by simp) rfl)) (.inl ⟨iB,rfl⟩) ?_;refine d6 ?_;refine wy rfl rfl rfl rfl HW (GE (hI.ha.le (iH hd)) hI.sa j O) ?_;rintro v1 H3⟨rfl,rfl⟩;refine⟨kI.le (aC _),?_⟩;refine d6 ?_;refine wy rfl rfl rfl rfl HW (GE (hI.hb.le (iH hd)) hI.sb g O) ?_;rintro v2 H3⟨rfl,rfl⟩;refine⟨kI.le (aC _),?_⟩;apply bd;simp only[go_sem,ew,E,T.dec_var];apply aL;obtain⟨i,hi⟩:∃i,i=min s.var t.var:=⟨_,rfl⟩;have C:(if ((t.var:Nat):Int)<((s.var:Nat):Int)then ((t.var:Nat):Int)else ((s.var:Nat):Int))=((i:Nat):Int):=by split<;>omega
    have d:i<24:=by
     rcases aI i 24 with h|h
     .exact h
     .exfalso;have h1:=T.var_le aq;have h2:=T.var_le ap;have h3:s.ok 24:=by cases s with
       |lf b=>trivial
       |nd v l r=>exact absurd hs.2.1 (by simp only[T.var]at *;omega)
      have h4:t.ok 24:=by cases t with
       |lf b=>trivial
       |nd v l r=>exact absurd ht.2.1 (by simp only[T.var]at *;omega)
      obtain⟨x,rfl⟩:=T.is_lf h3;obtain⟨y,rfl⟩:=T.is_lf h4;exact b2 ⟨by simp only[T.plc];split<;>omega,by simp only[T.plc];split<;>omega⟩
    have o:i<=s.var:=by omega
    have m:i<=t.var:=by omega
    have cA:k<=i:=by have:=T.var_ge hs K;have:=T.var_ge ht K;omega
    have pn:2^(n+1)=2^n+2^n:=by rw[tN];omega
    have pnn:0<2^n:=Nat.two_pow_pos n;have R:=T.dec_lo ta s o d;have V:=T.dec_hi ta s o d;have gD:=T.dec_lo tb t m d;have U:=T.dec_hi tb t m d;rw[T.dec_var]at R V gD U;cases c:decide (s.var=i)<;>cases a:decide (t.var=i)
    .simp only[Ce]at c a;omega
    have els:T.plc ta (T.lo i s)=T.plc ta s:=by rw[<-R,ab (by simpa using c)]
    have ehs:T.plc ta (T.hi i s)=T.plc ta s:=by rw[<-V,ab (by simpa using c)]
    have elt:T.plc tb (T.lo i t)=(T.dec tb t).2.1:=by rw[<-gD,ag (by simpa using a)]
    have eht:T.plc tb (T.hi i t)=(T.dec tb t).2.2:=by rw[<-U,ag (by simpa using a)]
    apply RG;simp only[go_sem,ew,E,T.dec_var,C,rH,c,a]
    rotate_left
    have els:T.plc ta (T.lo i s)=(T.dec ta s).2.1:=by rw[<-R,ag (by simpa using c)]
    have ehs:T.plc ta (T.hi i s)=(T.dec ta s).2.2:=by rw[<-V,ag (by simpa using c)]
    have elt:T.plc tb (T.lo i t)=T.plc tb t:=by rw[<-gD,ab (by simpa using a)]
    have eht:T.plc tb (T.hi i t)=T.plc tb t:=by rw[<-U,ab (by simpa using a)]
    apply RG;simp only[go_sem,ew,E,T.dec_var,C,rH,c,a]
    rotate_left
    have els:T.plc ta (T.lo i s)=(T.dec ta s).2.1:=by rw[<-R,ag (by simpa using c)]
    have ehs:T.plc ta (T.hi i s)=(T.dec ta s).2.2:=by rw[<-V,ag (by simpa using c)]
    have elt:T.plc tb (T.lo i t)=(T.dec tb t).2.1:=by rw[<-gD,ag (by simpa using a)]
    have eht:T.plc tb (T.hi i t)=(T.dec tb t).2.2:=by rw[<-U,ag (by simpa using a)]
    apply RG;simp only[go_sem,ew,E,T.dec_var,C,rH,c,a];refine Cw mixed [0,1,2,3,4,5,6,7] [] [] [3] [5] [14,15] rfl rfl ?_;refine d6 ?_;apply aL;apply RG;simp only[go_sem,rH,a]
    all_goals
     refine Cw mixed [0,1,2,3,4,5,6,7] [] [] [3] [5] [14,15] rfl rfl ?_;refine d6 ?_;apply aL;apply RG;simp only[go_sem,rH,a];have c1:=ih (k:=i+1) (I:=I) (ms:=ms) (L:=L) O O (T.lo_ok hs O) (T.lo_ok ht O) (T.isIn_lo hI.sa j i) (T.isIn_lo hI.sb g i) hI ⟨_,N,rfl,⟨A,sv,r',Z,rfl,hA,bs,sq⟩,hN,B⟩ O;rw[els,elt]at c1;refine F2 hd [0,1,2,3] rfl DL rfl (F:=[]) rfl c1 ?_;rintro v1 I2 qs a4 am⟨Q,L1,bc,cs,an,rfl⟩;have a7:=hI.le am;simp only[Y]at a4 |-;apply RG;simp only[go_sem,E];refine q8 mixed [0,1,2,3,4,5,6,7,8,9,10,11,12,13,14] [] [] [3] [12] I2 rfl rfl ?_;apply bd;simp only[go_sem,E];refine qY (l:=[_]) rfl (iH a4) rfl rfl rfl (bz a7.hp (by simp) rfl) (.inr ⟨zr,rfl⟩) ?_;apply bd;simp only[go_sem,E];have c2:=ih (k:=i+1) (I:=I2) (ms:=ms++Q) (L:=L1) O O (T.hi_ok hs O) (T.hi_ok ht O) (T.isIn_hi hI.sa j i) (T.isIn_hi hI.sb g i) a7 bc (by simp only[aE];omega);rw[ehs,eht]at c2;obtain⟨Et,N1,rfl,cf,cB,b1⟩:=bc;obtain⟨A1,sv1,r1',M1,rfl,c0,ca,sq1⟩:=cf;refine F6 a4 [0,1,2,3] rfl (fun _=>aC _) rfl DL rfl (F:=[]) rfl c2 ?_;rintro v2 I3 qs bb ac⟨us2,L2,b6,cr,a2,rfl⟩;have cj:=a7.le ac;obtain⟨mk2,N2,rfl,cc,b8,X⟩:=b6;obtain⟨A2,sv2,r2',M2,rfl,cm,a6,sq2⟩:=cc;simp only[Y,aN,aM]at bb |-;apply bd;simp only[go_sem,E];have c3:=AN (mb:=mb) (I:=I3) (i:=i) ⟨A2,sv2,r2',M2,rfl,cm,a6,sq2⟩ d (T.opT_ok (f:=f) (T.lo_ok hs o) (T.lo_ok ht m) O) (T.opT_ok (f:=f) (T.hi_ok hs o) (T.hi_ok ht m) O) an.app a2 (by simp only[aE];omega);rw[T.plc_app an]at c3;refine F6 bb [0,1,2,3] rfl (fun h=>by cases h) rfl z8 rfl (F:=[N2]) rfl c3 ?_;rintro v3 I4 qs a3 aa⟨us3,cb,cp,P,rfl⟩;have ci:=cj.le aa
     obtain⟨A3,sv3,r3',M3,rfl,cl,a5,sq3⟩:=cb;simp only[aN,aM]at a3 |-;apply bd;simp only[go_sem,E];apply aL;apply RG;simp only[go_sem,E];refine iA mixed [0,1,2,3,4,5,6] [3] [] rfl rfl ?_;apply bd;simp only[go_sem,E];refine X6 (l:=[_]) rfl (cellsU a3 (.head _) (bz ci.hp (by simp) rfl)) (.inr ⟨CI,rfl⟩) ?_;apply bd;simp only[go_sem,E];have aS:T.mk i (T.opT f (T.lo i s) (T.lo i t)) (T.opT f (T.hi i s) (T.hi i t))=T.opT f s t:=(T.opT_rec aq ap hi d).symm;rw[aS]at P |-;refine iV a3 [3,0,1,2] fun b5=>?_;refine Ct (by exact Cn) (by exact Eb) (key:=kV (T.plc ta s) (T.plc tb t)) (v:=E (T.plc (ms++Q++us2++us3) (T.opT f s t))) b5 rfl rfl rfl (.inl rfl) rfl rfl rfl b8 (by exact J) fun N3 b4 b7=>?_;apply aL;apply RG;simp only[go_sem,E];refine aj b4 [1,2,3,0] fun b3=>?_;have W:qV f ta tb (ms++Q++us2++us3) L2:=X.app;refine az rfl b3 (r:=[_]) rfl (D am (D ac aa)) ⟨Q++us2++us3,(s,t)::L2,?_,?_,?_,?_⟩
     .refine⟨_,N3,rfl,⟨A3,sv3,r3',M3,rfl,?_,?_,?_⟩,?_,?_⟩
      .simpa[cq]using cl
      .simpa[cq]using a5
      .simpa[cq]using sq3
      .refine b7.congr fun y u=>?_;have e1:=VS W j g y u;rw[VR X]at e1;simpa[cq]using e1
      .intro s' t' hm;rcases List.mem_cons.1 hm with e|hm
       .cases e;exact⟨j,g,by simpa[cq]using P⟩
       .simpa[cq]using W s' t' hm
     .simp only[aE];omega
     .simpa[cq]using P
     .simp[dS,E,cq]
def LK(aa:y6 fid S)(U:ax prog fid)(hS:zi S f){I:PH}{va vb:Value}{a b:T}(ha:bU I va a)(hb:bU I vb b):
  aT prog 96 #[va,vb,.func (.func fid) #[] #[]] I [] fun v I2 G=>G=[]/\bU I2 v (T.opT f a b):=by
 intro hd;obtain⟨e,sla,rfl,R⟩:=ha;obtain⟨d,slb,rfl,Q⟩:=hb;refine eX func96 rfl (by simp[ntmps96]) fun w0=>?_;simp only[ntmps96,pt,E];apply RG;simp only[go_sem,E];refine iA mixed [1,2,0,3,4,5,6] [] [] rfl rfl ?_;apply bd;simp only[go_sem,E];refine F6 hd [] rfl (fun h=>by cases h) rfl DF rfl (F:=[]) rfl (Ew I) ?_;rintro v I2 G B i⟨mb,rfl,A,sv,r,Z,rfl,hA,hM,sq⟩;simp only[Y]at B |-;apply bd;simp only[go_sem,E,pt];refine Cs 335 B rfl rfl fun q N ac hN=>?_;apply bd;simp only[go_sem,E,pt];apply aL;apply RG;simp only[go_sem,E,pt];refine jL 13 ac rfl fun pb X=>?_;refine aH X fun I3 z g P=>?_;have hI:wo I3 pb mb q sla (E (T.plc (T.subs a) a)) slb (E (T.plc (T.subs b) b)) (T.subs a) (T.subs b):=
  ⟨P _ _ (gT _ _),(R.le i).le g,(Q.le i).le g,T.subs_seq e,T.subs_seq d,by have:=T.subs_len e;omega,by have:=T.subs_len d;omega⟩
 apply RG;simp only[go_sem,E,pt];refine q8 mixed [0,1,2,3,4,5,6,7,8,9,10,11,12] [] [] [3] [10] I3 rfl rfl ?_;apply bd;simp only[go_sem,E,pt];refine qY (l:=[_]) rfl (iH z) rfl rfl rfl (bz hI.hp (by simp) rfl) (.inr ⟨zr,rfl⟩) ?_;apply bd;simp only[go_sem,E,pt];refine iV z [1,2,3,0] fun W=>?_;have c1:=Ss aa U hS (pb:=pb) (mb:=mb) (q:=q) 24 (k:=0) (s:=a) (t:=b) (ms:=[]) (L:=[]) (I:=I3) O O e d (T.subs_in e) (T.subs_in d) hI ⟨_,N,rfl,⟨A,sv,r,Z,rfl,hA,hM,sq⟩,hN.congr fun y u=>⟨fun⟨_,_,h,_⟩=>absurd h dH,fun h=>h.elim⟩,fun s t h=>absurd h dH⟩ (by simp);refine F6 W [0,1,2,3] rfl (fun _=>aC _) rfl DL rfl (F:=[]) rfl c1 ?_;rintro v1 I4 G x o⟨us,L2,hP,hn,p,rfl⟩;obtain⟨mk,N2,rfl,am,ap,_⟩:=hP;obtain⟨A2,H,r2,M2,rfl,an,C,J⟩:=am;simp only[Y,aM,aN]at x p |-;apply bd;simp only[go_sem,E,pt];have c2:=Dl (mb:=mb) (I:=I4) ⟨A2,H,r2,M2,rfl,an,C,J⟩ p (T.opT_ok e d O) (by simp only[aM];omega);refine F6 x [0,1,2,3] rfl (fun h=>by cases h) rfl DG rfl (F:=[N2]) rfl c2 ?_;rintro v2 I5 G w n⟨rfl,hr⟩;simp only[aM]at w |-;obtain⟨K,slr,rfl,⟨za,zc,rfl,hz⟩⟩:=hr;apply bd;simp only[go_sem,E,pt];apply aL;apply RG;simp only[go_sem,E,pt];refine aH (c:=.st _) w fun I6 V j _=>?_;refine az rfl V (r:=[.agg #[.slice za (T.subs (T.opT f a b)).length zc,E (T.plc (T.subs (T.opT f a b)) (T.opT f a b))]]) (by simp only[results96,go_sem,E]) (D i (D g (D o (D n j)))) ⟨rfl,K,_,rfl,lG.le ⟨za,zc,rfl,hz⟩ j⟩
def Pj:ax prog 127:=⟨_,func127,rfl,rfl⟩
end Go.Proofs.YtfaclfkpnmcmlaaGreatDoor
namespace Go.Sx
def aX.get{H:PH}{b off:Nat}{l:List Value}(h:aX H b off l){i:Nat}{x:Value}(a:l[i]?=some x):aX H b (off+i) [x]:=by
 have hi:i<l.length:=by
  rcases aI i l.length with h|h
  .exact h
  .rw[fe h]at a;cases a
 have:=h.sub i 1 O;have e:(l.drop i).take 1=[x]:=by rw[js hi];rw[aZ hi]at a;simp[cW a]
 rw[e]at this;exact this
end Go.Sx
namespace Go.Proofs.YtfaclfkpnmcmlaaGreatDoor
open Go Go.Sx Dg
variable{t:T}{Z:List T}
def Nb(h:T.isIn Z t):(T.lf false::T.lf true::Z)[T.plc Z t]?=some t:=by
 cases t with
 |lf b=>cases b<;>rfl
 |nd v l r=>have hm:T.nd v l r∈Z:=h;simp only[T.plc,vW];rw[aZ (tK hm)];simp
def u8(ms Z:List T):List Value:=(T.lf false::T.lf true::Z).map fun t=>E (T.plc ms t.not)
def EB{ms:List T}(h:T.isIn Z t):(u8 ms Z)[T.plc Z t]?=some (E (T.plc ms t.not)):=by unfold u8;rw[jG,Nb h];rfl
def JV{j:Nat}(h:T.isIn (Z.take j) t):T.plc Z t=T.plc (Z.take j) t:=by
 have:=T.plc_app (us:=Z.drop j) h
 rwa [tL]at this
def Rx{ms us:List T}(h:∀t,T.isIn us t->T.isIn ms t.not){v:Nat}{l r:T}(a:T.isIn ms (T.nd v l r).not)(t:T)(ht:T.isIn (us++[.nd v l r]) t):T.isIn ms t.not:=by
 rcases Aj.1 ht with h1|rfl
 .exact h t h1
 .exact a
def uE(mb:Nat)(sl b:Value)(n:Nat)(a:Nat×Value):St:=
 ⟨sp 0 45 [(3,.v (.func (.func 125) #[pt mb] #[])),(4,.p 4 0),(9,.v a.2),(16,.v sl),(17,.v (.int .i64 n)),(18,.v (.int .i64 a.1))],[⟨4,50,[sl,b]⟩]⟩
def O7(mb:Nat)(Z:List T)(b:PH)(a:Nat×Value)(H:PH):Prop:=
 ∃I A mk ms,H=U (I::A::mk)/\Dj (I::A::mk)/\b.le I/\a.1<=Z.length/\dE A 3 1 a.2 (a.1+2) (u8 ms (Z.take a.1))/\po mb ms mk/\ms.length<=a.1/\∀t,T.isIn (Z.take a.1) t->T.isIn ms t.not
variable{I:PH}
def O8{mb:Nat}{ps:List PH}{sl:Value}(G:t.ok 0)(hL:lG I sl (T.subs t))(hM:po mb [] ps):
  aT prog 127 #[.agg #[sl,E (T.plc (T.subs t) t)],.int .i64 1,.int .i64 0,.func (.func 125) #[pt mb] #[]] I ps fun v I2 qs=>∃ms,po mb ms qs/\T.isIn ms t.not/\v=E (T.plc ms t.not)/\ms.length<2^24:=by
 intro hd;obtain⟨za,zc,rfl,hz⟩:=hL;have bb:=T.subs_len G;have C:=T.subs_seq G;have K:=T.subs_in G;refine eX func127 rfl (by simp[ntmps127]) fun w0=>?_;simp only[ntmps127,pt,E];refine ai ?_;refine sJ hd mV rfl rfl rfl rfl rfl af fun b A b1 hA=>?_;refine ai ?_;refine bY (fun a=>(T.subs t).length-a.1) (uE mb (.slice za (T.subs t).length zc) (E (T.plc (T.subs t) t)) (T.subs t).length) (O7 mb (T.subs t) I) (0,.slice (some ⟨b,0,none⟩) 2 2) (by simp only[go_sem,Y,uE,E,pt]) (by simp only[go_sem,Y,uE,E]) ?_ ?_
 .exact⟨I,A,ps,[],rfl,b1,aC _,aF _,hA,hM,by simp,fun t ht=>by cases t<;>simp_all[T.isIn,T.not]⟩
 rintro⟨j,sv⟩ H ⟨I1,A1,mk,ms,rfl,o,k,hj,q,L,ba,d⟩ J;simp only at hj q ba d;simp only[uE];rcases aI j (T.subs t).length with f|b8
 .have N:decide ((j:Int)<((T.subs t).length:Int))=true:=by simp;omega
  rcases hz with h0|⟨lb,rfl,hc⟩
  .rw[h0]at f;simp at f
  obtain⟨u,hu⟩:∃u,(T.subs t)[j]?=some u:=⟨_,aZ f⟩;obtain⟨v,l,r,rfl,s,z,y⟩:=C.2 j u hu;apply RG;simp only[go_sem,N,E,pt];refine⟨⟨O,O⟩,?_⟩;have p:=hc.sub (j*3) 3 (by have:=yH (T.subs t);omega);rw[yG hu,ii]at p;refine X5 (l:=i8 (T.dec (T.subs t) (.nd v l r))) (v:=ew (T.dec (T.subs t) (.nd v l r))) rfl (cellsU o (.head _) (p.le k)) (.inl ⟨sO,rfl⟩) ?_;obtain⟨g,cap,rfl,Z⟩:=q.cellsU o (.tail _ (.head _)) O;apply RG;simp only[go_sem,ew,E,pt,T.dec];refine iA mixed [0,1,2,3,4,5,6,7,8,9,10,11,12,13,14,15,16,17] [8,13] [] rfl rfl ?_;apply bd;simp only[go_sem,E,pt];have pl:=T.plc_lt z;have pr:=T.plc_lt y;have tl:((T.subs t).take j).length=j:=by simp;omega
  rw[tl]at pl pr;have el:=JV z;have er:=JV y;have cl:=Z.get (EB z);have cr:=Z.get (EB y);rw[ii,<-el]at cl;rw[ii,<-er]at cr;refine⟨⟨O,O⟩,?_⟩;refine X6 (l:=[E (T.plc ms l.not)]) rfl (by simpa using cl) (.inr ⟨fI,rfl⟩) ?_;apply bd;simp only[go_sem,E,pt];refine⟨⟨O,O⟩,?_⟩;refine X6 (l:=[E (T.plc ms r.not)]) rfl (by simpa using cr) (.inr ⟨fI,rfl⟩) ?_;apply bd;simp only[go_sem,E,pt];have c1:=AN (mb:=mb) (I:=I1) (i:=v) L s.2.1 (T.not_ok s.2.2.2.1) (T.not_ok s.2.2.2.2) (d l z) (d r y) O;obtain⟨mA,mS,mR,mM,rfl,b7,b6,b5⟩:=L;refine F6 o [1,2,3,0] rfl (fun h=>by cases h) rfl z8 rfl (F:=[A1]) rfl c1 ?_;rintro v1 I2 qs ac V⟨us,b2,b4,W,rfl⟩;obtain⟨nA,nS,nR,nM,rfl,a9,a0,aS⟩:=b2;simp only[aN,aM]at ac |-;apply bd;simp only[go_sem,E,pt];refine im ac mV rfl rfl rfl rfl rfl af fun nb I3 b0 U aq=>?_;apply bd;simp only[go_sem,E,pt];refine iV b0 [3,0,1,2] fun aa=>?_;have b3:dE A1 3 1 (.slice (some ⟨g,0,none⟩) (j+2) cap) (j+2) (u8 (ms++us) ((T.subs t).take j)):=q.xs rfl (by
   unfold u8;refine m0 fun x B=>?_;have:T.isIn ms x.not:=by
    rcases List.mem_cons.1 B with rfl|B
    .trivial
    .rcases List.mem_cons.1 B with rfl|B
     .trivial
     .exact d x (Ry ⟨(C.1.sublist (List.take_sublist j _)),fun i u w=>by
       rw[Cc]at w;split at w
       .obtain⟨a1,a2,a3,a4,a5,a6,a7⟩:=C.2 i u w;rename_i X;exact⟨a1,a2,a3,a4,a5,by rw[n9,ju (lC X)];exact a6,by rw[n9,ju (lC X)];exact a7⟩
       .cases w⟩ B)
   rw[T.plc_app this])
  refine wx (m:=1) aa mV b3 rfl rfl rfl rfl rfl rfl (cellsU aa (.head _) (bz (l:=[E (T.plc (ms++us) (T.mk v l.not r.not))]) aq (by simp[av,Value.cells]) (by simp[av,Value.cells,E]))) rfl rfl O (by unfold maxLen;omega) fun v' I4 A4 bx S am=>?_;obtain⟨a4,c4,rfl⟩:=am.slice;apply bd;simp only[go_sem,E,pt];apply aL;have hw:=wrap64 (n:=j+1) O;have an:IntKind.i64.wrap ((j:Int)+1)=((j+1:Nat):Int):=by rw[<-hw];congr 1
  apply RG;simp only[go_sem,E,pt,an];have Q:T.mk v l.not r.not=(T.nd v l r).not:=by simp only[T.mk,T.not];rw[ab];intro e;apply s.2.2.1;rw[<-T.not_not l,e,T.not_not]
  have P:(T.subs t).take (j+1)=(T.subs t).take j++[T.nd v l r]:=by rw[pj f];congr 1;rw[aZ f]at hu;rw[cW hu]
  refine J (j+1,.slice a4 (j+2+1) c4) _ _ bh (by simp only[go_sem,Y,uE,E,pt]) (by simp only[go_sem,Y,uE,E]) ⟨I4,A4,_,ms++us,rfl,bx,D k (D V (D U S)),f,am.xs O ?_,⟨nA,nS,nR,nM,rfl,a9,a0,aS⟩,by simp only[aE];omega,?_⟩
  .simp only;rw[P];simp[u8,Q]
  .simp only;rw[P];exact Rx (fun x B=>(d x B).app) (by rw[<-Q];exact W)
 .have N:decide ((j:Int)<((T.subs t).length:Int))=false:=by simp;omega
  obtain⟨g,cap,rfl,Z⟩:=q.cellsU o (.tail _ (.head _)) O;have bc:j=(T.subs t).length:=by omega
  subst bc;rw[dO]at Z d q;have pt':=T.plc_lt K;have ct:=Z.get (EB K);rw[ii]at ct;apply RG;simp only[go_sem,N,E];refine⟨⟨O,O⟩,?_⟩;refine X5 (l:=[E (T.plc ms t.not)]) rfl (by simpa using ct) (.inr ⟨fI,rfl⟩) ?_;apply RG;simp only[go_sem,E];refine aH (c:=.st _) (A:=A1) o fun I5 bs R _=>?_;exact az rfl bs (r:=[_]) rfl (D k R) ⟨ms,L,d t K,rfl,O⟩
def Ik:ax prog 96:=⟨_,func96,rfl,rfl⟩
def Pu:ax prog 163:=⟨_,func163,rfl,rfl⟩
def Qy:ax prog 97:=⟨_,func97,rfl,rfl⟩
def kT:ax prog 94:=⟨_,func94,rfl,rfl⟩
def oC:ax prog 39:=⟨_,func39,rfl,rfl⟩
def pT:ax prog 71:=⟨_,func71,rfl,rfl⟩
def iG:ax prog 50:=⟨_,func50,rfl,rfl⟩
def Ie:ax prog 68:=⟨_,func68,rfl,rfl⟩
def xh:ax prog 27:=⟨_,func27,rfl,rfl⟩
def sZ:ax prog 80:=⟨_,func80,rfl,rfl⟩
def bU.shape{v:Value}(h:bU I v t):∃a c,v=.agg #[.slice a (T.subs t).length c,E (T.plc (T.subs t) t)]:=by obtain⟨_,sl,rfl,a,c,rfl,_⟩:=h;exact⟨a,c,rfl⟩
variable{va:Value}
def kP{vb:Value}{a b:T}(ha:bU I va a)(hb:bU I vb b):aT prog 94 #[va,vb] I [] fun v f e=>e=[]/\bU f v (a.and b):=by intro hd;obtain⟨k,m,rfl⟩:=ha.shape;obtain⟨j,l,rfl⟩:=hb.shape;refine eX func94 rfl (by simp[ntmps94]) fun w0=>?_;simp only[ntmps94,E];apply RG;simp only[go_sem,E];refine F2 hd [] rfl Ik rfl (F:=[]) rfl (LK Nw Pu VC ha hb) ?_;rintro v f e d c⟨rfl,hr⟩;obtain⟨g,i,rfl⟩:=hr.shape;simp only[Y]at d |-;apply RG;simp only[go_sem,E];exact az rfl d (r:=[.agg #[.slice g (T.subs (a.and b)).length i,E (T.plc (T.subs (a.and b)) (a.and b))]]) (by simp only[results94,go_sem,E,T.and_eq]) c ⟨rfl,hr⟩
def oL{vb:Value}{a b:T}(ha:bU I va a)(hb:bU I vb b):aT prog 39 #[va,vb] I [] fun v f e=>e=[]/\bU f v (a.or b):=by intro hd;obtain⟨k,m,rfl⟩:=ha.shape;obtain⟨j,l,rfl⟩:=hb.shape;refine eX func39 rfl (by simp[ntmps39]) fun w0=>?_;simp only[ntmps39,E];apply RG;simp only[go_sem,E];refine F2 hd [] rfl Ik rfl (F:=[]) rfl (LK OA Qy VE ha hb) ?_;rintro v f e d c⟨rfl,hr⟩;obtain⟨g,i,rfl⟩:=hr.shape;simp only[Y]at d |-;apply RG;simp only[go_sem,E];exact az rfl d (r:=[.agg #[.slice g (T.subs (a.or b)).length i,E (T.plc (T.subs (a.or b)) (a.or b))]]) (by simp only[results39,go_sem,E,T.or_eq]) c ⟨rfl,hr⟩
def qf{a:T}(ha:bU I va a):aT prog 71 #[va] I [] fun v q l=>l=[]/\bU q v a.not:=by intro hd;obtain⟨c,sla,rfl,g⟩:=ha;obtain⟨z,J,rfl,G⟩:=id g;refine eX func71 rfl (by simp[ntmps71]) fun w0=>?_;simp only[ntmps71,E];apply RG;simp only[go_sem,E];refine F2 hd [] rfl DF rfl (F:=[]) rfl (Ew I) ?_;rintro v q l j b⟨mb,rfl,p⟩;obtain⟨A,sv,r,Z,rfl,H,w,sq⟩:=id p;simp only[Y]at j |-;apply RG;simp only[go_sem,E,pt];refine F2 j [0,1,2] rfl Pj rfl (F:=[]) rfl (O8 (mb:=mb) c (g.le b) p) ?_;rintro B N l i f⟨ms,k,m,rfl,n⟩;obtain⟨P,t,C,K,rfl,x,o,u⟩:=id k;simp only[Y]at i |-;apply RG;simp only[go_sem,E,pt];refine F2 i [0,1,2] rfl DG rfl (F:=[]) rfl (Dl (mb:=mb) k m (T.not_ok c) O) ?_;rintro v2 L l h e⟨rfl,hr⟩;obtain⟨s,y,rfl⟩:=hr.shape;simp only[Y]at h |-;apply RG;simp only[go_sem,E];exact az rfl h (r:=[.agg #[.slice s (T.subs a.not).length y,E (T.plc (T.subs a.not) a.not)]]) (by simp only[results71,go_sem,E]) (D b (D f e)) ⟨rfl,hr⟩
end Go.Proofs.YtfaclfkpnmcmlaaGreatDoor
