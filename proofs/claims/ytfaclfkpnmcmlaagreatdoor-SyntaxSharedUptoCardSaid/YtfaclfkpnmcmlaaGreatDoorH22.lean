import Derived.Test.YtfaclfkpnmcmlaaGreatDoorH08
import Derived.Test.YtfaclfkpnmcmlaaGreatDoorH09
import Derived.Test.YtfaclfkpnmcmlaaGreatDoorH10
import Derived.Test.YtfaclfkpnmcmlaaGreatDoorH17
import Derived.Test.YtfaclfkpnmcmlaaGreatDoorH18
import Derived.Test.YtfaclfkpnmcmlaaGreatDoorH19
import Derived.Test.YtfaclfkpnmcmlaaGreatDoorH21
set_option maxHeartbeats 8000000
set_option linter.all false
namespace Go.Proofs.YtfaclfkpnmcmlaaGreatDoor
open Go Go.Sx Dg Syn
def BI:aO Tryz.prog 36:=⟨_,Tryz.func36,rfl,rfl⟩
def To:aO Tryz.prog 88:=⟨_,Tryz.func88,rfl,rfl⟩
def Gt:aO Tryz.prog 159:=⟨_,Tryz.func159,rfl,rfl⟩
def TT:aO Tryz.prog 87:=⟨_,Tryz.func87,rfl,rfl⟩
def SK:aO Tryz.prog 33:=⟨_,Tryz.func33,rfl,rfl⟩
def VQ(a:Option Addr)(k:Nat)(t:T)(c:Nat)(u:T):St:=⟨dn 29 [(1,.v (.int .u32 c)),(2,.p 2 0),(5,.v (iv (T.plc (T.subs t) u)))],[⟨2,50,[sD a k t,rD t]⟩]⟩
variable{v:Value}
theorem Gh{H:PH}{t:T}{c:Nat}(h:cX H v t)(hc:c<2^32):bO Tryz.prog 36 #[v,.int .u32 c] H fun r H2=>r=.bool (t.at' (ch c))/\H2=H:=by
 obtain⟨ak,sl,rfl,hL⟩:=h;obtain⟨a,k,rfl,am⟩:=hL;have sq:T.Seq (T.subs t):=(T.vis_spec t ak ab [] T.Seq.nil).1;have ao:(T.subs t).length+1<=2^24:=by
  obtain⟨us,e1,e2,_⟩:=(T.vis_spec t ak ab [] T.Seq.nil).2.2;rw[aaA]at e1;show (t.vis []).length+1<=_;rw[e1];exact e2
 have aq:T.isIn (T.subs t) t:=T.subs_in ak;refine ah 29 Tryz.func36 fun w0=>?_
 try simp only[iv]
 refine aT ?_;refine aA (fun u=>u.sz) (VQ a k t c) (fun u H2=>H2=H/\T.isIn (T.subs t) u/\u.at' (ch c)=t.at' (ch c)) t bM (by simp only[go_sem,aa6,VQ,iv,sD,rD]) ⟨rfl,aq,rfl⟩ ?_;rintro u H2 ⟨rfl,hu,he⟩ ac;simp only[VQ];cases u with
 |lf b=>
  have an:decide (((T.plc (T.subs t) (.lf b):Nat):Int)>1)=false:=by cases b<;>simp[T.plc]
  have a1:(((T.plc (T.subs t) (.lf b):Nat):Int) == 1)=b:=by cases b<;>simp[T.plc]
  apply RG;simp only[go_sem,iv,an,a1];exact aJ (r:=[_]) rfl ⟨by rw[<-he];rfl,rfl⟩
 |nd i l r=>
  have hm:T.nd i l r∈T.subs t:=hu;have a4:=abb hm;have hp:T.plc (T.subs t) (.nd i l r)=(T.subs t).idxOf (.nd i l r)+2:=rfl;have an:decide (((T.plc (T.subs t) (.nd i l r):Nat):Int)>1)=true:=by rw[hp];simp;omega
  have a2:IntKind.i64.wrap (((T.plc (T.subs t) (.nd i l r):Nat):Int)-2)=(((T.subs t).idxOf (.nd i l r):Nat):Int):=by
   rw[<-wrap64 (n:=(T.subs t).idxOf (.nd i l r)) ab,hp];congr 1;omega
  obtain⟨kl,kr⟩:=sq.kids hm;have aS:i<24:=(sq.okk hu).2.1;have a0:T.dec (T.subs t) (.nd i l r)=(i,T.plc (T.subs t) l,T.plc (T.subs t) r):=rfl;rcases am with h0|⟨b,rfl,am⟩
  ·rw[h0]at hm;simp at hm
  apply RG;simp only[go_sem,iv,sD,rD,an,a2];refine⟨ab,?_⟩;have hg:=T.plc_get hm;rw[hp,acU]at hg;have a3:(EN (T.subs t)).length=(T.subs t).length*3:=qp _;have aj:=am.sub ((T.subs t).idxOf (.nd i l r)*3) 3 ab;rw[qw hg,ZZ,a0]at aj;refine XN (l:=nt (i,T.plc (T.subs t) l,T.plc (T.subs t) r)) (v:=gV (i,T.plc (T.subs t) l,T.plc (T.subs t) r)) rfl aj (.inl ⟨uK,rfl⟩) ?_;have hs:tN .u32 (ut .u32 (c:Int) (i:Int)) 1=((((c >>> i)&&&1:Nat)):Int):=by
   rw[Gj ab];exact mf (b:=1) (AL hc) ab
  have aa:=Me c i;cases hb:c.testBit i
  ·rw[hb]at aa;apply RG;simp only[go_sem,iv,sD,rD,gV,abt,hs,aa];refine ac l _ _ ?_ bM (by simp only[go_sem,aa6,VQ,iv,sD,rD]) ⟨rfl,kl,?_⟩
   ·simp only[T.sz];omega
   ·rw[<-he];simp[T.at',ch,hb]
  ·rw[hb]at aa;apply RG;simp only[go_sem,iv,sD,rD,gV,abt,hs,aa];refine ac r _ _ ?_ bM (by simp only[go_sem,aa6,VQ,iv,sD,rD]) ⟨rfl,kr,?_⟩
   ·simp only[T.sz];omega
   ·rw[<-he];simp[T.at',ch,hb]
def yE(I0:PH)(vf:Value)(g:T->T):Prop:=∃fid first cap,vf=.func (.func fid) first cap/\aO Tryz.prog fid/\∀{I:PH} {v:Value} {d:T},I0.le I->cX I v d->aK Tryz.prog fid (first++#[v]++cap) I [] fun r I2 qs=>qs=[]/\cX I2 r (g d)
variable{g:T->T}{I J:PH}
def yE.le{vf:Value}(h:yE I vf g)(k:I.le J):yE J vf g:=by
 obtain⟨fid,first,cap,e,hg,hd⟩:=h;exact⟨fid,first,cap,e,hg,fun k2 hr=>hd (abV k k2) hr⟩
def ND(c:Nat)(d:T):T:=.lf (d.at' (ch c))
def K9(I:PH):cX I (.agg #[.slice none 0 0,iv 1]) (.lf true):=mN I true
def Sn(I:PH):cX I (.agg #[.slice none 0 0,iv 0]) (.lf false):=mN I false
def PB{I0:PH}{cb c:Nat}(hb:aP I0 cb 0 [.int .u32 c])(hc:c<2^32):yE I0 (.func (.func 88) #[] #[pt cb]) (ND c):=by
 refine⟨88,#[],#[pt cb],rfl,To,fun{I v d} ac hr hd=>?_⟩;obtain⟨a,k,rfl⟩:=hr.shape2;show bO Tryz.prog 88 #[.agg #[sD a k d,rD d],pt cb] _ _;refine ah 9 Tryz.func88 fun w0=>?_
 try simp only[iv,pt,sD,rD]
 refine aT ?_;refine XN (l:=[.int .u32 c]) rfl (cellsU hd (.head _) (hb.le ac)) (.inr ⟨oR,rfl⟩) ?_;refine aT ?_;refine WZ rfl BI (Gh (hr.le (cP hd)) hc) fun v H2 hv=>?_;obtain⟨rfl,rfl⟩:=hv;cases aa:d.at' (ch c)
 ·refine aT ?_;refine WZ rfl yl (sU _) fun v H2 hv=>?_;obtain⟨rfl,rfl⟩:=hv;refine dP ?_;exact af rfl hd (r:=[.agg #[.slice none 0 0,.int .i64 0]]) (by simp only[Tryz.results88,go_sem,iv]) (abW _) ⟨rfl,by unfold ND;rw[aa];exact Sn I⟩
 ·refine aT ?_;refine WZ rfl FR (Fp _) fun v H2 hv=>?_;obtain⟨rfl,rfl⟩:=hv;refine dP ?_;exact af rfl hd (r:=[.agg #[.slice none 0 0,.int .i64 1]]) (by simp only[Tryz.results88,go_sem,iv]) (abW _) ⟨rfl,by unfold ND;rw[aa];exact K9 I⟩
structure UT(g:T->T)(F:List Nd->List Nd):Prop where
 nil:F []=[]
 app:∀a b,F (a++b)=F a++F b
 one:∀n:Nd,F [n]=if g n.cond=ff then []else [{ n with kids:=F n.kids,cond:=g n.cond }]
variable{F:List Nd->List Nd}
def UT.take_le(h:UT g F)(i:Nat)(l:List Nd):du (F (l.take i))<=du (F l):=by
 conv=>rhs;rw[<-abq i l]
 rw[h.app,io];omega
def Yo(c:Nat):UT (ND c) (pL (ch c)):=by
 refine⟨rfl,fq _,fun n=>?_⟩;rw[gm];unfold ND;cases n.cond.at' (ch c)<;>simp
def U9(vf vl:Value)(n:Nat)(x:Nat×Value):St:=⟨dn 34 [(1,.v vf),(5,.v x.2),(8,.v vl),(9,.v (iv n)),(10,.v (iv x.1))],[]⟩
def ZK(F:List Nd->List Nd)(l:List Nd)(I0:PH)(x:Nat×Value)(H:PH):Prop:=∃I A,H=U [I,A]/\Dj [I,A]/\I0.le I/\x.1<=l.length/\bQ I A x.2 (F (l.take x.1))
theorem HK(hF:UT g F):∀(m:Nat) {I:PH} {v vf:Value} {l:List Nd},du l<m->eE I v l->sB v->yE I vf g->du (F l)<=aN->
  aK Tryz.prog 159 #[v,vf] I [] fun r I2 qs=>∃A,qs=[A]/\bQ I2 A r (F l):=by
 intro m
 induction m with
 |zero=>intro I v vf l hm;omega
 |succ m ih=>
 intro I v vf l hm hS hC hG hz hd;obtain⟨va,vc,rfl,_⟩:=id hS;obtain⟨fid,first,cap,rfl,b1,b3⟩:=id hG;unfold aN at hz;refine ah 34 Tryz.func159 fun w0=>?_
 try simp only[iv]
 refine aT ?_;refine aR hd fun b6=>?_;refine aA (fun x=>l.length-x.1) (U9 (.func (.func fid) first cap) (.slice va l.length vc) l.length) (ZK F l I) (0,.slice none 0 0) bM (by simp only[go_sem,aa6,U9]) ?_ ?_
 ·exact⟨I,PH.no,rfl,b6,abW _,aaL _,by rw[abz,hF.nil];exact Ow.nil _ _ _ _⟩
 rintro⟨i,vo⟩ H ⟨I1,A1,rfl,a9,ac,hi,hA⟩ aj;simp only at hi hA;simp only[U9];obtain⟨oa,oc,rfl⟩:=hA.shape;rcases aaf i l.length with aq|cn
 ·have bb:decide ((i:Int)<(l.length:Int))=true:=by simp;omega
  have bs:=we hC aq;obtain⟨n,hn⟩:∃n,l[i]?=some n:=⟨_,aak aq⟩;obtain⟨b,off,cs,rfl,ca,ao⟩:=Sl.load bm.len (eE.le hS ac) hn;obtain⟨vk,na,nk,rfl,a2,ak,ba⟩:=ca.shape;obtain⟨ka,kc,rfl,_⟩:=id ak;have cl:=oG (aaV hn);have a1:=hF.take_le (i+1) l;rw[db hn,hF.app,io]at a1;have cm:=iI (F (l.take i));apply RG;simp only[go_sem,bb,iv,sD,rD];refine⟨ab,?_⟩;refine XN (l:=[.int .u8 n.kind,.string ⟨⟨n.text⟩⟩,.int .i64 n.tok,.int .i64 n.slot,.slice ka n.kids.length kc,sD na nk n.cond,rD n.cond]) (v:=.agg #[.int .u8 n.kind,.string ⟨⟨n.text⟩⟩,.int .i64 n.tok,.int .i64 n.slot,.slice ka n.kids.length kc,sD na nk n.cond,rD n.cond]) rfl (cellsU a9 (.head _) ao) (.inl ⟨cL,rfl⟩) ?_;refine lY ?_;refine ad a9 [0] [] [A1] rfl b1 rfl (b3 ac a2) fun v I3 qs a7 aa hq=>?_;obtain⟨rfl,a3⟩:=hq;obtain⟨za,zk,rfl⟩:=a3.shape2;simp only[Z3]at a7 |-;refine lY ?_;refine WZ rfl jt (gO a3) fun v H2 hv=>?_;obtain⟨rfl,rfl⟩:=hv;cases aS:decide (g n.cond=.lf false)
  ·have bc:g n.cond≠ff:=by simpa using aS
   rw[hF.one,ZV bc,bp,dJ]at a1;simp only at a1;apply RG;simp only[go_sem,iv,sD,rD,aS,abK];refine ad a7 [0] [] [A1] rfl Gt rfl (ih (l:=n.kids) ab (eE.le ak aa) ba (yE.le hG (abV ac aa)) (by unfold aN;omega)) fun v I4 qs bd a5 hq=>?_;obtain⟨K,rfl,hK⟩:=hq;simp only[Z3]at bd |-;obtain⟨qa,qc,rfl⟩:=hK.shape;have cf:=hK.capN bm.len;refine bf bd [0,1] fun a6=>?_;refine ae a6 fun I5 a6 an ci=>?_;have cc:eE I5 (.slice qa (F n.kids).length qc) (F n.kids):=bQ.sl hK an ci;refine lY ?_;refine ax a6 (by exact dQ) rfl rfl rfl rfl rfl bg fun nb I6 b5 am b0=>?_;have a0:=abV a5 (abV an am);have cb:eE I6 (.slice (some ⟨nb,0,none⟩) 1 1) [{ n with kids:=F n.kids,cond:=g n.cond }]:=iJ (az b0 (by simp[aD,Value.cells]) (by simp[aD,Value.cells,iv,sD,rD])) (bm.mk (n:={ n with kids:=F n.kids,cond:=g n.cond }) (a3.le a0) (eE.le cc am) cf);refine lY ?_;refine bl b5 (by exact dQ) (bQ.le hA (abV aa a0)) (cb) (fun{I J c a} h k=>bm.le h k) (fun{I} c a h=>bm.len c a h) (fun{I} c a h=>bm.ones h) rfl rfl rfl rfl (by first|omega|(simp only[aaj,aaO];omega)) (by unfold maxLen;first|omega|(simp only[aaj,aaO];omega)) fun ua uc I7 A7 b4 a4 cj=>?_;apply RG;simp only[go_sem,iv,sD,rD,bs];have bx:=abV ac (abV aa (abV a0 a4));exact aj (i+1,.slice ua (F (l.take i)++[{ n with kids:=F n.kids,cond:=g n.cond }]).length uc) _ _ dt Tp (by simp only[go_sem,aa6,U9,iv,sD,rD]) ⟨I7,A7,rfl,b4,bx,aq,by simp only;rw[db hn,hF.app,hF.one,ZV bc];exact cj⟩
  ·have b2:g n.cond=ff:=by simpa using aS
   apply RG;simp only[go_sem,iv,sD,rD,aS,abQ,bs];exact aj (i+1,.slice oa (F (l.take i)).length oc) _ _ dt Tp (by simp only[go_sem,aa6,U9,iv,sD,rD]) ⟨I3,A1,rfl,a7,abV ac aa,aq,by simp only;rw[db hn,hF.app,hF.one,aaq b2,aa6];exact bQ.le hA aa⟩
 ·have:i=l.length:=by omega
  subst this;have bb:=Z6 l.length;apply RG;simp only[go_sem,bb,iv,sD,rD];exact af rfl a9 (r:=[_]) rfl ac ⟨A1,rfl,by rw[aaS]at hA |-;exact hA⟩
def He(I:PH)(v:Value)(t:Tr):Prop:=∃vk vd,v=.agg #[vk,vd]/\eE I vk t.kids/\sB vk/\Sl eG I vd t.diags/\sB vd
variable{l:List cO}
def SlE.le(h:Sl eG I v l)(k:I.le J):Sl eG J v l:=Sl.le (R:=eG) (fun{I J c a} h k=>eG.le h k) h k
variable{t:Tr}
def He.le(h:He I v t)(k:I.le J):He J v t:=by
 obtain⟨vk,vd,e,h1,h2,h3,h4⟩:=h;exact⟨vk,vd,e,eE.le h1 k,h2,SlE.le h3 k,h4⟩
def Bu(g:T->T)(e:List cO):List cO:=e.flatMap fun d=>if g d.cond=ff then []else [{ d with cond:=g d.cond }]
def N8(g:T->T)(a b:List cO):Bu g (a++b)=Bu g a++Bu g b:=by simp[Bu]
def GX(g:T->T):∀e,(Bu g e).length<=e.length
 | []=>ZR _
 |d::e=>by
  have:=GX g e;have h:Bu g (d::e)=(if g d.cond=ff then []else [{ d with cond:=g d.cond }])++Bu g e:=rfl;rw[h];split<;>simp<;>omega
def Sz(c:Nat)(e:List cO):Bu (ND c) e=NX (ch c) e:=by
 induction e with
 |nil=>rfl
 |cons d e ih=>
  have h:Bu (ND c) (d::e)=(if ND c d.cond=ff then []else [{ d with cond:=ND c d.cond }])++Bu (ND c) e:=rfl;rw[h,ih];unfold NX ND;cases hd:d.cond.at' (ch c)<;>simp[aby,hd]
def eF.sl{A:PH}(h:eF I A v l)(h1:I.le J)(h2:A.le J):Sl eG J v l:=Ow.sl (R:=eG) (fun{I J c a} h k=>eG.le h k) h h1 h2
def VR(vf vk vd vk2 vl:Value)(n:Nat)(x:Nat×Value):St:=⟨dn 37 [(1,.v vf),(4,.p 4 0),(5,.p 5 0),(14,.v vl),(15,.v (iv n)),(16,.v (iv x.1))],[⟨4,36,[.slice none 0 0,.slice none 0 0]⟩,⟨5,36,[vk2,x.2]⟩]⟩
def ZO(g:T->T)(l:List cO)(I0:PH)(x:Nat×Value)(H:PH):Prop:=∃I A,H=U [I,A]/\Dj [I,A]/\I0.le I/\x.1<=l.length/\eF I A x.2 (Bu g (l.take x.1))
theorem VC(hF:UT g F){vf:Value}(hT:He I v t)(hG:yE I vf g)(hz:du (F t.kids)<=aN)(b0:t.diags.length<=aN):
  aK Tryz.prog 87 #[v,vf] I [] fun r I2 qs=>qs=[]/\He I2 r ⟨F t.kids,Bu g t.diags⟩:=by
 obtain⟨vk,vd,rfl,hK,cm,hD,cp⟩:=hT;obtain⟨fid,first,cap,rfl,b4,b6⟩:=id hG;obtain⟨ka,kc,rfl,_⟩:=id hK;obtain⟨da,dc,rfl,_⟩:=id hD;have a3:=b0;unfold aN at a3;intro hd;refine ah 37 Tryz.func87 fun w0=>?_
 try simp only[iv]
 refine aT ?_;refine bV hd rfl Gt (HK hF (du t.kids+1) (aba _) hK cm hG hz) fun v1 I1 qs cf a7 hq=>?_;obtain⟨K,rfl,bb⟩:=hq;obtain⟨qa,qc,rfl⟩:=bb.shape;have hK1c:=bb.capN bm.len;refine bf cf [0] fun ba=>?_;refine ae ba fun I2 ba aq cl=>?_;have cn:eE I2 (.slice qa (F t.kids).length qc) (F t.kids):=bQ.sl bb aq cl;have a2:=abV a7 aq;refine aT ?_;refine aR ba fun cc=>?_;refine aA (fun x=>t.diags.length-x.1) (VR (.func (.func fid) first cap) (.slice ka t.kids.length kc) (.slice da t.diags.length dc) (.slice qa (F t.kids).length qc) (.slice da t.diags.length dc) t.diags.length) (ZO g t.diags I2) (0,.slice none 0 0) bM (by simp only[go_sem,aa6,VR]) ?_ ?_
 ·exact⟨I2,PH.no,rfl,cc,abW _,aaL _,Ow.nil _ _ _ _⟩
 rintro⟨i,vo⟩ H ⟨I3,A3,rfl,a9,aa,hi,hA⟩ ak;simp only at hi hA;simp only[VR];obtain⟨oa,oc,rfl⟩:=hA.shape;rcases aaf i t.diags.length with a0|cy
 ·have bc:decide ((i:Int)<(t.diags.length:Int))=true:=by simp;omega
  have bs:=we cp a0;obtain⟨d,bd⟩:∃d,t.diags[i]?=some d:=⟨_,aak a0⟩;obtain⟨b,off,cs,rfl,ci,aS⟩:=Sl.load eG.len (SlE.le hD (abV a2 aa)) bd;obtain⟨na,nk,rfl,a4⟩:=id ci;have b1:=GX g (t.diags.take i);rw[abF]at b1;have ac:Bu g (t.diags.take (i+1))=Bu g (t.diags.take i)++(if g d.cond=ff then []else [{ d with cond:=g d.cond }]):=by
   rw[db bd,N8];simp[Bu]
  apply RG;simp only[go_sem,bc,iv,sD,rD];refine⟨ab,?_⟩;refine XN (l:=[.int .u8 d.code,.int .i64 d.tok,sD na nk d.cond,rD d.cond]) (v:=.agg #[.int .u8 d.code,.int .i64 d.tok,sD na nk d.cond,rD d.cond]) rfl (cellsU a9 (.head _) aS) (.inl ⟨lW,rfl⟩) ?_;refine lY ?_;refine ad a9 [0] [] [A3] rfl b4 rfl (b6 (abV a2 aa) a4) fun v I4 qs ao aj hq=>?_;obtain⟨rfl,a5⟩:=hq;obtain⟨za,zk,rfl⟩:=a5.shape2;simp only[Z3]at ao |-;refine lY ?_;refine WZ rfl jt (gO a5) fun v H2 hv=>?_;obtain⟨rfl,rfl⟩:=hv;cases a1:decide (g d.cond=.lf false)
  ·have b2:g d.cond≠ff:=by simpa using a1
   rw[ZV b2]at ac;apply RG;simp only[go_sem,iv,sD,rD,a1,abK];refine ax ao (by exact vP) rfl rfl rfl rfl rfl bg fun nb I6 cb am b3=>?_;have cj:Sl eG I6 (.slice (some ⟨nb,0,none⟩) 1 1) [{ d with cond:=g d.cond }]:=⟨_,_,rfl,.inr ⟨nb,0,_,rfl,az b3 (by simp[aD,Value.cells]) (by simp[aD,Value.cells,iv,sD,rD]),.one ⟨za,zk,rfl,a5.le am⟩⟩⟩;refine lY ?_;refine bl (R:=eG) (xs:=Bu g (t.diags.take i)) (ys:=[{ d with cond:=g d.cond }]) cb (by exact vP) (eF.le hA (abV aj am)) cj (fun{I J c a} h k=>eG.le h k) (fun{I} c a h=>eG.len c a h) (fun{I} c a h=>eG.ones h) rfl rfl rfl rfl (by simp only[aaj,aaO];omega) (by simp only[aaj,aaO];unfold maxLen;omega) fun ua uc I7 A7 ca a6 cx=>?_;apply RG;simp only[go_sem,iv,sD,rD,bs];have bx:=abV aj (abV am a6);exact ak (i+1,.slice ua (Bu g (t.diags.take i)++[{ d with cond:=g d.cond }]).length uc) _ _ dt Tp (by simp only[go_sem,aa6,VR,iv,sD,rD]) ⟨I7,A7,rfl,ca,abV aa bx,a0,by simp only;rw[ac];exact cx⟩
  ·have b5:g d.cond=ff:=by simpa using a1
   rw[aaq b5,aa6]at ac;apply RG;simp only[go_sem,iv,sD,rD,a1,abQ,bs];exact ak (i+1,.slice oa (Bu g (t.diags.take i)).length oc) _ _ dt Tp (by simp only[go_sem,aa6,VR,iv,sD,rD]) ⟨I4,A3,rfl,ao,abV aa aj,a0,by simp only;rw[ac];exact eF.le hA aj⟩
 ·have:i=t.diags.length:=by omega
  subst this;have bc:=Z6 t.diags.length;rw[aaS]at hA |-;have ct:=Ow.capN (R:=eG) hA (fun c a h=>eG.len c a h);refine bf a9 [0] fun ao=>?_;refine ae (c:=.st _) ao fun I5 ao an cr=>?_;apply RG;simp only[go_sem,bc,iv,sD,rD];exact af rfl ao (r:=[.agg #[.slice qa (F t.kids).length qc,.slice oa (Bu g t.diags).length oc]]) (by simp only[Tryz.results87,go_sem,iv]) (abV a2 (abV aa an)) ⟨rfl,_,_,rfl,eE.le cn (abV aa an),hK1c,eF.sl hA an cr,ct⟩
def HU{c:Nat}(hT:He I v t)(hc:c<2^32)(hz:du t.kids<=aN)(aj:t.diags.length<=aN):aK Tryz.prog 33 #[v,.int .u32 c] I [] fun r I2 qs=>qs=[]/\He I2 r (prj (ch c) t):=by
 obtain⟨vk,vd,rfl,hK,aq,hD,aS⟩:=id hT;intro hd;refine ah 8 Tryz.func33 fun w0=>?_
 try simp only[iv]
 apply bL 6;simp only[go_sem];refine fV 3 hd rfl fun cb an=>?_;refine ae (c:=.st _) an fun I2 am aa ao=>?_;have hb:aP I2 cb 0 [.int .u32 c]:=(ay (by simp) rfl:aP (sg cb (.cells [.int .u32 c].toArray 23 (0,0))) cb 0 [.int .u32 c]).le ao;apply RG;simp only[go_sem,mF,List.map,pt];refine bV am rfl TT (VC (Yo c) (hT.le aa) (PB hb hc) (ZS (BH _ _) hz) aj) fun v1 I4 qs ak ac hq=>?_;obtain⟨rfl,hr⟩:=hq;obtain⟨wk,wd,rfl,h1,h2,h3,h4⟩:=hr;rw[Sz]at h3;obtain⟨xa,xc,rfl,_⟩:=id h1;obtain⟨ya,yc,rfl,_⟩:=id h3;refine aT ?_;exact af rfl ak (r:=[.agg #[.slice xa (pL (ch c) t.kids).length xc,.slice ya (NX (ch c) t.diags).length yc]]) (by simp only[Tryz.results33,go_sem]) (abV aa ac) ⟨rfl,_,_,rfl,h1,h2,h3,h4⟩
end Go.Proofs.YtfaclfkpnmcmlaaGreatDoor
namespace Syn
open Dg
def sC(o:List cO)(d:cO):List cO:=
 match o.getLast? with
 |some x=>if x.key=d.key then o.dropLast++[{ x with cond:=x.cond.or d.cond }]else o++[d]
 |none=>[d]
structure m0(p o:List cO):Prop where
 so:o.Pairwise fun a b=>x5 a.key b.key=true
 ks:∀k,k∈o.map cO.key<->k∈p.map cO.key
 ok:∀x∈o,x.cond.ok 0
 at':∀x∈o,∀c,x.cond.at' c=true<->∃d∈p,d.key=x.key/\d.cond.at' c=true
def m0.nil:m0 [] []:=⟨List.Pairwise.nil,fun k=>Iff.rfl,fun x h=>by simp at h,fun x h=>by simp at h⟩
theorem m0.put{p o:List cO}{d:cO}(h:m0 p o)(hd:d.cond.ok 0)(hs:∀x∈p,x5 d.key x.key=false):m0 (p++[d]) (sC o d):=by
 have ao:∀x∈o,x5 d.key x.key=false:=fun x hx=>by
  obtain⟨y,hy,e⟩:=List.mem_map.1 ((h.ks x.key).1 (List.mem_map_of_mem hx));rw[<-e];exact hs y hy
 unfold sC;cases hl:o.getLast? with
 |none=>
  have ho:o=[]:=List.getLast?_eq_none_iff.1 hl;subst ho;have hp:p=[]:=by
   cases p with
   |nil=>rfl
   |cons y p=>exact absurd ((h.ks y.key).2 (by simp)) (by simp)
  subst hp;refine⟨aaW _ _,fun k=>by simp,fun x hx=>?_,fun x hx c=>?_⟩
  ·rw[List.mem_singleton.1 hx];exact hd
  ·rw[List.mem_singleton.1 hx];constructor
   ·intro hc;exact⟨d,by simp,rfl,hc⟩
   ·rintro⟨y,hy,_,hc⟩;have:y=d:=by simpa using hy
    rw[<-this];exact hc
 |some x=>
  obtain⟨q,rfl⟩:=List.getLast?_eq_some_iff.1 hl;simp only;have aj:x∈q++[x]:=by simp
  have ak:∀y∈q,x5 y.key x.key=true:=fun y hy=>by
   have:=(List.pairwise_append.1 h.so).2.2 y hy x (by simp);exact this
  split
  ·rename_i e;rw[List.dropLast_concat];have am:=h.ok x aj;refine⟨?_,fun k=>?_,fun y hy=>?_,fun y hy c=>?_⟩
   ·have:=List.pairwise_append.1 h.so;refine List.pairwise_append.2 ⟨this.1,aaW _ _,fun a ha b hb=>?_⟩;rw[List.mem_singleton.1 hb];exact ak a ha
   ·have:=h.ks k;simp only[abP,aaX,aaU,List.map_nil,List.mem_singleton]at this |-;show k∈q.map cO.key\/k=x.key<->_;rw[this,<-e];constructor
    ·exact .inl
    ·rintro(h1|h1)
     ·exact h1
     ·rw[h1];exact(h.ks x.key).1 (List.mem_map_of_mem aj)
   ·rcases List.mem_append.1 hy with h1|h1
    ·exact h.ok y (aau _ h1)
    ·rw[List.mem_singleton.1 h1];exact T.or_ok am hd
   ·rcases List.mem_append.1 hy with h1|h1
    ·rw[h.at' y (aau _ h1) c];have ac:d.key≠y.key:=fun e2=>by
      have:=ak y h1;rw[e,e2,jB.irr]at this;cases this
     constructor
     ·rintro⟨z,hz,e1,e2⟩;exact⟨z,by simp[hz],e1,e2⟩
     ·rintro⟨z,hz,e1,e2⟩;rcases List.mem_append.1 hz with h2|h2
      ·exact⟨z,h2,e1,e2⟩
      ·rw[List.mem_singleton.1 h2]at e1;exact absurd e1 ac
    ·rw[List.mem_singleton.1 h1];show (x.cond.or d.cond).at' c=true<->_;rw[T.or_at am hd,aax,h.at' x aj c];show _<->∃z∈p++[d],z.key=x.key/\_;constructor
     ·rintro(⟨z,hz,e1,e2⟩|hc)
      ·exact⟨z,by simp[hz],e1,e2⟩
      ·exact⟨d,by simp,e.symm,hc⟩
     ·rintro⟨z,hz,e1,e2⟩;rcases List.mem_append.1 hz with h2|h2
      ·exact .inl ⟨z,h2,e1,e2⟩
      ·rw[List.mem_singleton.1 h2]at e2;exact .inr e2
  ·rename_i ac;have an:x5 x.key d.key=true:=by
    have h1:=ao x aj;cases h2:x5 x.key d.key with
    |true=>rfl
    |false=>exact absurd (jB.tri _ _ h2 h1) ac
   have aa:∀y∈q++[x],x5 y.key d.key=true:=fun y hy=>by
    rcases List.mem_append.1 hy with h1|h1
    ·exact jB.tr _ _ _ (ak y h1) an
    ·rw[List.mem_singleton.1 h1];exact an
   refine⟨List.pairwise_append.2 ⟨h.so,aaW _ _,fun a ha b hb=>by rw[List.mem_singleton.1 hb];exact aa a ha⟩,fun k=>?_,fun y hy=>?_,fun y hy c=>?_⟩
   ·rw[abP (l₁:=q++[x]),abP (l₁:=p),aaX,aaX,h.ks k]
   ·rcases List.mem_append.1 hy with h1|h1
    ·exact h.ok y h1
    ·rw[List.mem_singleton.1 h1];exact hd
   ·rcases List.mem_append.1 hy with h1|h1
    ·rw[h.at' y h1 c];have ac:d.key≠y.key:=fun e2=>by
      have:=aa y h1;rw[<-e2,jB.irr]at this;cases this
     constructor
     ·rintro⟨z,hz,e1,e2⟩;exact⟨z,by simp[hz],e1,e2⟩
     ·rintro⟨z,hz,e1,e2⟩;rcases List.mem_append.1 hz with h2|h2
      ·exact⟨z,h2,e1,e2⟩
      ·rw[List.mem_singleton.1 h2]at e1;exact absurd e1 ac
    ·rw[List.mem_singleton.1 h1];constructor
     ·intro hc;exact⟨d,by simp,rfl,hc⟩
     ·rintro⟨z,hz,e1,e2⟩;rcases List.mem_append.1 hz with h2|h2
      ·have h3:=(h.ks d.key).2 (by rw[<-e1];exact List.mem_map_of_mem h2);obtain⟨y,hy,e3⟩:=List.mem_map.1 h3;have:=aa y hy;rw[e3,jB.irr]at this;cases this
      ·rw[List.mem_singleton.1 h2]at e2;exact e2
def m0.all:∀(l p o:List cO),m0 p o->(∀d∈l,d.cond.ok 0)->(p++l).Pairwise (fun a b=>x5 b.key a.key=false)->m0 (p++l) (l.foldl sC o)
 | [],p,o,h,_,_=>by simpa using h
 |d::l,p,o,h,aa,hs=>by
  have h1:=List.pairwise_append.1 hs;have:=m0.all l (p++[d]) (sC o d) (h.put (aa d (.head _)) fun x hx=>h1.2.2 x hx d (.head _)) (fun y hy=>aa y (.tail _ hy)) (by simpa using hs);simpa using this
def m0.eq{p o l:List cO}(h:m0 p o)(hp:∀d,d∈p<->d∈l/\d.cond≠ff)(hl:Ce l):o=Eo l:=by
 have hk:o.map cO.key=Un l:=by
  refine ly jB (List.pairwise_map.2 h.so) (eV jB _) fun k=>?_;unfold Un;rw[h.ks k,nv jB];simp only[aaE,aaD,aaC];constructor
  ·rintro⟨d,hd,e⟩;exact⟨d,(hp d).1 hd,e⟩
  ·rintro⟨d,hd,e⟩;exact⟨d,(hp d).2 hd,e⟩
 unfold Eo;rw[<-hk,aas]
 conv=>lhs;rw[<-List.map_id o]
 refine aat fun x hx=>?_;have hc:x.cond=uO l x.key:=by
  refine T.ext (h.ok x hx) (IC hl) fun c=>?_;have h1:=h.at' x hx c;have h2:=DP (k:=x.key) (c:=c) hl;have h3:x.cond.at' c=true<->(uO l x.key).at' c=true:=by
   rw[h1,h2];constructor
   ·rintro⟨d,hd,e1,e2⟩;exact⟨d,((hp d).1 hd).1,e1,e2⟩
   ·rintro⟨d,hd,e1,e2⟩;exact⟨d,(hp d).2 ⟨hd,fun e=>by rw[e]at e2;cases e2⟩,e1,e2⟩
  cases ha:x.cond.at' c<;>cases hb:(uO l x.key).at' c<;>simp_all
 simp only[id,Function.comp];rw[<-hc];cases x;rfl
mutual
def VY:Nd->Prop
 |⟨k,x,t,s,ks,_⟩=>(k<256/\-4611686018427387904<=t/\t<4611686018427387904/\-4611686018427387904<=s/\s<4611686018427387904/\x.length<4611686018427387904)/\nJ ks
def nJ:List Nd->Prop
 | []=>True
 |n::l=>VY n/\nJ l
end
variable{l:List Nd}
theorem kZ:nJ l<->∀n∈l,VY n:=by
 induction l with
 |nil=>simp[nJ]
 |cons n l ih=>simp[nJ,ih]
theorem qG{n:Nd}:VY n<->(n.kind<256/\-4611686018427387904<=n.tok/\n.tok<4611686018427387904/\-4611686018427387904<=n.slot/\n.slot<4611686018427387904/\n.text.length<4611686018427387904)/\nJ n.kids:=by cases n;rfl
theorem v7{a b:List Nd}:nJ (a++b)<->nJ a/\nJ b:=by
 simp only[kZ,aaX];exact⟨fun h=>⟨fun n hn=>h n (.inl hn),fun n hn=>h n (.inr hn)⟩,fun h n hn=>hn.elim (h.1 n) (h.2 n)⟩
theorem fw{ks:List Nd}(h:nJ l)(hk:nJ ks):nJ (give l ks):=kZ.2 fun n hn=>by
 obtain⟨m,hm,rfl⟩:=List.mem_map.1 hn;have:=qG.1 (kZ.1 h m hm);exact qG.2 ⟨this.1,v7.2 ⟨this.2,hk⟩⟩
theorem Jp(h:nJ l):nJ (g9 l):=kZ.2 fun n hn=>by
 obtain⟨m,hm,rfl⟩:=List.mem_map.1 hn;obtain⟨⟨a,b,c,_,_,g⟩,k⟩:=qG.1 (kZ.1 h m hm);exact qG.2 ⟨⟨a,b,c,by show (-4611686018427387904:Int)<=0;omega,by show (0:Int)<_;omega,g⟩,k⟩
theorem jN{k:Nat}{t:bq}{i s N:Nat}{ks:List Nd}{d:T}(ht:t.length<4611686018427387904)(hk:k<256)(hi:i<N)(hN:N<=16384)(hs:s<=2)(h:nJ ks):nJ [⟨k,t,(i:Int),(s:Int),ks,d⟩]:=
 ⟨⟨⟨hk,ab,ab,ab,ab,ht⟩,h⟩,trivial⟩
section
variable {c:bP} {ts:List Tok} (hN:ts.length<=16384) (hX:∀i,(X ts i).length<4611686018427387904)
include hN hX
variable{kind slot:Nat}
theorem pD(p:Option Nat)(hk:kind<256)(hs:slot<=2):nJ (aI ts c p kind slot).l:=by
 unfold aI;cases p.map (nx c ts)with
 |none=>trivial
 |some i=>
  simp only;split
  ·trivial
  ·rename_i h;exact jN (by first|exact hX _|(show (0:Nat)<_;decide)) hk (DO fun h2=>h (.inl (by rw[h2];decide))) hN hs trivial
theorem xA(p:Option Nat)(hs:slot<=2):nJ (bI ts c p slot).l:=by
 unfold bI;cases p.map (nx c ts)with
 |none=>trivial
 |some i=>
  simp only;split
  ·trivial
  ·rename_i h;exact jN (by first|exact hX _|(show (0:Nat)<_;decide)) bg (gx fun h2=>h (by rw[h2];exact⟨by decide,by decide⟩)) hN hs trivial
theorem wz{i:Option Nat}(hk:kind<256)(h:Lt ts.length i)(hs:slot<=2):nJ (jP kind i slot):=by
 cases i with
 |none=>trivial
 |some j=>exact jN (by first|exact hX _|(show (0:Nat)<_;decide)) hk (h j rfl) hN hs trivial
omit hN hX in
theorem De{i x:Nat}{is:Nat->Bool}(h:qz c ts (aI ts c (some i) kind slot).p is=some x):i<ts.length:=by
 have h0:=rh c ts i;unfold aI at h;simp only[Z9]at h;split at h
 ·cases h
 ·rename_i hk;have:nx c ts i<ts.length:=DO fun h2=>hk (.inl (by rw[h2];decide));omega
def WP(N:Nat):dB->Prop
 | .line _ _ _ s=>s<=2
 | .lineL _ _ s _ l _ _=>s<=2/\nJ l
 | .lineO _ _ s op l _=>s<=2/\nJ l/\Lt N op
 | .unary _ _ s=>s<=2
 | .unaryH _ _ s=>s<=2
 | .calls _ i s x names _=>s<=2/\nJ names/\(∀j k,i=some j->x=some k->j<N)
 | .inside _ _ s=>s<=2
 | .listL _ _ l _ _=>nJ l
 | .behind _ _ _ _ s=>s<=2
 | .block _ _ s=>s<=2
 | .seqL _ _ _ l _=>nJ l
 | .sCalls _ i x l _=>nJ l/\(∀j k,i=some j->x=some k->j<N)
 | .branch _ i s=>s<=2/\Lt N i
 | .elses _ _ l _=>nJ l
 | .ifs _ y l _=>nJ l/\Lt N y
 |_=>True
theorem Ig{rec:oS}(R:∀x q,rec x=some q->WP ts.length x->nJ q.l):∀x q,aC c ts rec x=some q->WP ts.length x->nJ q.l:=by
 have R1:∀{x q},rec x=some q->WP ts.length x->nJ q.l:=fun{x q} h k=>R x q h k;intro x q e hi;cases x with
 |line k o p slot=>
  simp only[aC,ni]at e;split at e
  ·have:=R1 e hi;exact this
  ·obtain⟨a,ea,e⟩:=dh e;obtain⟨b,eb,e⟩:=dh e;cases e
   have:=R1 eb ⟨hi,R1 ea hi⟩;exact this
 |lineL k o slot first l g out=>
  simp only[aC,lP]at e;cases g with
  |none=>cases e;exact hi.2
  |some p=>
   simp only at e;split at e
   ·cases e;exact hi.2
   ·obtain⟨a,ea,e⟩:=dh e;obtain⟨b,eb,e⟩:=dh e;cases e
    have:=R1 eb ⟨hi.1,R1 ea ⟨hi.1,hi.2,BG⟩⟩;exact this
 |lineO k o slot op l g=>
  simp only[aC,pY]at e;cases op with
  |none=>cases e;exact hi.2.1
  |some i=>
   obtain⟨a,ea,e⟩:=dh e;cases e
   exact jN (by first|exact hX _|(show (0:Nat)<_;decide)) bg (hi.2.2 i rfl) hN hi.1 (v7.2 ⟨Jp hi.2.1,R1 ea (by show (1:Nat)<=2;decide)⟩)
 |unary o p slot=>
  have:=R1 (x:=.unaryH o (p.map (nx c ts)) slot) e hi;exact this
 |unaryH o i slot=>
  simp only[aC,fZ]at e;cases i with
  |none=>cases e;trivial
  |some i=>
   simp only at e;split at e
   ·rename_i hx;have aa:i<ts.length:=gx (by rcases hx with h|h<;>rw[h]<;>decide);split at e
    ·cases e;trivial
    ·obtain⟨a,ea,e⟩:=dh e;cases e
     exact jN (by first|exact hX _|(show (0:Nat)<_;decide)) bg aa hN hi (R1 ea (by show (0:Nat)<=2;decide))
   ·split at e
    ·have:=R1 e hi;exact this
    ·split at e
     ·rename_i hx;cases e
      exact jN (by first|exact hX _|(show (0:Nat)<_;decide)) bg (DO (by rw[hx];decide)) hN hi trivial
     ·split at e
      ·rename_i hx;cases e
       exact jN (by first|exact hX _|(show (0:Nat)<_;decide)) bg (gx (by rcases hx with h|h<;>rw[h]<;>decide)) hN hi trivial
      ·split at e
       ·rename_i hx;cases e
        exact jN (by first|exact hX _|(show (0:Nat)<_;decide)) bg (gx (by rw[hx];decide)) hN hi trivial
       ·obtain⟨b,eb,e⟩:=dh e;cases e
        have:=R1 eb ⟨hi,pD hN hX _ bg hi,fun j k hj hk=>by cases hj;exact De hk⟩;exact this
 |calls o i slot x names g=>
  simp only[aC,nY]at e;split at e
  ·rename_i i x;obtain⟨a,ea,e⟩:=dh e;cases e
   exact jN (by first|exact hX _|(show (0:Nat)<_;decide)) bg (hi.2.2 i x rfl rfl) hN hi.1 (R1 ea trivial)
  ·cases e;exact hi.2.1
 |inside o p slot=>
  simp only[aC,il]at e;split at e
  ·cases e;trivial
  ·split at e
   ·cases e;trivial
   ·split at e
    ·cases e;trivial
    ·obtain⟨a,ea,e⟩:=dh e;cases e
     have:=R1 ea hi;exact this
 |listed par o p=>
  simp only[aC,ij]at e;split at e
  ·cases e;trivial
  ·split at e
   ·cases e;trivial
   ·split at e
    ·cases e;trivial
    ·obtain⟨a,ea,e⟩:=dh e;cases e
     have:=R1 ea trivial;exact this
 |listL par o l g fin=>
  simp only[aC,oU]at e;cases g with
  |none=>cases e;exact hi
  |some p=>
   obtain⟨a,ea,e⟩:=dh e;obtain⟨b,eb,e⟩:=dh e;cases e
   have:=R1 eb (v7.2 ⟨hi,R1 ea trivial⟩);exact this
 |item par o p=>
  simp only[aC,ro]at e;split at e
  ·cases e
   exact fw (pD hN hX _ bg bg) (xA hN hX _ bg)
  ·have:=R1 e (by show (0:Nat)<=2;decide);exact this
 |behind typ o p sign slot=>
  simp only[aC,kh]at e;obtain⟨a,ea,e⟩:=dh e;cases e
  unfold fy at ea;split at ea
  ·cases ea;exact xA hN hX _ hi
  ·have:=R1 ea hi;exact this
 |vrb o p=>
  simp only[aC,gZ]at e;obtain⟨d,ed,e⟩:=dh e;cases e
  exact fw (fw (pD hN hX _ bg bg) (xA hN hX _ bg)) (R1 ed (by show (1:Nat)<=2;decide))
 |function o p=>
  simp only[aC,gY]at e;obtain⟨b,eb,e⟩:=dh e;obtain⟨d,ed,e⟩:=dh e;obtain⟨f,ef,e⟩:=dh e;cases e
  exact fw (fw (fw (pD hN hX _ bg bg) (R1 eb trivial)) (R1 ed (by show (1:Nat)<=2;decide))) (R1 ef (by show (2:Nat)<=2;decide))
 |block o p slot=>
  simp only[aC,jI]at e;split at e
  ·cases e;trivial
  ·rename_i i hp;split at e
   ·cases e;trivial
   ·rename_i hx;have aa:i<ts.length:=gx (by rw[Classical.not_not.1 hx];decide);split at e
    ·cases e;trivial
    ·obtain⟨a,ea,e⟩:=dh e;cases e
     exact jN (by first|exact hX _|(show (0:Nat)<_;decide)) bg aa hN hi (R1 ea trivial)
 |seqL top o p l out=>
  simp only[aC,nE]at e;split at e
  ·cases e;exact hi
  ·split at e
   ·cases e;exact hi
   ·obtain⟨a,ea,e⟩:=dh e;obtain⟨b,eb,e⟩:=dh e;cases e
    have h1:nJ a.l:=by
     unfold md at ea;split at ea
     ·unfold vF at ea;split at ea
      ·have:=R1 ea trivial;exact this
      ·split at ea
       ·have:=R1 ea trivial;exact this
       ·cases ea;trivial
     ·have:=R1 ea trivial;exact this
    have:=R1 eb (v7.2 ⟨hi,h1⟩);exact this
 |stmt o i=>
  simp only[aC,gM]at e;cases i with
  |none=>cases e;trivial
  |some i=>
   simp only at e;split at e
   ·have:=R1 e trivial;exact this
   ·split at e
    ·rename_i hx;have:=R1 e ⟨by decide,Lt.of (gx (by rw[hx];decide))⟩;exact this
    ·split at e
     ·rename_i hx;have aa:i<ts.length:=gx (by rw[hx];decide);obtain⟨a,ea,e⟩:=dh e;obtain⟨b,eb,e⟩:=dh e;cases e
      exact fw (fw (wz hN hX bg (Lt.of aa) bg) (R1 ea (by show (0:Nat)<=2;decide))) (R1 eb (by show (1:Nat)<=2;decide))
     ·split at e
      ·have:=R1 e (by show (0:Nat)<=2;decide);exact this
      ·split at e
       ·rename_i hx;have aa:i<ts.length:=gx (by rw[hx];decide);obtain⟨a,ea,e⟩:=dh e;cases e
        exact fw (wz hN hX bg (Lt.of aa) bg) (R1 ea (by show (0:Nat)<=2;decide))
       ·split at e
        ·rename_i hx;have aa:i<ts.length:=gx (by rcases hx with h|h<;>rw[h]<;>decide);obtain⟨a,ea,e⟩:=dh e;cases e
         exact fw (wz hN hX (by split<;>decide) (Lt.of aa) bg) (R1 ea (by show (0:Nat)<=2;decide))
        ·obtain⟨b,eb,e⟩:=dh e;obtain⟨d,ed,e⟩:=dh e;cases e
         have:=R1 ed ⟨fw (pD hN hX _ bg bg) (R1 eb (by show (0:Nat)<=2;decide)),fun j k hj hk=>by cases hj;exact De hk⟩;exact this
 |sCalls o i x l g=>
  simp only[aC,lu]at e;split at e
  ·rename_i i x;obtain⟨a,ea,e⟩:=dh e;cases e
   exact jN (s:=0) (by first|exact hX _|(show (0:Nat)<_;decide)) bg (hi.2 i x rfl rfl) hN bg (R1 ea trivial)
  ·cases e;exact hi.1
 |branch o i slot=>
  simp only[aC,ku]at e;obtain⟨a,ea,e⟩:=dh e;obtain⟨b,eb,e⟩:=dh e;obtain⟨d,ed,e⟩:=dh e;cases e
  have:=R1 ed (fw (fw (wz hN hX bg hi.2 hi.1) (R1 ea (by show (0:Nat)<=2;decide))) (R1 eb (by show (1:Nat)<=2;decide)));exact this
 |elses o x l out=>
  simp only[aC,nP]at e;cases x with
  |none=>cases e;exact hi
  |some j=>
   obtain⟨a,ea,e⟩:=dh e;obtain⟨b,eb,e⟩:=dh e;cases e
   have:=R1 eb ⟨fw hi (R1 ea (by show (2:Nat)<=2;decide)),sG bg⟩;exact this
 |ifs o y l out=>
  simp only[aC,BV]at e;cases y with
  |none=>cases e;exact hi.1
  |some j=>
   simp only at e;split at e
   ·cases e;exact hi.1
   ·obtain⟨a,ea,e⟩:=dh e;cases e
    exact fw hi.1 (R1 ea ⟨by decide,hi.2⟩)
theorem CR:∀n x q,bS c ts n x=some q->WP ts.length x->nJ q.l
 |0,x,q,e,_=>by cases e
 |n+1,x,q,e,h=>Ig hN hX (fun x q e h=>CR n x q e h) x q e h
end
theorem yD:∀(l:List Nd) (d:T),iE l->wL d l->Uf l->(∀c,nJ (pL c l))->nJ l
 | [],_,_,_,_,_=>trivial
 |⟨k,t,o,s,ks,e⟩::l,d,ho,hw,hn,h=>by
  have key:∀c,e.at' c=true->VY ⟨k,t,o,s,pL c ks,tt⟩:=fun c hc=>by
   have:=h c;rw[cM,show (⟨k,t,o,s,ks,e⟩:Nd).cond=e from rfl,hc,aaq rfl]at this;exact this.1
  obtain⟨c0,aa⟩:=T.some_of_ne ho.1.1 hn.1.1;refine⟨⟨(key c0 aa).1,yD ks e ho.1.2 hw.1.2 hn.1.2 fun c=>?_⟩,yD l d ho.2 hw.2 hn.2 fun c=>?_⟩
  ·cases hc:e.at' c with
   |true=>exact(key c hc).2
   |false=>rw[GH hw.1.2 hc];trivial
  ·have:=h c;rw[cM]at this;split at this
   ·exact this.2
   ·exact this
theorem TU{ts:List Tok}(aa:bT ts)(hl:ts.length<=16384)(hX:∀i,(X ts i).length<4611686018427387904){w:T}(hw:w.ok 0)(ac:w≠ff){n:Nat}{r:bW}(e:run ts n (.seqL true 0 [(0,w)] [] [])=some r):nJ (pI r):=by
 obtain⟨_,_,R0⟩:=jR aa hw ac e (fun _=>false);have hc:=(sS (c:=fun _=>false) R0.fok).1;obtain⟨a1,a2,a3,a4⟩:=mY r.l (ii r.f) hc R0.lok;refine⟨⟨⟨by decide,by decide,by decide,by decide,by decide,by show (0:Nat)<_;decide⟩,yD _ (ii r.f) a1 a2 (xQ _ _) fun c=>?_⟩,trivial⟩;rw[a4 c];split
 ·obtain⟨q,⟨m,hm⟩,R⟩:=jR aa hw ac e c;rw[R.l];exact CR hl hX m _ _ hm trivial
 ·trivial
theorem Je{l:List Nd}(h:nJ l)(k:qT):nJ (cZ l k):=kZ.2 fun x hx=>by
 obtain⟨n,hn,_,_,hx⟩:=lL hx;exact kZ.1 (qG.1 (kZ.1 h n hn)).2 x hx
end Syn
namespace Go.Proofs.YtfaclfkpnmcmlaaGreatDoor
open Go Go.Sx Dg Syn
def lQ(A:PH):U [A]=A:=PH.uni_no A
def t8:∀{Ks:List PH} {i:Nat} {Ki:PH},Ks[i]?=some Ki->Ks.Perm (Ki::Ks.eraseIdx i)
 | [],i,Ki,h=>by simp at h
 |a::l,0,Ki,h=>by
  simp only[abh,ZW]at h;subst h;exact List.Perm.refl _
 |a::l,i+1,Ki,h=>by
  rw[abi]at h;exact((t8 h).cons a).trans (List.Perm.swap Ki a _)
def IB:∀{Ks:List PH} {i:Nat} (K':PH),i<Ks.length->(K'::Ks.eraseIdx i).Perm (Ks.set i K')
 | [],i,K',h=>by simp at h
 |a::l,0,K',h=>List.Perm.refl _
 |a::l,i+1,K',h=>(List.Perm.swap a K' _).trans ((IB K' (by simpa using h)).cons a)
def J4(A:PH)(l:List PH):U [A,U l]=U (A::l):=by
 show A.uni (U [U l])=A.uni (U l);rw[lQ]
variable{l:List PH}{A:PH}
def UY(h:Dj (A::l)):Dj [A,U l]:=by
 have:=h.head;refine List.pairwise_cons.2 ⟨fun B hB=>?_,aaW _ _⟩;rw[List.mem_singleton.1 hB];exact this
def y7(h:Dj [A,U l])(hl:Dj l):Dj (A::l):=hl.cons (by
 have:=h.head
 rwa [lQ]at this)
def ab7{X:PH}{m:List PH}(h:Dj (l++[X]))(e:U m=X)(hm:Dj m):U (l++[X])=U (l++m)/\Dj (l++m):=by
 obtain⟨a,b,c⟩:=o3.1 h;rw[lQ]at c;refine⟨by rw[zX,zX,lQ,e],o3.2 ⟨a,hm,by rw[e];exact c⟩⟩
def Rc{m:List PH}(h:Dj (l++m)):U (l++m)=U (l++[U m])/\Dj (l++[U m]):=by
 obtain⟨a,b,c⟩:=o3.1 h;refine⟨by rw[zX,zX,lQ],o3.2 ⟨a,aaW _ _,by rw[lQ];exact c⟩⟩
def ab6{Ks:List PH}{i:Nat}{Ki:PH}(hd:Dj (l++[U Ks]))(hk:Dj Ks)(hi:Ks[i]?=some Ki):U (l++[U Ks])=U (l++[Ki,U (Ks.eraseIdx i)])/\Dj (l++[Ki,U (Ks.eraseIdx i)]):=by
 obtain⟨e,d⟩:=oz (t8 hi) hk;exact ab7 hd (by rw[J4,e]) (UY d)
def acn{Ks:List PH}{i:Nat}{K':PH}(hd:Dj (l++[K',U (Ks.eraseIdx i)]))(hk:Dj Ks)(hi:i<Ks.length):U (l++[K',U (Ks.eraseIdx i)])=U (l++[U (Ks.set i K')])/\Dj (l++[U (Ks.set i K')])/\Dj (Ks.set i K'):=by
 have h1:Dj (Ks.eraseIdx i):=List.Pairwise.sublist (List.eraseIdx_sublist _ _) hk;have h2:Dj (K'::Ks.eraseIdx i):=y7 (o3.1 hd).2.1 h1;obtain⟨e,d⟩:=oz (IB K' hi) h2;obtain⟨e3,d3⟩:=Rc hd;rw[J4,e]at e3 d3;exact⟨e3,d3,d⟩
def ach{Ks:List PH}{K':PH}(hd:Dj (l++[K',U Ks]))(hk:Dj Ks):U (l++[K',U Ks])=U (l++[U (Ks++[K'])])/\Dj (l++[U (Ks++[K'])])/\Dj (Ks++[K']):=by
 have h2:Dj (K'::Ks):=y7 (o3.1 hd).2.1 hk;obtain⟨e,d⟩:=oz (List.perm_append_singleton K' Ks).symm h2;obtain⟨e3,d3⟩:=Rc hd;rw[J4,e]at e3 d3;exact⟨e3,d3,d⟩
def sd(I:PH)(c:List Value)(p:PH×Nd):Prop:=∃vk a k,c=[.int .u8 p.2.kind,.string ⟨⟨p.2.text⟩⟩,.int .i64 p.2.tok,.int .i64 p.2.slot,vk,sD a k p.2.cond,rD p.2.cond]/\cX I (.agg #[sD a k p.2.cond,rD p.2.cond]) p.2.cond/\bQ I p.1 vk p.2.kids
variable{p:PH×Nd}{I:PH}
def sd.le{J:PH}{c:List Value}(h:sd I c p)(aa:I.le J):sd J c p:=by
 obtain⟨vk,a,k,e,h1,h2⟩:=h;exact⟨vk,a,k,e,h1.le aa,bQ.le h2 aa⟩
def sd.len(c:List Value)(p:PH×Nd)(h:sd I c p):c.length=7:=by obtain⟨vk,a,k,e,_⟩:=h;rw[e];rfl
def sd.ones{c:List Value}(h:sd I c p):c.all Sx.one=true:=by
 obtain⟨vk,a,k,e,_,hk⟩:=h;obtain⟨x,y,rfl⟩:=hk.shape;rw[e];rfl
def sd.still{J:PH}{c:List Value}(h:sd I c p)(h1:I.le J)(h2:p.1.le J):bm J c p.2:=by
 obtain⟨vk,a,k,rfl,hr,hk⟩:=h;exact bm.mk (hr.le h1) (bQ.sl hk h1 h2) (hk.capN bm.len)
def LR.still{I J:PH}(h1:I.le J):∀{l:List (PH×Nd)} {xs:List Value},LR (sd I) xs l->(∀p∈l,p.1.le J)->LR (bm J) xs (l.map Prod.snd)
 | [],xs,h,_=>h
 |p::l,xs,⟨c,ys,e,a,b⟩,hp=>⟨c,ys,e,a.still h1 (hp p (.head _)),LR.still h1 b fun q hq=>hp q (.tail _ hq)⟩
def L3(o:List Nd)(y u:Value):Prop:=∃j m,o[j]?=some m/\y=rK m.key/\u=iv j
def DL{a b:qT}(h:rK a=rK b):a=b:=by
 unfold rK at h;simp only[Value.agg.injEq,Array.mk.injEq,abB,Value.int.injEq,Value.string.injEq,abC,acT]at h;obtain⟨h1,h2,h3,h4⟩:=h;have ac:a.kind=b.kind:=by omega
 have aa:a.text=b.text:=by
  have:=congrArg (fun x:ByteArray=>x.data.toList) h4;exact this
 cases a;cases b
 simp_all
theorem Ru:Tryz.prog.underlying 240=some (.struct #[⟨ "slot",3,0,false,"","motley/syntax",0⟩,⟨ "tok",3,1,false,"","motley/syntax",8⟩,⟨ "kind",5,2,false,"","motley/syntax",16⟩,⟨ "text",9,3,false,"","motley/syntax",24⟩]):=by kernel_rfl
theorem VI:Tryz.prog.keyTypeAt 3 240=true:=by kernel_rfl
theorem UM:Tryz.prog.tiled 3 240=true:=by kernel_rfl
def R9:Maps.Keyed Tryz.prog 240:=by
 refine Maps.Keyed.of_law (deep_law (m:=3) ab VI UM ?_);rw[Ru]
theorem Ot:Tryz.prog.keyType 240=true:=by kernel_rfl
theorem Nk:Tryz.prog.cellsOf 240=4:=by kernel_rfl
theorem K5:Tryz.prog.cellsOf 5=1:=by kernel_rfl
theorem EM:Tryz.prog.cellsOf 9=1:=by kernel_rfl
theorem Yw:Tryz.prog.underlying 5=some (.int .u8):=by kernel_rfl
theorem X5:Tryz.prog.underlying 9=some .string:=by kernel_rfl
def YN{z:Int}(h:-4611686018427387904<=z)(h2:z<4611686018427387904):(Lit.int .i64 z).wf=true:=by
 have h1:IntKind.min .i64=-9223372036854775808:=by decide
 have h2:IntKind.max .i64=9223372036854775807:=by decide
 simp only[Lit.wf,h1,h2,aao,aaC];omega
variable{n:Nat}
def Y1(h:n<256):(Lit.int .u8 n).wf=true:=by
 have h1:IntKind.min .u8=0:=by decide
 have h2:IntKind.max .u8=255:=by decide
 simp only[Lit.wf,h1,h2,aao,aaC];omega
def UE {P:Program} {k:qT} (hk:P.underlying 240=some (.struct #[⟨ "slot",3,0,false,"","motley/syntax",0⟩,⟨ "tok",3,1,false,"","motley/syntax",8⟩,⟨ "kind",5,2,false,"","motley/syntax",16⟩,⟨ "text",9,3,false,"","motley/syntax",24⟩])) (h1:P.keyType 240=true) (h2:P.cellsOf 240=4) (h3:P.cellsOf 3=1) (h5:P.cellsOf 5=1) (h9:P.cellsOf 9=1) (u3:P.underlying 3=some (.int .i64)) (u5:P.underlying 5=some (.int .u8)) (u9:P.underlying 9=some .string) (hs:1<P.types.size)
  (a1:(Lit.int .i64 k.slot).wf=true) (a2:(Lit.int .i64 k.tok).wf=true) (a3:(Lit.int .u8 k.kind).wf=true) (a4:k.text.length<4611686018427387904):kN P 240 (rK k):=by
 obtain⟨n,hn⟩:∃n,P.types.size=n+1:=⟨P.types.size-1,ab⟩;simp only[Lit.wf,aao,aaC]at a1 a2 a3;have e9:(9223372036854775807:Int)=IntKind.max .i64:=by decide
 unfold kN keyOf;rw[h1];have b1:IntKind.i64.min<=k.slot/\k.slot<=9223372036854775807:=by rw[e9];exact a1
 have b2:IntKind.i64.min<=k.tok/\k.tok<=9223372036854775807:=by rw[e9];exact a2
 have b4:(⟨⟨k.text⟩⟩:ByteArray).size<=maxLen:=by
  have:(⟨⟨k.text⟩⟩:ByteArray).size=k.text.length:=rfl;rw[this];exact ZS (aar a4) bg
 simp[hk,Value.formed,rK,hn,Program.keyLits,h2,h3,h5,h9,u3,u5,u9,Value.cells,Lit.wf,b1,b2,a3,b4]
def SD{n:Nd}(h:VY n):kN Tryz.prog 240 (rK n.key):=by
 obtain⟨⟨a,b,c,d,e,g⟩,_⟩:=qG.1 h;exact UE Ru Ot Nk EI K5 EM S5 Yw X5 LB (YN d e) (YN b c) (Y1 a) g
def PC:aO Tryz.prog 280:=⟨_,Tryz.func280,rfl,rfl⟩
def GC:aO Tryz.prog 225:=⟨_,Tryz.func225,rfl,rfl⟩
def ZX:aO Tryz.prog 297:=⟨_,Tryz.func297,rfl,rfl⟩
def Wc:aO Tryz.prog 298:=⟨_,Tryz.func298,rfl,rfl⟩
def Yu:aO Tryz.prog 273:=⟨_,Tryz.func273,rfl,rfl⟩
def oM:∀(f x k:Nat),x<2^f->(Lib.bitLenAux f x<=k<->x<2^k)
 |0,x,k,h=>by
  have:x=0:=by simpa using h
  subst this;simp[Lib.bitLenAux,Nat.two_pow_pos]
 |f+1,x,k,h=>by
  rw[Lib.bitLenAux];by_cases hx:x=0
  ·subst hx;simp[Nat.two_pow_pos]
  ·rw[ZV hx];cases k with
   |zero=>simp;omega
   |succ k=>
    have:=oM f (x / 2) k (by rw[abd]at h;omega);rw[abd];omega
def Ib(h:n<2^64):Lib.bitLen n=Sort.bitsLen n:=by
 apply Nat.le_antisymm
 ·exact(oM 64 n _ h).2 (Sort.lt_two_pow_bitsLen n)
 ·exact(Sort.bitsLen_le_iff n _).2 ((oM 64 n _ h).1 (ZR _))
def Qw(hn:n<2^63)(H:PH):bO Tryz.prog 280 #[.int .u64 n] H fun v H2=>v=iv (Sort.bitsLen n)/\H2=H:=by
 intro w hw;refine(Any.bits_Len64 { Tryz.lays171 with } (n:Int) w ab ab).mono ?_;rintro e w2 ⟨rfl,rfl⟩;exact⟨H,dM.refl hw,by rw[Int.toNat_natCast,Ib ab];rfl,rfl⟩
def RZ(hn:n<2^63)(H:PH):bO Tryz.prog 225 #[.int .u64 n] H fun v H2=>v=iv (Sort.bitsLen n)/\H2=H:=by
 refine ah 8 Tryz.func225 fun w0=>?_;refine aT ?_;refine WZ rfl PC (Qw hn H) fun v H2 hv=>?_;obtain⟨rfl,rfl⟩:=hv;refine aT ?_;exact aJ (r:=[_]) rfl ⟨rfl,rfl⟩
def b8(h:n<2^64):IntKind.u64.wrap (n:Int)=(n:Int):=by
 simp only[IntKind.wrap,show IntKind.bits .u64=64 from rfl,show IntKind.signed .u64=false from rfl];simp;omega
def acr(hn:n<2^41)(H:PH):bO Tryz.prog 297 #[iv n] H fun v H2=>v=.int .u64 ((2^Sort.bitsLen n:Nat):Int)/\H2=H:=by
 have hb:Sort.bitsLen n<=41:=(Sort.bitsLen_le_iff n 41).2 hn;refine ah 7 Tryz.func297 fun w0=>?_
 try simp only[iv]
 have w1:=b8 (n:=n) ab;apply RG;simp only[go_sem,w1];refine WZ rfl GC (RZ ab H) fun v H2 hv=>?_;obtain⟨rfl,rfl⟩:=hv;have h0:(0:Int)<=(Sort.bitsLen n:Int):=abt _;have w2:yR .u64 1 (Sort.bitsLen n:Int)=((2^Sort.bitsLen n:Nat):Int):=by
  unfold yR;rw[show IntKind.bits .u64=64 from rfl,Int.toNat_natCast,aaN ab];have h2:2^Sort.bitsLen n<=2^41:=abe ab hb;have:=b8 (n:=2^Sort.bitsLen n) ab;rw[show (1:Int)*2^Sort.bitsLen n=((2^Sort.bitsLen n:Nat):Int) by simp];exact this
 apply RG;simp only[go_sem,iv,h0,w2];exact aJ (r:=[_]) rfl ⟨rfl,rfl⟩
abbrev sgX(b:Nat)(x:Int):PH:=sg b (.cells #[.int .u64 x] 377 (0,0))
def acg{rb:Nat}{x:Int}:aK Tryz.prog 298 #[pt rb] I [sgX rb x] fun r I2 qs=>I2=I/\∃y,qs=[sgX rb y]/\r=.int .u64 y:=by
 intro hd;refine ah 33 Tryz.func298 fun w0=>?_
 try simp only[pt]
 have cl:∀x,aP (sgX rb x) rb 0 [.int .u64 x]:=fun x=>ay (by simp) rfl;refine aT ?_;refine eP [0,1,2,3,4,5,6,7,8,9] [2,5] [9] ?_;refine J7 ?_;refine W7 (l:=[.int .u64 x]) rfl (cellsU hd (.tail _ (.head _)) (cl x)) (.inr ⟨n6,rfl⟩) ?_;refine J7 ?_;refine W7 (l:=[.int .u64 x]) rfl (cellsU hd (.tail _ (.head _)) (cl x)) (.inr ⟨n6,rfl⟩) ?_;refine J7 ?_;refine aQ hd rfl rfl rfl rfl rfl rfl (by exact LI) (by simp) fun aa=>?_;refine aw ?_;clear hd;simp only[br,List.set]at aa |-;obtain⟨x,hx⟩:∃y,y=AM .u64 x (yR .u64 x 13):=⟨_,rfl⟩;rw[<-hx]at aa |-;clear hx;have hd:=aa;clear aa;refine OZ ?_;refine eP [0,1,2,3,4,5,6,7,8,9] [2,5] [9] ?_;refine J7 ?_;refine W7 (l:=[.int .u64 x]) rfl (cellsU hd (.tail _ (.head _)) (cl x)) (.inr ⟨n6,rfl⟩) ?_;refine J7 ?_;refine W7 (l:=[.int .u64 x]) rfl (cellsU hd (.tail _ (.head _)) (cl x)) (.inr ⟨n6,rfl⟩) ?_;refine J7 ?_;refine aQ hd rfl rfl rfl rfl rfl rfl (by exact LI) (by simp) fun aa=>?_;refine aw ?_;clear hd;simp only[br,List.set]at aa |-;obtain⟨x,hx⟩:∃y,y=AM .u64 x (ut .u64 x 7):=⟨_,rfl⟩;rw[<-hx]at aa |-;clear hx;have hd:=aa;clear aa;refine OZ ?_;refine eP [0,1,2,3,4,5,6,7,8,9] [2,5] [9] ?_;refine J7 ?_;refine W7 (l:=[.int .u64 x]) rfl (cellsU hd (.tail _ (.head _)) (cl x)) (.inr ⟨n6,rfl⟩) ?_;refine J7 ?_;refine W7 (l:=[.int .u64 x]) rfl (cellsU hd (.tail _ (.head _)) (cl x)) (.inr ⟨n6,rfl⟩) ?_;refine J7 ?_;refine aQ hd rfl rfl rfl rfl rfl rfl (by exact LI) (by simp) fun aa=>?_;refine aw ?_;clear hd;simp only[br,List.set]at aa |-;obtain⟨x,hx⟩:∃y,y=AM .u64 x (yR .u64 x 17):=⟨_,rfl⟩;rw[<-hx]at aa |-;clear hx;have hd:=aa;clear aa;refine OZ ?_;refine XN (l:=[.int .u64 x]) rfl (cellsU hd (.tail _ (.head _)) (cl x)) (.inr ⟨n6,rfl⟩) ?_;refine OZ ?_;exact af rfl hd (r:=[_]) rfl (abW _) ⟨rfl,x,rfl,rfl⟩
def acw{x:Int}{m:Nat}(hm:m<2^62):∃z:Nat,tN .u64 x (m:Int)=(z:Int)/\z<=m:=by
 unfold tN;rw[show IntKind.bits .u64=64 from rfl,BitVec.toNat_and];have h2:(BitVec.ofInt 64 (m:Int)).toNat=m:=by
  rw[BitVec.toNat_ofInt];omega
 rw[h2];have h3:(BitVec.ofInt 64 x).toNat&&&m<=m:=Nat.and_le_right;exact⟨_,b8 ab,h3⟩
def bkS(v:Value)(a n m rb idx:Nat):St:=⟨dn 67 [(0,.v v),(1,.v (iv a)),(8,.v (iv n)),(9,.v (pt rb)),(10,.v (.int .u64 m)),(11,.v (iv idx))],[]⟩
theorem Ud{v vc:Value}{d:Array Nd}{a b:Nat}(hA:bQ I A v d.toList)(b5:a<=b)(hb:b<=d.size)(hn:d.size<=aN):
  aK Tryz.prog 273 #[v,iv a,iv b,vc] I [A] fun _ I2 qs=>∃A2 d2,qs=[A2]/\Sort.PermIn a b d d2/\bQ I2 A2 v d2.toList:=by
 intro hd;unfold aN at hn;obtain⟨va,vk,rfl⟩:=Ow.one' hA;refine ah 67 Tryz.func273 fun w0=>?_
 try simp only[iv]
 have w1:IntKind.i64.wrap ((b:Int)-(a:Int))=((b-a:Nat):Int):=by
  rw[cH ab ab];omega
 rcases aaf (b-a) 8 with h8|h8
 ·have a4:decide (((b-a:Nat):Int)>=8)=false:=abT ab;apply RG;simp only[go_sem,w1,a4];exact d8 rfl hd (r:=[]) rfl (abW _) ⟨A,d,rfl,Sort.permIn_refl d a b,hA⟩
 have a4:decide (((b-a:Nat):Int)>=8)=true:=abU ab;have w2:IntKind.u64.wrap ((b-a:Nat):Int)=((b-a:Nat):Int):=b8 ab;apply bL 20;simp only[go_sem,w1,a4,w2];refine fV 9 hd rfl fun rb bb=>?_;have ba:Dj [I,sgX rb ((b-a:Nat):Int),A]:=bb
 change RC _ _ _ (U [I,sgX rb ((b-a:Nat):Int),A])
 clear bb hd;refine bf ba [1,0] fun b2=>?_;clear ba;have aq:(((b-a:Nat):Int)).tdiv 4=(((b-a) / 4:Nat):Int):=rfl;obtain⟨q,bs⟩:∃q,q=(b-a) / 4:=⟨_,rfl⟩;have w0':IntKind.i64.wrap ((((b-a) / 4:Nat):Int))=(q:Int):=by rw[<-bs];exact wrap64 ab
 have w3:IntKind.i64.wrap ((q:Int)*2)=((2*q:Nat):Int):=by rw[<-wrap64 (n:=2*q) ab];congr 1;omega
 have w4:IntKind.i64.wrap ((a:Int)+((2*q:Nat):Int))=((a+2*q:Nat):Int):=by rw[<-wrap64 (n:=a+2*q) ab];congr 1
 have w5:IntKind.i64.wrap (((a+2*q:Nat):Int)-1)=((a+2*q-1:Nat):Int):=by rw[<-wrap64 (n:=a+2*q-1) ab];congr 1;omega
 have w6:IntKind.i64.wrap (((a+2*q:Nat):Int)+1)=((a+2*q+1:Nat):Int):=by rw[<-wrap64 (n:=a+2*q+1) ab];congr 1
 apply RG;simp only[go_sem,mF,List.map,iv,pt];refine WZ rfl ZX (acr (n:=b-a) ab _) fun r H2 hv=>?_;obtain⟨rfl,rfl⟩:=hv;have b0:=Sort.two_pow_bitsLen_le (n:=b-a) ab;have bx:0<2^Sort.bitsLen (b-a):=Nat.two_pow_pos _;generalize 2^Sort.bitsLen (b-a)=m at b0 bx |-;have w7:IntKind.u64.wrap ((m:Int)-1)=((m-1:Nat):Int):=by rw[<-b8 (n:=m-1) ab];congr 1;omega
 apply RG;simp only[go_sem,mF,List.map,iv,pt,aq,w0',w3,w4,w5];refine aA (fun x=>a+2*q+2-x) (bkS (.slice va d.size vk) a (b-a) m rb) (fun x H=>∃y A2 d2,H=U [I,A2,sgX rb y]/\Dj [I,A2,sgX rb y]/\a<=x/\x<=a+2*q+2/\Sort.PermIn a b d d2/\bQ I A2 (.slice va d.size vk) d2.toList) (a+2*q-1) gP (by simp only[go_sem,aa6,bkS,iv,pt]) ?_ ?_
 ·exact⟨_,A,d,rfl,b2,ab,ab,Sort.permIn_refl d a b,hA⟩
 rintro x H ⟨y,A2,d2,rfl,a9,a5,b4,an,a2⟩ aa;simp only[bkS];have a6:d2.size=d.size:=an.1;have bc:decide ((x:Int)<=((a+2*q+1:Nat):Int))=decide (x<=a+2*q+1):=by simp only[Int.ofNat_le]
 by_cases hx:x<=a+2*q+1
 ·have ao:decide (x<=a+2*q+1)=true:=abU hx;have w8:IntKind.i64.wrap ((x:Int)+1)=((x+1:Nat):Int):=by rw[<-wrap64 (n:=x+1) ab];congr 1
  apply RG;simp only[go_sem,iv,pt,aq,w0',w3,w4,w6,bc,ao];refine ad a9 [1,0] [sgX rb y] [A2] rfl Wc rfl (acg) fun r I3 qs a7 b1 hq=>?_;obtain⟨rfl,y2,rfl,rfl⟩:=hq;simp only[Z3]at a7 |-;obtain⟨z,hz,b3⟩:=acw (x:=y2) (m:=m-1) ab;have w9:IntKind.i64.wrap (z:Int)=(z:Int):=wrap64 ab;refine bf a7 [1,0] fun ak=>?_;rcases aaf z (b-a)with bd|bd
  ·have a3:decide ((z:Int)>=((b-a:Nat):Int))=false:=abT ab;apply RG;simp only[go_sem,iv,pt,w7,hz,w9,a3];have ho:z<b-a:=by omega
   have w10:IntKind.i64.wrap ((a:Int)+((z:Nat):Int))=((a+(z):Nat):Int):=by rw[<-wrap64 (n:=a+(z)) ab];congr 1
   generalize z=o at ho w10 |-;obtain⟨g,cp,cur,ci,cj,ev,rfl,a0,ri,rj,li,lj,ki,kj,ac⟩:=Ow.two a2 (fun{I} c a h=>bm.len c a h) (fun{I J c a} h k=>bm.le h k) (i:=x) (j:=a+o) ab ab;rw[a6]at ev a0;cases ev
   have mi:(x+1)*7<=d.size*7:=aaQ _ ab;have mj:((a+o)+1)*7<=d.size*7:=aaQ _ ab;refine eP [0,1,2,3,4,5,6,7,8,9,10,11,12,13,14,15,16,17,18,19] [11,15] [] ?_;apply au;simp only[go_sem,iv,w10];refine⟨ab,?_⟩;refine W7 (l:=cj) (v:=.agg cj.toArray) rfl (cellsU ak (.tail _ (.head _)) (by simpa using kj)) (.inl ⟨by rw[lj];exact cL,rfl⟩) ?_;apply au;simp only[go_sem,iv,w10];refine⟨ab,?_⟩;refine W7 (l:=ci) (v:=.agg ci.toArray) rfl (cellsU ak (.tail _ (.head _)) (by simpa using ki)) (.inl ⟨by rw[li];exact cL,rfl⟩) ?_;apply au;simp only[go_sem,iv,w10];refine⟨ab,?_⟩;refine aQ ak rfl rfl rfl rfl rfl (ag (bm.ones rj)) (by rw[lj];exact aU) (by rw[lj];omega) fun aS=>?_;apply au;simp only[go_sem,iv,w10];refine⟨ab,?_⟩;refine aQ aS rfl rfl rfl rfl rfl (ag (bm.ones ri)) (by rw[li];exact aU) (by rw[li];simp[aX];omega) fun aj=>?_;refine aw ?_;apply RG;simp only[go_sem,iv,w8];have a1:=ac I3 (abW _);exact aa (x+1) _ _ ab gP (by simp only[go_sem,aa6,bkS,iv,pt]) ⟨y2,_,_,rfl,aj,ab,ab,Sort.permIn_trans _ _ _ _ _ an (Sort.swp_permIn d2 a b x (a+o) a5 ab ab ab ab),a1⟩
  ·have a3:decide ((z:Int)>=((b-a:Nat):Int))=true:=abU ab;have w11:IntKind.i64.wrap ((z:Int)-((b-a:Nat):Int))=((z-(b-a):Nat):Int):=by rw[cH ab ab];omega
   apply RG;simp only[go_sem,iv,pt,w7,hz,w9,a3,w11];have ho:z-(b-a)<b-a:=by omega
   have w10:IntKind.i64.wrap ((a:Int)+((z-(b-a):Nat):Int))=((a+(z-(b-a)):Nat):Int):=by rw[<-wrap64 (n:=a+(z-(b-a))) ab];congr 1
   generalize z-(b-a)=o at ho w10 |-;obtain⟨g,cp,cur,ci,cj,ev,rfl,a0,ri,rj,li,lj,ki,kj,ac⟩:=Ow.two a2 (fun{I} c a h=>bm.len c a h) (fun{I J c a} h k=>bm.le h k) (i:=x) (j:=a+o) ab ab;rw[a6]at ev a0;cases ev
   have mi:(x+1)*7<=d.size*7:=aaQ _ ab;have mj:((a+o)+1)*7<=d.size*7:=aaQ _ ab;refine eP [0,1,2,3,4,5,6,7,8,9,10,11,12,13,14,15,16,17,18,19] [11,15] [] ?_;apply au;simp only[go_sem,iv,w10];refine⟨ab,?_⟩;refine W7 (l:=cj) (v:=.agg cj.toArray) rfl (cellsU ak (.tail _ (.head _)) (by simpa using kj)) (.inl ⟨by rw[lj];exact cL,rfl⟩) ?_;apply au;simp only[go_sem,iv,w10];refine⟨ab,?_⟩;refine W7 (l:=ci) (v:=.agg ci.toArray) rfl (cellsU ak (.tail _ (.head _)) (by simpa using ki)) (.inl ⟨by rw[li];exact cL,rfl⟩) ?_;apply au;simp only[go_sem,iv,w10];refine⟨ab,?_⟩;refine aQ ak rfl rfl rfl rfl rfl (ag (bm.ones rj)) (by rw[lj];exact aU) (by rw[lj];omega) fun aS=>?_;apply au;simp only[go_sem,iv,w10];refine⟨ab,?_⟩;refine aQ aS rfl rfl rfl rfl rfl (ag (bm.ones ri)) (by rw[li];exact aU) (by rw[li];simp[aX];omega) fun aj=>?_;refine aw ?_;apply RG;simp only[go_sem,iv,w8];have a1:=ac I3 (abW _);exact aa (x+1) _ _ ab gP (by simp only[go_sem,aa6,bkS,iv,pt]) ⟨y2,_,_,rfl,aj,ab,ab,Sort.permIn_trans _ _ _ _ _ an (Sort.swp_permIn d2 a b x (a+o) a5 ab ab ab ab),a1⟩
 ·have ao:decide (x<=a+2*q+1)=false:=abT hx;apply RG;simp only[go_sem,iv,pt,aq,w0',w3,w4,w6,bc,ao];refine bf a9 [1,0] fun aj=>?_;refine ae (c:=.st _) aj fun I9 aj am b6=>?_;exact d8 rfl aj (r:=[]) rfl am ⟨A2,d2,rfl,an,bQ.le a2 am⟩
end Go.Proofs.YtfaclfkpnmcmlaaGreatDoor
