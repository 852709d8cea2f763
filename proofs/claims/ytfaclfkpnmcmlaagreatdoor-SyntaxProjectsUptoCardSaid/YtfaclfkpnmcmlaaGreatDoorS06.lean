import Derived.Test.YtfaclfkpnmcmlaaGreatDoorS05
set_option maxHeartbeats 8000000
set_option linter.all false
namespace Go.Proofs.YtfaclfkpnmcmlaaGreatDoor
open Go Go.Sx Dg Syn
theorem eQ:aP Tryz.prog 205:=⟨_,Tryz.func205,rfl,rfl⟩
theorem Jx:aP Tryz.prog 261:=⟨_,Tryz.func261,rfl,rfl⟩
theorem kI{g cap n size p:Nat}{cur:Array Value}{e:TypeId}{xs cs:List Value}(hl:xs.length=n*size)(h1:n<=cap)(h2:cap<=maxLen)(h3:cur.size=cap*size)(h4:cur.toList.take (n*size)=xs)(hp:p+cs.length<=n*size):
  jF (sg g (.cells (be cur.toList p cs).toArray e (0,0))) e size (.slice (some ⟨g,0,none⟩) n cap) n (be xs p cs):=
 jF.of_sg (by rw[aJ];exact hl) h1 h2 (by simp[aJ];exact h3) (by
  show (be cur.toList p cs).take (n*size)=_;rw[kT _ _ _ _ hp,h4])
theorem lz{α:Type}{R:List Value->α->Prop}{n:Nat}(hR:∀c a,R c a->c.length=n){l:List α}{xs:List Value}{i k:Nat}{a:α}{c cs:List Value}(h:LR R xs l)(hi:i<l.length)(hc:(xs.drop (i*n)).take n=c)(hk:k+cs.length<=n)(ha:R (be c k cs) a):LR R (be xs (i*n+k) cs) (l.set i a):=by
 have ac:=h.len hR;have aj:(i+1)*n<=l.length*n:=Tb _ hi;rw[Ta,TE]at aj;have ak:c.length=n:=by rw[<-hc];simp;omega
 have aa:=h.set hR hi ha;have e:be xs (i*n+k) cs=xs.take (i*n)++be c k cs++xs.drop ((i+1)*n):=by
  rw[dR _ _ _ Vi,dR _ _ _ Vi];have e1:xs.take (i*n+k)=xs.take (i*n)++c.take k:=by
   rw[<-hc,To,S8 Vi,List.take_add]
  have e2:xs.drop (i*n+k+cs.length)=c.drop (k+cs.length)++xs.drop ((i+1)*n):=by
   have h3:(xs.drop (i*n)).drop n=xs.drop ((i+1)*n):=by rw[Tn,Ta,TE]
   have h4:xs.drop (i*n)=c++xs.drop ((i+1)*n):=by rw[<-hc,<-h3,TL]
   rw[Nat.add_assoc,<-Tn,h4,List.drop_append_of_le_length Vi]
  rw[e1,e2];simp
 rw[e];exact aa
theorem Ow.open'{α:Type}{R:PH->List Value->α->Prop}{e:TypeId}{size:Nat}{I A:PH}{v:Value}{l:List α}(h:Ow R e size I A v l)(hn:0<l.length)(hR:∀c a,R I c a->c.length=size):
  ∃g cap cur xs,v=.slice (some ⟨g,0,none⟩) l.length cap/\A=sg g (.cells cur e (0,0))/\l.length<=cap/\cap<=maxLen/\cur.size=cap*size/\cur.toList.take (l.length*size)=xs/\xs.length=l.length*size/\LR (R I) xs l:=by
 obtain⟨xs,h1,h2⟩:=h;obtain⟨g,cap,cur,e1,e2,e3,e4,e5,e6⟩:=h1.sg hn;exact⟨g,cap,cur,xs,e1,e2,e3,e4,e5,e6,h2.len hR,h2⟩
theorem fp{α:Type}{R:List Value->α->Prop}{n:Nat}(hR:∀c a,R c a->c.length=n){g:Nat}{cur:Array Value}{e:TypeId}{l:List α}{xs c:List Value}{i k m:Nat}(h:LR R xs l)(hi:i<l.length)(ak:l.length*n<=cur.size)(ac:cur.toList.take (l.length*n)=xs)(hc:(xs.drop (i*n)).take n=c)(hk:k+m<=n):
  aQ (sg g (.cells cur e (0,0))) g (i*n+k) ((c.drop k).take m):=by
 have aa:=h.len hR;have aj:(i+1)*n<=l.length*n:=Tb _ hi;rw[Ta,TE]at aj;have am:c.length=n:=by rw[<-hc];simp;omega
 have h0:aQ (sg g (.cells cur e (0,0))) g 0 xs:=aU Vi (by rw[Tm,aa];exact ac);have h1:=(h0.sub (i*n) n Vi).sub k m (by rw[hc];omega)
 rwa [hc,Sf]at h1
theorem GT:Tryz.prog.underlying 33=some (.slice 60):=by obtain⟨i,z,h,_⟩:=cT;exact h
theorem Nx:∃i,Tryz.prog.info? 60=some i/\i.size=7:=by obtain⟨i,z,_,h,_,h2,_⟩:=cT;exact⟨i,h,h2⟩
theorem LZ{H:PH}{a:Option Addr}{n c:Nat}(hc:n<=c)(hs:n=0\/∀x,a=some x->x.spot=none):bv Tryz.prog 261 #[.slice a n c] H fun v H2=>v=.slice a n n/\H2=H:=by
 refine ir 9 Tryz.func261 fun w0=>?_;refine Un ?_;refine CJ (e:=60) (size:=7) (h:=n) (m:=n) rfl rfl (by exact GT) (by exact Nx) rfl rfl rfl (R7 _) hc ?_;have:oz a 7 0 n=a:=by
  rcases hs with rfl|hs
  ·simp[oz]
  ·exact sL hs
 apply RG;simp only[go_sem,this];exact aK (r:=[_]) rfl ⟨rfl,rfl⟩
theorem aW.ones{I:PH}{c:List Value}{n:Nd}(h:aW I c n):c.all Sx.one=true:=by
 obtain⟨vk,a,k,e,_,hk,_⟩:=h.shape;obtain⟨x,y,rfl,_⟩:=hk;rw[e];rfl
theorem Ow.cap{α:Type}{R:PH->List Value->α->Prop}{e:TypeId}{size:Nat}{I A:PH}{v:Value}{l:List α}(h:Ow R e size I A v l)(hR:∀c a,R I c a->c.length=size):zA v:=by
 rcases TI l.length with h0|h0
 ·obtain⟨a,c,rfl⟩:=h.shape;show l.length<=c;omega
 ·obtain⟨g,cap,cur,xs,rfl,_,h1,_⟩:=h.open' h0 hR;exact h1
theorem Ow.capN{α:Type}{R:PH->List Value->α->Prop}{e:TypeId}{size:Nat}{I A:PH}{v:Value}{l:List α}(h:Ow R e size I A v l)(hR:∀c a,R I c a->c.length=size):oU v:=by
 rcases TI l.length with h0|h0
 ·obtain⟨a,c,rfl⟩:=h.shape;exact⟨Vi,fun h=>by omega⟩
 ·obtain⟨g,cap,cur,xs,rfl,_,h1,h2,_⟩:=h.open' h0 hR;exact⟨h1,fun _=>h2⟩
theorem IZ{l ks:List Nd}{i:Nat}{n:Nd}(hn:l[i]?=some n):(give (l.take i) ks++l.drop i)[i]?=some n/\(give (l.take i) ks++l.drop i).set i { n with kids:=n.kids++ks }=give (l.take (i+1)) ks++l.drop (i+1)/\i<l.length:=by
 have aa:i<l.length:=by
  rcases Sw i l.length with h|h
  ·exact h
  ·rw[SF h]at hn;cases hn
 have hl:(give (l.take i) ks).length=i:=by simp[give];omega
 have hd:l.drop i=n::l.drop (i+1):=by
  rw[S5 aa];rw[SC aa]at hn;rw[Tk hn]
 refine⟨?_,?_,aa⟩
 ·rw[S2 Vi,hl,Nat.sub_self,hd];rfl
 ·rw[List.set_append_right _ _ Vi,hl,Nat.sub_self,hd,Ue];have:give (l.take (i+1)) ks=give (l.take i) ks++[{ n with kids:=n.kids++ks }]:=by
   unfold give;rw[S7 aa,Uc];rw[SC aa]at hn;rw[Tk hn];rfl
  rw[this,Te];rfl
def OJ(v vk:Value)(n:Nat)(i:Nat):St:=⟨dn 25 [(0,.v v),(1,.v vk),(7,.v (iv n)),(8,.v (iv i))],[]⟩
def RF(v:Value)(l ks:List Nd)(I0:PH)(i:Nat)(H:PH):Prop:=∃I A,H=U [I,A]/\Dj [I,A]/\I0.le I/\i<=l.length/\br I A v (give (l.take i) ks++l.drop i)
theorem ge{I A:PH}{v vk:Value}{l ks:List Nd}(hA:br I A v l)(hk:db I vk ks)(hl:l.length<=aF)(hm:∀n∈l,n.kids.length+ks.length<=aF):
  aO Tryz.prog 205 #[v,vk] I [A] fun v2 I2 qs=>∃A2,qs=[A2]/\br I2 A2 v2 (give l ks):=by
 intro hd;obtain⟨va,vc,rfl⟩:=hA.shape;unfold aF at hl hm;refine ir 25 Tryz.func205 fun w0=>?_;refine Un ?_;refine aB (fun x=>l.length-x) (OJ (.slice va l.length vc) vk l.length) (RF (.slice va l.length vc) l ks I) 0 Uo (by simp only[go_sem,Tq,OJ]) ?_ ?_
 ·exact⟨I,A,rfl,hd,Uj _,S6 _,by simpa[give]using hA⟩
 rintro i H ⟨I1,A1,rfl,a0,aa,hi,bb⟩ ac;simp only[OJ];rcases Sw i l.length with aS|ci
 ·have h9:decide ((i:Int)<(l.length:Int))=true:=by simp;omega
  have e1:=wrap64 (n:=i+1) Vi;have bx:IntKind.i64.wrap ((i:Int)+1)=((i+1:Nat):Int):=by rw[<-e1];congr 1
  obtain⟨n,hn⟩:∃n,l[i]?=some n:=⟨_,SC aS⟩;obtain⟨g1,g2,_⟩:=IZ (ks:=ks) hn;have hL:(give (l.take i) ks++l.drop i).length=l.length:=by simp[give];omega
  obtain⟨g,cap,cur,xs,ev,rfl,c1,c2,c3,c4,c5,a4⟩:=bb.open' Vi aW.len;rw[hL]at ev c1 c4 c5;cases ev
  have a9:=a4.get aW.len g1;obtain⟨kv,na,nk,bd,a3,a1,ap⟩:=a9.shape;obtain⟨ka,kc,rfl,a7⟩:=id a1;have cb:l.length*7<=vc*7:=Tb _ c1;have aj:=fp (k:=4) (m:=1) (e:=60) (g:=g) (cur:=cur) aW.len a4 (i:=i) (by rw[hL];exact aS) (by rw[hL];omega) (by rw[hL];exact c4) bd Vi;simp only[TT,Tm,TW,TV]at aj;have cc:=hm n (Tg hn);have cf:(i+1)*7<=l.length*7:=Tb _ aS;have a5:db I1 vk ks:=hk.le aa;obtain⟨sa,sc,rfl,b1⟩:=id a5;have fin:∀(I2:PH) (vn:Value) (an:Option Addr) (cn:Nat),vn=.slice an (n.kids++ks).length cn->I1.le I2->db I2 vn (n.kids++ks)->oU vn->br I2 (sg g (.cells (be cur.toList (i*7+4) [vn]).toArray 60 (0,0))) (.slice (some ⟨g,0,none⟩) l.length vc) (give (l.take (i+1)) ks++l.drop (i+1)):=by
   intro I2 vn an cn e bc h1 h2;rw[<-g2];refine⟨_,?_,lz aW.len (a4.mono fun _ _ h=>aW.le h bc) (by rw[hL];exact aS) bd (k:=4) (cs:=[vn]) (by simp) ?_⟩
   ·rw[Tl,hL];exact kI c5 c1 c2 c3 c4 (by simp;omega)
   ·exact aW.mk (n:={ n with kids:=n.kids++ks }) (a3.le bc) h1 h2
  apply RG;simp only[go_sem,h9,iv];refine⟨Vi,?_⟩;refine Qz (l:=[.slice ka n.kids.length kc]) rfl (by simpa using cellsU a0 (.tail _ (.head _)) aj) (.inr ⟨IF,rfl⟩) ?_;apply RG;simp only[go_sem,h9,iv];refine Pf rfl Jx (LZ ap.1 (by
   rcases a7 with h0|⟨b,off,ys,rfl,_⟩
   ·exact .inl (by rw[h0];rfl)
   ·exact .inr fun x hx=>by cases hx;rfl)) fun v H2 hv=>?_
  obtain⟨rfl,rfl⟩:=hv;refine Uq ?_;rcases TI ks.length with a2|a2
  ·have a6:ks=[]:=List.length_eq_zero_iff.1 a2;subst a6;refine rW (by exact cT) rfl rfl rfl (R7 _) rfl ?_;refine Uq ?_;refine⟨Vi,?_⟩;refine cG a0 rfl rfl rfl rfl rfl (by exact GF) (by simp;omega) fun ba=>?_;apply RG;simp only[go_sem,iv,bx];refine ac (i+1) _ _ (by show l.length-(i+1)<l.length-i;omega) (ae (by simp only[go_sem,Tq,iv,S9])) (by simp only[go_sem,Tq,OJ]) ⟨I1,_,rfl,ba,aa,aS,?_⟩;have:=fin I1 (.slice ka n.kids.length n.kids.length) ka n.kids.length (by simp) (Uj _) ⟨ka,n.kids.length,by simp,by simpa using a7⟩ ⟨R7 _,fun h=>R8 ap.1 (ap.2 h)⟩;exact this
  ·obtain⟨ya,yo,ys,rfl,b0,am⟩:∃b off xs,sa=some ⟨b,off,none⟩/\aQ I1 b off xs/\LR (aW I1) xs ks:=by
    rcases b1 with h0|h0
    ·rw[h0]at a2;simp at a2
    ·exact h0
   obtain⟨olds,b4,b3,b2⟩:∃olds,(n.kids.length=0\/∃b off,ka=some ⟨b,off,none⟩/\aQ I1 b off olds)/\olds.length=n.kids.length*7/\LR (aW I1) olds n.kids:=by
    rcases a7 with h0|⟨b,off,zs,e1,e2,e3⟩
    ·exact⟨[],.inl (by rw[h0];rfl),by rw[h0];rfl,by rw[h0];rfl⟩
    ·exact⟨zs,.inr ⟨b,off,e1,e2⟩,e3.len aW.len,e3⟩
   refine AM a0 (by exact cT) rfl rfl rfl Vi rfl (b4.imp id fun⟨b,off,e,h⟩=>⟨b,off,e,cellsU a0 (.head _) h⟩) b3 (cellsU a0 (.head _) b0) (am.len aW.len) (am.ones fun _ _ h=>aW.ones h) (by unfold maxLen;omega) Vi fun ng ncap I2 ba ao ak b5=>?_;refine Uq ?_;refine⟨Vi,?_⟩;refine cG ba rfl rfl rfl rfl rfl (by exact GF) (by simp;omega) fun ca=>?_;apply RG;simp only[go_sem,iv,bx];refine ac (i+1) _ _ (by show l.length-(i+1)<l.length-i;omega) Uo (by simp only[go_sem,Tq,OJ]) ⟨I2,_,rfl,ca,Ui aa ao,aS,?_⟩;exact fin I2 (.slice (some ⟨ng,0,none⟩) (n.kids.length+ks.length) ncap) (some ⟨ng,0,none⟩) ncap (by simp) ao ⟨_,ncap,by rw[Tu],.inr ⟨ng,0,_,rfl,b5,(b2.app am).mono fun _ _ h=>aW.le h ao⟩⟩ ⟨ak.1,fun _=>ak.2⟩
 ·have b6:i=l.length:=by omega
  subst b6;have h9:=Z6 l.length;rw[Td,T4,Tq]at bb;apply RG;simp only[go_sem,h9,iv];exact ai rfl a0 (r:=[_]) rfl aa ⟨A1,rfl,bb⟩
theorem gC:aP Tryz.prog 138:=⟨_,Tryz.func138,rfl,rfl⟩
theorem JM:aP Tryz.prog 222:=⟨_,Tryz.func222,rfl,rfl⟩
theorem IG:aP Tryz.prog 223:=⟨_,Tryz.func223,rfl,rfl⟩
theorem BA:aP Tryz.prog 263:=⟨_,Tryz.func263,rfl,rfl⟩
theorem rh:aP Tryz.prog 291:=⟨_,Tryz.func291,rfl,rfl⟩
section
variable {C:Cx} {k:List Item} {σ:St} {α:Type} {R:PH->List Value->α->Prop}
theorem aY{ol rem:List Oper}{o:Oper}{t e:TypeId}{size bytes:Nat}{x y:Operand}{v vy:Value}{xs ys:List α}{I A:PH}{l:List PH}(hd:Dj (I::A::l))(ht:iw C.P t e size bytes)(hA:Ow R e size I A v xs)(hS:Sl R I vy ys)(hR:∀{I J c a},R I c a->I.le J->R J c a)(hn:∀{I} c a,R I c a->c.length=size)(h1:∀{I} c a,R I c a->c.all Sx.one=true)
  (hw:aG ol σ o=some true) (am:o.op=.call ⟨.builtin .append,#[x,y],#[t,t]⟩) (hx:ev σ x=.v v) (hy:ev σ y=.v vy) (hb:(xs.length+ys.length)*bytes<=140737488355328) (ap:xs.length+ys.length<=maxLen)
  (hk:∀a c I2 A2,Dj (I2::A2::l)->I.le I2->Ow R e size I2 A2 (.slice a (xs++ys).length c) (xs++ys)->RC C (.op ol rem k) (σ.put o.dst (.v (.slice a (xs++ys).length c))) (U (I2::A2::l))):RC C (.op ol (o::rem) k) σ (U (I::A::l)):=by
 obtain⟨ya,yc,rfl,hS⟩:=hS;rcases hS with rfl|⟨b,off,zs,rfl,hc,hr⟩
 ·have aj:=hA.cap fun c a h=>hn c a h;obtain⟨va,vc,rfl⟩:=hA.shape;refine rW ht hw am hx aj hy ?_;have:=hk va vc I A hd (Uj _) (by simpa using hA);simpa using this
 ·obtain⟨bs,ac,an⟩:=hA;refine dr hd ht ac hw am hx hy (cellsU hd (.head _) hc) (hr.len fun c a h=>hn c a h) (hr.ones fun c a h=>h1 c a h) hb ap fun v' I2 A2 ao aa ak=>?_;obtain⟨a,c,rfl⟩:=ak.slice;have e:xs.length+ys.length=(xs++ys).length:=by simp
  have:=hk a c I2 A2 ao aa ⟨bs++zs,by rw[e]at ak;exact ak,LR.app (an.mono fun _ _ h=>hR h aa) (hr.mono fun _ _ h=>hR h aa)⟩;rw[e];exact this
theorem eZ{ol:List Oper}{fr:gW}{str:gR}{i:Nat}{lo:List (Nat×Oper)}{o:Oper}{t e:TypeId}{size bytes:Nat}{x y:Operand}{v vy:Value}{xs ys:List α}{I A:PH}{l:List PH}(hd:Dj (I::A::l))(ht:iw C.P t e size bytes)(hA:Ow R e size I A v xs)(hS:Sl R I vy ys)(hR:∀{I J c a},R I c a->I.le J->R J c a)(hn:∀{I} c a,R I c a->c.length=size)(h1:∀{I} c a,R I c a->c.all Sx.one=true)
  (hs:str.h.contains i=false) (an:str.j.contains i=false) (hw:aG ol σ o=some true) (aj:o.op=.call ⟨.builtin .append,#[x,y],#[t,t]⟩) (hx:ev σ x=.v v) (hy:ev σ y=.v vy) (hb:(xs.length+ys.length)*bytes<=140737488355328) (aS:xs.length+ys.length<=maxLen)
  (hk:∀a c I2 A2,Dj (I2::A2::l)->I.le I2->Ow R e size I2 A2 (.slice a (xs++ys).length c) (xs++ys)->RD C ol fr str lo k (σ.put o.dst (.v (.slice a (xs++ys).length c))) (U (I2::A2::l))):RD C ol fr str ((i,o)::lo) k σ (U (I::A::l)):=by
 obtain⟨ya,yc,rfl,hS⟩:=hS;rcases hS with rfl|⟨b,off,zs,rfl,hc,hr⟩
 ·have ak:=hA.cap fun c a h=>hn c a h;obtain⟨va,vc,rfl⟩:=hA.shape;obtain⟨a,b⟩:=oL (H:=U (I::A::l)) ht aj hx ak hy;refine pX hw a (by rw[aj];rfl) (b.mono fun sv H2 ⟨e1,e2⟩=>⟨jB.non hs an,?_⟩);subst e1;subst e2;have:=hk va vc I A hd (Uj _) (by simpa using hA);simpa using this
 ·obtain⟨bs,ac,ao⟩:=hA;refine jt hd ht ac hs an hw aj hx hy (cellsU hd (.head _) hc) (hr.len fun c a h=>hn c a h) (hr.ones fun c a h=>h1 c a h) hb aS fun v' I2 A2 ap aa am=>?_;obtain⟨a,c,rfl⟩:=am.slice;have e:xs.length+ys.length=(xs++ys).length:=by simp
  have:=hk a c I2 A2 ap aa ⟨bs++zs,by rw[e]at am;exact am,LR.app (ao.mono fun _ _ h=>hR h aa) (hr.mono fun _ _ h=>hR h aa)⟩;rw[e];exact this
end
theorem gx{I:PH}{h:ay}{a:Option Addr}{k:Nat}(am:h.at'<2^61)(hr:cu I (.agg #[sD a k h.cond,rD h.cond]) h.cond):
  aO Tryz.prog 138 #[uh a k h] I [] fun v I2 qs=>qs=[]/\du I2 v (bh h):=by
 intro hd;have e1:=wrap64 (n:=h.at'+1) Vi;have ak:IntKind.i64.wrap ((h.at':Int)+1)=((h.at'+1:Nat):Int):=by rw[<-e1];congr 1
 refine ir 10 Tryz.func138 fun w0=>?_
 try simp only[uh,iv,sD,rD]
 apply RG;simp only[go_sem,ak];refine av hd (by exact gY) rfl rfl rfl rfl rfl Vm fun nb I2 aj aa ac=>?_;refine Un ?_;refine ai rfl aj (r:=[_]) rfl aa ⟨rfl,_,_,rfl,.inr ⟨nb,0,[iv (h.at'+1),sD a k h.cond,rD h.cond],rfl,az ac (by simp[aE,Value.cells]) (by simp[aE,Value.cells,iv,sD,rD]),.one ⟨_,_,rfl,hr.le aa⟩⟩⟩
theorem BU{I:PH}{vf:Value}{f:ah}(hf:du I vf f)(hl:f.length<=2^20):aO Tryz.prog 263 #[vf] I [] fun v I2 qs=>∃A,qs=[A]/\gP I2 A v f:=by
 intro hd;obtain⟨fa,fc,rfl,ak⟩:=id hf;refine ir 8 Tryz.func263 fun w0=>?_;cases fa with
 |none=>
  have am:f=[]:=by
   rcases ak with h|⟨b,off,xs,e,_⟩
   ·exact h
   ·cases e
  subst am;refine Un ?_;refine kw rfl rfl (by exact vK) rfl rfl ?_;apply RG;simp only[go_sem,Option.isNone];refine aT hd fun aj=>?_;exact ai rfl aj (r:=[_]) rfl (Uj _) ⟨_,rfl,Ow.nil _ _ _ _⟩
 |some a=>
  refine Un ?_;refine kw rfl rfl (by exact vK) rfl rfl ?_;apply RG;simp only[go_sem,Option.isNone];refine dP hd (by exact gY) rfl rfl rfl rfl rfl Vm fun b A aj aa=>?_;refine Un ?_;refine aY aj (by exact gY) (xs:=([]:ah)) (R:=fP) ⟨[],aa,rfl⟩ hf (fun{I J c a} h k=>fP.le h k) (fun{I} c a h=>fP.len c a h) (fun{I} c a h=>fP.ones h) rfl rfl rfl rfl (by simp only[S9];omega) (by simp only[S9];unfold maxLen;omega) fun a2 c2 I2 A2 an ac ao=>?_;apply RG;simp only[go_sem,SU];exact ai rfl an (r:=[_]) rfl ac ⟨_,rfl,ao⟩
theorem Hi{H:PH}{s:bM}:bv Tryz.prog 223 #[.string ⟨⟨s⟩⟩] H fun v H2=>v=.int .i64 (if dY s=9 then -1 else (dY s:Int))/\H2=H:=by
 refine ir 22 Tryz.func223 fun w0=>?_;cases h0:(s == [124,124])
 rotate_left
 ·apply RG;simp only[go_sem,h0];exact aK (r:=[.int .i64 0]) rfl ⟨by rw[show dY s=0 from by rw[eq_of_beq h0];decide];rfl,rfl⟩
 cases h1:(s == [38,38])
 rotate_left
 ·apply RG;simp only[go_sem,h0,h1];exact aK (r:=[.int .i64 1]) rfl ⟨by rw[show dY s=1 from by rw[eq_of_beq h1];decide];rfl,rfl⟩
 cases h2:(s == [61,61])
 rotate_left
 ·apply RG;simp only[go_sem,h0,h1,h2];exact aK (r:=[.int .i64 2]) rfl ⟨by rw[show dY s=2 from by rw[eq_of_beq h2];decide];rfl,rfl⟩
 cases h3:(s == [33,61])
 rotate_left
 ·apply RG;simp only[go_sem,h0,h1,h2,h3];exact aK (r:=[.int .i64 2]) rfl ⟨by rw[show dY s=2 from by rw[eq_of_beq h3];decide];rfl,rfl⟩
 cases h4:(s == [60])
 rotate_left
 ·apply RG;simp only[go_sem,h0,h1,h2,h3,h4];exact aK (r:=[.int .i64 2]) rfl ⟨by rw[show dY s=2 from by rw[eq_of_beq h4];decide];rfl,rfl⟩
 cases h5:(s == [60,61])
 rotate_left
 ·apply RG;simp only[go_sem,h0,h1,h2,h3,h4,h5];exact aK (r:=[.int .i64 2]) rfl ⟨by rw[show dY s=2 from by rw[eq_of_beq h5];decide];rfl,rfl⟩
 cases h6:(s == [62])
 rotate_left
 ·apply RG;simp only[go_sem,h0,h1,h2,h3,h4,h5,h6];exact aK (r:=[.int .i64 2]) rfl ⟨by rw[show dY s=2 from by rw[eq_of_beq h6];decide];rfl,rfl⟩
 cases h7:(s == [62,61])
 rotate_left
 ·apply RG;simp only[go_sem,h0,h1,h2,h3,h4,h5,h6,h7];exact aK (r:=[.int .i64 2]) rfl ⟨by rw[show dY s=2 from by rw[eq_of_beq h7];decide];rfl,rfl⟩
 cases h8:(s == [43])
 rotate_left
 ·apply RG;simp only[go_sem,h0,h1,h2,h3,h4,h5,h6,h7,h8];exact aK (r:=[.int .i64 3]) rfl ⟨by rw[show dY s=3 from by rw[eq_of_beq h8];decide];rfl,rfl⟩
 cases h9:(s == [45])
 rotate_left
 ·apply RG;simp only[go_sem,h0,h1,h2,h3,h4,h5,h6,h7,h8,h9];exact aK (r:=[.int .i64 3]) rfl ⟨by rw[show dY s=3 from by rw[eq_of_beq h9];decide];rfl,rfl⟩
 cases aa:(s == [42])
 rotate_left
 ·apply RG;simp only[go_sem,h0,h1,h2,h3,h4,h5,h6,h7,h8,h9,aa];exact aK (r:=[.int .i64 4]) rfl ⟨by rw[show dY s=4 from by rw[eq_of_beq aa];decide];rfl,rfl⟩
 cases ac:(s == [47])
 rotate_left
 ·apply RG;simp only[go_sem,h0,h1,h2,h3,h4,h5,h6,h7,h8,h9,aa,ac];exact aK (r:=[.int .i64 4]) rfl ⟨by rw[show dY s=4 from by rw[eq_of_beq ac];decide];rfl,rfl⟩
 cases aj:(s == [37])
 rotate_left
 ·apply RG;simp only[go_sem,h0,h1,h2,h3,h4,h5,h6,h7,h8,h9,aa,ac,aj];exact aK (r:=[.int .i64 4]) rfl ⟨by rw[show dY s=4 from by rw[eq_of_beq aj];decide];rfl,rfl⟩
 apply RG;simp only[go_sem,h0,h1,h2,h3,h4,h5,h6,h7,h8,h9,aa,ac,aj];have q0:s≠Kl:=fun e=>by rw[e]at h0;exact absurd h0 Vm
 have q1:s≠CI:=fun e=>by rw[e]at h1;exact absurd h1 Vm
 have q2:s≠KM:=fun e=>by rw[e]at h2;exact absurd h2 Vm
 have q3:s≠Ra:=fun e=>by rw[e]at h3;exact absurd h3 Vm
 have q4:s≠QQ:=fun e=>by rw[e]at h4;exact absurd h4 Vm
 have q5:s≠QT:=fun e=>by rw[e]at h5;exact absurd h5 Vm
 have q6:s≠Q0:=fun e=>by rw[e]at h6;exact absurd h6 Vm
 have q7:s≠Rb:=fun e=>by rw[e]at h7;exact absurd h7 Vm
 have q8:s≠Km:=fun e=>by rw[e]at h8;exact absurd h8 Vm
 have q9:s≠nV:=fun e=>by rw[e]at h9;exact absurd h9 Vm
 have q10:s≠Nf:=fun e=>by rw[e]at aa;exact absurd aa Vm
 have q11:s≠OL:=fun e=>by rw[e]at ac;exact absurd ac Vm
 have q12:s≠Nl:=fun e=>by rw[e]at aj;exact absurd aj Vm
 have q:dY s=9:=by
  unfold dY;rw[Sb q0,Sb q1,Sb (by simp[q2,q3,q4,q5,q6,q7]),Sb (by simp[q8,q9]),Sb (by simp[q10,q11,q12])]
 exact aK (r:=[.int .i64 (-1)]) rfl ⟨by rw[q];rfl,rfl⟩
open Go Go.Sx Dg Syn
theorem EV{H:PH}{b k:Nat}(hb:aQ H b 0 [iv k])(hk:k<=5){h:ay}{a:Option Addr}{c:Nat}:bv Tryz.prog 222 #[uh a c h,pt b] H fun v H2=>v=.bool (isOp k h)/\H2=H:=by
 refine ir 14 Tryz.func222 fun w0=>?_
 try simp only[uh,iv,pt,sD,rD]
 refine Un ?_;refine V8 [0,1,2,3,4,5,7,6,8,9,10] [7] [6] ?_;by_cases h3:h.kind=3
 ·have h6:((h.kind:Int) == 3)=true:=by simp[h3]
  apply af;simp only[go_sem,h6,iv,pt];refine P7 (l:=[iv k]) rfl hb (.inr ⟨mF,rfl⟩) ?_;apply af;simp only[go_sem,h6,iv,pt];refine pi rfl rfl rfl rfl IG Hi fun v H2 hv=>?_;obtain⟨rfl,rfl⟩:=hv;refine⟨jB.le (Uj _),?_⟩;apply af;simp only[go_sem,h6,iv,pt];refine aw ?_;refine Un ?_;refine aK (r:=[.bool ((if dY h.text=9 then -1 else (dY h.text:Int)) == (k:Int))]) rfl ⟨?_,rfl⟩;show Value.bool _=Value.bool (isOp k h);congr 1;unfold isOp;rw[h3];by_cases e:dY h.text=k
  ·subst e;rw[Sb Vi];simp
  ·simp only[e];split<;>simp<;>omega
 ·have h6:((h.kind:Int) == 3)=false:=by simp;omega
  apply af;simp only[go_sem,h6,iv,pt];refine aw ?_;refine Un ?_;exact aK (r:=[.bool false]) rfl ⟨by simp[eN,isOp,h3],rfl⟩
theorem wj{I:PH}{hb kind:Nat}{h:ay}{a:Option Addr}{c:Nat}(hc:aQ I hb 0 [iv h.at',sD a c h.cond,rD h.cond,.int .u8 h.kind,.string ⟨⟨h.text⟩⟩])(hr:cu I (.agg #[sD a c h.cond,rD h.cond]) h.cond):
  aO Tryz.prog 291 #[.int .u8 kind,pt hb] I [] fun v I2 qs=>∃A,qs=[A]/\br I2 A v [ix kind h 0]:=by
 intro hd;have h1:=hc.sub 0 1 (by simp);have h2:=hc.sub 1 2 (by simp);simp only[TT,Tm,TW,TV,Sf]at h1 h2;refine ir 11 Tryz.func291 fun w0=>?_
 try simp only[pt]
 refine Un ?_;refine Qz (l:=[_]) rfl (cellsU hd (.head _) h1) (.inr ⟨mF,rfl⟩) ?_;refine Un ?_;refine Qz (l:=[_,_]) (v:=.agg #[_,_]) rfl (cellsU hd (.head _) h2) (.inl ⟨oQ,rfl⟩) ?_;refine Uv ?_;refine dP hd (by exact cT) rfl rfl rfl rfl rfl Vm fun b A ac aa=>?_;refine Un ?_;refine ai rfl ac (r:=[_]) rfl (Uj _) ⟨A,rfl,_,aa,?_⟩;exact .one (aW.mk (n:=ix kind h 0) hr (Sl.nil _ _) jq)
theorem nU:aP Tryz.prog 83:=⟨_,Tryz.func83,rfl,rfl⟩
theorem wQ:aP Tryz.prog 144:=⟨_,Tryz.func144,rfl,rfl⟩
theorem BB:aP Tryz.prog 204:=⟨_,Tryz.func204,rfl,rfl⟩
section
variable {ts:List Tok} {f:ah}
end
def MW(ts:List Tok)(r:Syn.bE):Value->PH->List PH->Prop:=fun v I2 rs=>RN r v I2 rs/\FN ts.length r.f/\r.l.length<=aF
section
variable (pb:Nat) (ts:List Tok) (lv fv ov:Value)
def WF(fid o:Nat)(args:Value->Array Value)(f:ah)(r:Syn.bE):Prop:=
 ∀{I D:PH} {dv vf:Value} {e:List bX},vF I ts lv fv->du I vf f->FN ts.length f->dl I D dv e->e.length+r.e.length<=pY->
  aO Tryz.prog fid (args vf) I [sg pb (bD lv fv ov dv o),D] (PP pb lv fv ov o (e++r.e) (MW ts r))
def WH(fid o:Nat)(args:Value->Array Value)(h:ay)(r:Syn.bE):Prop:=
 ∀{I D:PH} {dv:Value} {a:Option Addr} {k:Nat} {e:List bX},vF I ts lv fv->iH ts h->cu I (.agg #[sD a k h.cond,rD h.cond]) h.cond->dl I D dv e->e.length+r.e.length<=pY->
  aO Tryz.prog fid (args (uh a k h)) I [sg pb (bD lv fv ov dv o),D] (PP pb lv fv ov o (e++r.e) (MW ts r))
def dU(fid:Nat):Value:=.func (.func fid) #[pt pb] #[]
def qS:Syn.Call->Syn.bE->Prop
 | .line k o f slot,r=>k<=5->o<=64->WF pb ts lv fv ov 144 o (fun vf=>#[pt pb,iv k,vf,iv slot]) f r
 | .unary o f slot,r=>o<=64->WF pb ts lv fv ov 220 o (fun vf=>#[pt pb,vf,iv slot]) f r
 | .inside o f slot,r=>o<=64->WF pb ts lv fv ov 270 o (fun vf=>#[pt pb,vf,iv slot]) f r
 | .listed par o f,r=>o<=64->WF pb ts lv fv ov 206 o (fun vf=>#[pt pb,vf,dU pb (if par then 207 else 83)]) f r
 | .behind typ o f sign slot,r=>o<=64->sign≠[]->WF pb ts lv fv ov 204 o (fun vf=>#[pt pb,vf,.string ⟨⟨sign⟩⟩,dU pb (if typ then 202 else 83),iv slot]) f r
 | .vrb o f,r=>o<=64->WF pb ts lv fv ov 137 o (fun vf=>#[pt pb,vf]) f r
 | .function o f,r=>o<=64->WF pb ts lv fv ov 139 o (fun vf=>#[pt pb,vf]) f r
 | .block o f slot,r=>o<=64->WF pb ts lv fv ov 208 o (fun vf=>#[pt pb,vf,iv slot]) f r
 | .stmt o h,r=>o<=64->WH pb ts lv fv ov 264 o (fun vh=>#[pt pb,vh]) h r
 | .branch o h slot,r=>o<=64->h.text≠[]->WH pb ts lv fv ov 292 o (fun vh=>#[pt pb,vh,iv slot]) h r
 |_,_=>True
def iE(n:Nat):Prop:=∀m,m<n->∀x r,run ts m x=some r->qS pb ts lv fv ov x r
end
section
variable {pb:Nat} {ts:List Tok} {lv fv ov:Value}
theorem mQ{o:Nat}(kind slot:Nat)(f:ah):WF pb ts lv fv ov 201 o (fun vf=>#[pt pb,vf,.int .u8 kind,iv slot]) f (named ts f kind slot):=by
 intro I D dv vf e h hf fn he hm;refine(Ju h hf fn he hm).mono fun v I2 qs _ hq=>?_;obtain⟨dv2,D2,rs,e1,e2,e3⟩:=hq;have:=iU h.ok fn kind slot;exact⟨dv2,D2,rs,e1,e2,e3,fL h.ok fn kind slot,by have:=h.len;unfold aF;omega⟩
theorem xh{o:Nat}(slot:Nat)(f:ah):WF pb ts lv fv ov 202 o (fun vf=>#[pt pb,vf,iv slot]) f (typed ts f slot):=by
 intro I D dv vf e h hf fn he hm;refine(IY h hf fn he hm).mono fun v I2 qs _ hq=>?_;obtain⟨dv2,D2,rs,e1,e2,e3⟩:=hq;have:=Dm h.ok fn slot;exact⟨dv2,D2,rs,e1,e2,e3,oS h.ok fn slot,by have:=h.len;unfold aF;omega⟩
theorem n9{o slot:Nat}{f:ah}{r:Syn.bE}(hw:qS pb ts lv fv ov (.line 0 o f slot) r)(ho:o<=64):WF pb ts lv fv ov 83 o (fun vf=>#[pt pb,vf,iv slot]) f r:=by
 intro I D dv vf e h hf fn he hm hd;refine ir 14 Tryz.func83 fun w0=>?_
 try simp only[iv,pt]
 refine Un ?_;refine f6 hd [0,1] [sg pb _,D] [] rfl wQ rfl (hw (S6 _) ho h hf fn he hm) fun v I2 qs ac aa hq=>?_;obtain⟨dv2,D2,rs,rfl,hE,⟨A,B,va,vb,rfl,rfl,hA,hB⟩,hF⟩:=hq;simp only[SS,SU,Tq]at ac |-;refine Un ?_;exact ai rfl ac (r:=[va,vb]) rfl aa ⟨dv2,D2,[A,B],rfl,hE,⟨A,B,va,vb,rfl,rfl,hA,hB⟩,hF⟩
end
open Go Go.Sx Dg Syn
section
variable {pb:Nat} {ts:List Tok} {lv fv ov:Value}
theorem bt{n:Nat}{x:Syn.Call}{r:Syn.bE}(h:Syn.run ts n x=some r):∃m,n=m+1/\Syn.step ts (Syn.run ts m) x=some r:=by
 cases n with
 |zero=>cases h
 |succ m=>exact⟨m,rfl,h⟩
theorem bw{α β:Type}{a:Option α}{f:α->Option β}{q:β}(h:(a >>= f)=some q):∃x,a=some x/\f x=some q:=by
 cases a with
 |none=>cases h
 |some x=>exact⟨x,rfl,h⟩
theorem Lc{n m o slot:Nat}{typ:Bool}{g:ah}{a:Syn.bE}(ih:iE pb ts lv fv ov n)(hm:m<n)(ho:o<=64)(h:rq ts (Syn.run ts m) typ o g slot=some a):WF pb ts lv fv ov (if typ then 202 else 83) o (fun vf=>#[pt pb,vf,iv slot]) g a/\aP Tryz.prog (if typ then 202 else 83):=by
 cases typ
 ·exact⟨n9 (ih m hm _ _ h) ho,nU⟩
 ·cases h
  exact⟨xh slot g,wD⟩
def O5(pb slot:Nat)(rv vout vh:Value)(n:Nat)(x:Nat×Value):St:=⟨dn 52 [(0,.v (pt pb)),(3,.v rv),(4,.v (iv slot)),(13,.v vout),(14,.v x.2),(27,.v vh),(28,.v (iv n)),(29,.v (iv x.1))],[]⟩
def P3(pb:Nat)(lv fv ov dv:Value)(o:Nat)(J:ah->ay->ah)(z:ah)(hs:List ay)(Fr:List PH)(I0:PH)(x:Nat×Value)(H:PH):Prop:=
 ∃I A,H=U (I::sg pb (bD lv fv ov dv o)::A::Fr)/\Dj (I::sg pb (bD lv fv ov dv o)::A::Fr)/\I0.le I/\x.1<=hs.length/\gP I A x.2 ((hs.take x.1).foldl J z)
theorem GX{n:Nat}(ih:iE pb ts lv fv ov n){typ:Bool}{o:Nat}{f:ah}{sign:bM}{slot:Nat}{r:Syn.bE}(hr:Syn.run ts n (.behind typ o f sign slot)=some r):qS pb ts lv fv ov (.behind typ o f sign slot) r:=by
 obtain⟨m,rfl,hs⟩:=bt hr;have a1:Syn.behind ts (Syn.run ts m) typ o f sign slot=some r:=hs;unfold Syn.behind at a1;obtain⟨yes,out,cf⟩:∃yes out,aC ts f (bj sign)=(yes,out):=⟨_,_,rfl⟩;rw[cf]at a1;simp only at a1;obtain⟨a,ha,e⟩:=bw a1;cases e
 clear a1 hs hr;intro ho cj I D dv vf e h hf fn he hm hd;obtain⟨cy,cB⟩:=Lc ih (Tv m) ho ha;have hl:=h.len;refine ir 52 Tryz.func204 fun w0=>?_
 try simp only[iv,pt,dU]
 refine Un ?_;refine f6 hd [0,1] [] [sg pb _,D] rfl gy rfl (iz (s:=sign)) fun v I2 qs cn ao hq=>?_;obtain⟨rfl,cr⟩:=hq;simp only[SS,SU]at cn |-;obtain⟨fi,first,cap,rfl,gi,ci⟩:=id cr;refine Un ?_;refine f6 cn [0,1] [sg pb _] [D] rfl gX rfl (gT (h.le ao) (du.le hf ao) fn cr) fun v I3 qs cm b1 hq=>?_;obtain⟨A,B,va,vb,rfl,rfl,hA,hB⟩:=hq;simp only[SS,SU]at cm |-;have hY:=dH h.ok fn (is:=bj sign);have cp:=eR h.ok fn (bj sign);have bb:=cI h.ok fn (bj sign);rw[cf]at hA hB hY cp bb;simp only at hA hB hY cp bb;obtain⟨ya,yc,rfl⟩:=hA.shape;obtain⟨ba,bc,rfl⟩:=hB.shape;refine Un ?_;refine Um cm [1,0,2,3] fun c3=>?_;refine ag c3 fun I4 c2 an dk=>?_;have c5:m9 I4 (.slice ya yes.length yc) yes:=Ow.sl (R:=jA) (fun{I J c a} h k=>jA.le h k) hA an dk;refine aT c2 fun c1=>?_;refine Um c1 [1,0,2,3] fun c0=>?_;refine aB (fun x=>yes.length-x.1) (O5 pb slot (dU pb (if typ then 202 else 83)) (.slice ba out.length bc) (.slice ya yes.length yc) yes.length) (P3 pb lv fv ov dv o joinH1 [] yes [B,D] I4) (0,.slice none 0 0) (ae (by simp only[go_sem,Tq,iv,pt,dU])) (by simp only[go_sem,Tq,O5]) ?_ ?_
 ·exact⟨I4,PH.no,rfl,c0,Uj _,S6 _,Ow.nil _ _ _ _⟩
 rintro⟨i,vat⟩ H ⟨I5,A5,rfl,b2,ak,hi,a7⟩ a2;simp only at hi a7;simp only[O5];have c7:m9 I5 (.slice ya yes.length yc) yes:=c5.le ak;have a6:FN ts.length ((yes.take i).foldl joinH1 []):=kg (fun x hx=>⟨(hY x (TA hx)).1,mN cj (hY x (TA hx)).1 (hY x (TA hx)).2⟩) (FN.nil _);have dy:=a6.len;rcases Sw i yes.length with cl|dx
 ·have bd:decide ((i:Int)<(yes.length:Int))=true:=by simp;omega
  have e1:=wrap64 (n:=i+1) Vi;have dw:IntKind.i64.wrap ((i:Int)+1)=((i+1:Nat):Int):=by rw[<-e1];congr 1
  obtain⟨x,hx⟩:∃x,yes[i]?=some x:=⟨_,SC cl⟩;have cc:=hY x (Tg hx);have cx:=mN cj cc.1 cc.2;have e2:=wrap64 (n:=x.at'+1) Vi;have ds:IntKind.i64.wrap ((x.at':Int)+1)=((x.at'+1:Nat):Int):=by rw[<-e2];congr 1
  obtain⟨b,off,cs,rfl,c4,a5⟩:=c7.load jA.len hx;obtain⟨xa,xk,rfl,bx⟩:=c4;have a0:=cE (g:=joinH1) (z:=[]) hx;obtain⟨ta,tc,rfl⟩:=a7.shape;apply RG;simp only[go_sem,bd,iv,pt,dU];refine⟨Vi,?_⟩;refine Qz (l:=[iv x.at',sD xa xk x.cond,rD x.cond,.int .u8 x.kind,.string ⟨⟨x.text⟩⟩]) (v:=.agg #[iv x.at',sD xa xk x.cond,rD x.cond,.int .u8 x.kind,.string ⟨⟨x.text⟩⟩]) rfl (cellsU b2 (.head _) a5) (.inl ⟨eS,rfl⟩) ?_;apply RG;simp only[go_sem,bd,iv,pt,sD,rD,ds];refine f6 b2 [1,0,2,3] [A5] [sg pb _,B,D] rfl df rfl (bo (a:=x.at'+1) a7 bx a6.ok.2 (fun t ht=>by have:=a6.le t ht;omega) Vi Vi) fun v I6 qs a9 b0 hq=>?_;obtain⟨A6,rfl,ca⟩:=hq;obtain⟨ta2,tc2,rfl⟩:=ca.shape;simp only[SS,SU]at a9 |-;apply RG;simp only[go_sem,iv,pt,sD,rD,dw];refine Um a9 [1,0,2,3] fun ap=>?_;rw[show Syn.join ((yes.take i).foldl joinH1 []) (x.at'+1) x.cond=(yes.take (i+1)).foldl joinH1 [] from a0.symm]at ca |-;exact a2 (i+1,.slice ta2 _ tc2) _ _ V9 (ae (by simp only[go_sem,Tq,iv,pt,dU])) (by simp only[go_sem,Tq,O5]) ⟨I6,A6,rfl,ap,Ui ak b0,cl,ca⟩
 ·have cA:i=yes.length:=by omega
  subst cA;have bd:=Z6 yes.length;rw[Td]at a7 a6;apply RG;simp only[go_sem,bd,iv,pt,dU];refine Um b2 [1,0,2,3] fun a9=>?_;refine ag a9 fun I6 ap aj cb=>?_;have hG:du I6 vat (yes.foldl joinH1 []):=Ow.sl (R:=fP) (fun{I J c a} h k=>fP.le h k) a7 aj cb;have aS:=Ui ao (Ui b1 (Ui an (Ui ak aj)));refine Uz ?_;refine f6 ap [0,2,1] [sg pb _,D] [B] rfl cB rfl (cy (h.le aS) hG a6 (he.le aS) hm) fun v I7 qs a4 am hq=>?_;obtain⟨dv2,D2,rs,rfl,c9,⟨A7,B7,vl,vg,rfl,rfl,dj,dd⟩,ct,c6⟩:=hq;simp only[SS,SU]at a4 |-;refine Uz ?_;refine Um a4 [3,0,1,2,4] fun b5=>?_;refine ag b5 fun I8 b4 aa b6=>?_;have c8:du I8 vg a.f:=Ow.sl (R:=fP) (fun{I J c a} h k=>fP.le h k) dd aa b6;have dc:gP I8 B (.slice ba out.length bc) out:=(hB.le (Ui an (Ui ak aj))).le (Ui am aa);refine f6 b4 [3,0,1,2] [B] [sg pb _,D2,A7] rfl dp rfl (b7 (N:=ts.length) Vi dc bb c8 ct) fun v I9 qs a3 ac hq=>?_;obtain⟨B9,rfl,da⟩:=hq;simp only[SS,SU]at a3 |-;refine Uz ?_;refine Um a3 [1,2,3,0] fun b3=>?_;refine ai rfl b3 (r:=[vl,v]) rfl (Ui aS (Ui am (Ui aa ac))) ⟨dv2,D2,[A7,B9],rfl,c9.le (Ui aa ac),⟨A7,B9,vl,v,rfl,rfl,dj.le (Ui aa ac),da⟩,bb.joinAll ct,c6⟩
end
open Go Go.Sx Dg Syn
theorem Ij:aP Tryz.prog 207:=⟨_,Tryz.func207,rfl,rfl⟩
theorem Bv:aP Tryz.prog 137:=⟨_,Tryz.func137,rfl,rfl⟩
theorem HU:aP Tryz.prog 139:=⟨_,Tryz.func139,rfl,rfl⟩
theorem wE:aP Tryz.prog 206:=⟨_,Tryz.func206,rfl,rfl⟩
theorem pp:aP Tryz.prog 208:=⟨_,Tryz.func208,rfl,rfl⟩
section
variable {pb:Nat} {ts:List Tok} {lv fv ov:Value}
theorem ce{l ks r:List Nd}(h:gv l ks=some r):∀n∈l,n.kids.length+ks.length<=aF:=by
 unfold gv at h;split at h
 ·rename_i h2;intro n hn;simpa using List.all_eq_true.1 h2 n hn
 ·cases h
theorem bI(l ks:List Nd):(give l ks).length=l.length:=by simp[give]
theorem br.sl{I J A:PH}{v:Value}{l:List Nd}(h:br I A v l)(h1:I.le J)(h2:A.le J):db J v l:=Ow.sl (R:=aW) (fun{I J c a} h k=>aW.le h k) h h1 h2
theorem gP.sl{I J A:PH}{v:Value}{l:ah}(h:gP I A v l)(h1:I.le J)(h2:A.le J):du J v l:=Ow.sl (R:=fP) (fun{I J c a} h k=>fP.le h k) h h1 h2
theorem L4.sl{I J A:PH}{v:Value}{l:List ay}(h:L4 I A v l)(h1:I.le J)(h2:A.le J):m9 J v l:=Ow.sl (R:=jA) (fun{I J c a} h k=>jA.le h k) h h1 h2
theorem IM{o:Nat}{f:ah}{r:Syn.bE}(rec:Syn.oR)(hr:Syn.item ts rec true o f=some r):WF pb ts lv fv ov 207 o (fun vf=>#[pt pb,vf,iv 0]) f r:=by
 unfold Syn.item at hr;simp only[R9]at hr;obtain⟨g,e1,ht⟩:∃g e1,Syn.take ts (named ts f 4 0).f bS=(g,e1):=⟨_,_,rfl⟩;rw[ht]at hr;simp only at hr;obtain⟨l,hg,e⟩:=bw hr;cases e
 have a7:=bg hg;have a9:=ce hg;subst a7;clear hg hr;intro I D dv vf e h hf fn he hm hd;have hl:=h.len;have tne:bS≠[]:=by decide
 have nl:=iU h.ok fn 4 0;have nf:=fL h.ok fn 4 0;have tf:=cN h.ok nf tne;rw[ht]at tf;simp only[Tu]at hm;refine ir 30 Tryz.func207 fun w0=>?_
 try simp only[iv,pt]
 refine Un ?_;refine f6 hd [0,1] [sg pb _,D] [] rfl mC rfl (mQ (kind:=4) (slot:=0) (f:=f) h hf fn he Vi) fun v I2 qs a6 an hq=>?_;obtain⟨dv2,D2,rs,rfl,b5,⟨A2,B2,va2,vb2,rfl,rfl,cl,cc⟩,_,_⟩:=hq;simp only[SS,SU,Tq]at a6 |-;refine Un ?_;refine Um a6 [3,0,1,2] fun bx=>?_;refine ag bx fun I3 bd aj cb=>?_;have b2:du I3 vb2 _:=cc.sl aj cb;have k3:=Ui an aj;refine Un ?_;refine f6 bd [0,1,2] [sg pb _,D2] [A2] rfl fQ rfl (ii (s:=bS) (h.le k3) b2 nf tne (b5.le aj) (by rw[ht];simp only[Tu];omega)) fun v I4 qs a5 am hq=>?_;obtain⟨dv4,D4,rs,rfl,a1,B4,rfl,a2⟩:=hq;rw[ht]at a1 a2;simp only at a1 a2;simp only[SS,SU,Tq]at a5 |-;refine Un ?_;refine Um a5 [2,0,1,3] fun bc=>?_;refine ag bc fun I5 bb ac ca=>?_;have b1:du I5 v g:=a2.sl ac ca;have k5:=Ui k3 (Ui am ac);refine Un ?_;refine f6 bb [0,1,2] [sg pb _,D4] [A2] rfl wD rfl (xh (slot:=0) (f:=g) (h.le k5) b1 tf (a1.le ac) (by simp only[Tu];omega)) fun v I6 qs a4 ap hq=>?_;obtain⟨dv6,D6,rs,rfl,b4,⟨A6,B6,va6,vb6,rfl,rfl,cj,b6⟩,b3,_⟩:=hq;simp only[SS,SU,Tq]at a4 |-;refine Un ?_;refine Um a4 [2,0,1,3,4] fun ba=>?_;refine ag ba fun I7 a0 aa ci=>?_;have b0:db I7 va6 _:=cj.sl aa ci;have a3:=Ui aj (Ui am (Ui ac (Ui ap aa)));refine Un ?_;refine f6 a0 [3,0,1,2] [A2] [sg pb _,D6,B6] rfl eQ rfl (ge (cl.le a3) b0 (by unfold aF;omega) a9) fun v I8 qs ao ak hq=>?_;obtain⟨A8,rfl,cf⟩:=hq;simp only[SS,SU,Tq]at ao |-;refine Un ?_;refine Um ao [1,2,0,3] fun aS=>?_
 refine ai rfl aS (r:=[v,vb6]) rfl (Ui an (Ui a3 ak)) ⟨dv6,D6,[A8,B6],rfl,?_,⟨A8,B6,v,vb6,rfl,rfl,cf,b6.le (Ui aa ak)⟩,b3,by simp only[bI];unfold aF;omega⟩;have:=b4.le (Ui aa ak);simpa[Te]using this
theorem AG{n:Nat}(ih:iE pb ts lv fv ov n){o:Nat}{f:ah}{r:Syn.bE}(hr:Syn.run ts n (.vrb o f)=some r):qS pb ts lv fv ov (.vrb o f) r:=by
 obtain⟨m,rfl,hs⟩:=bt hr;have a2:Syn.ig ts (Syn.run ts m) o f=some r:=hs;unfold Syn.ig at a2;simp only at a2;obtain⟨g1,e1,ht⟩:∃g e1,Syn.take ts (named ts f 2 0).f bS=(g,e1):=⟨_,_,rfl⟩;rw[ht]at a2;simp only at a2;obtain⟨c,hc,cy⟩:=bw a2;obtain⟨l1,b2,cx⟩:=bw cy;obtain⟨l2,b1,bc⟩:=bw cx;obtain⟨g2,e2,bb⟩:∃g e1,Syn.take ts c.f bl=(g,e1):=⟨_,_,rfl⟩;rw[bb]at bc;simp only at bc;cases bc
 have b0:=ce b2;have bx:=ce b1;obtain rfl:=bg b2;obtain rfl:=bg b1;clear a2 cy cx hs hr b2 b1;intro ho I D dv vf e h hf fn he hm hd;have hl:=h.len;have tne:bS≠[]:=by decide
 have tne2:bl≠[]:=by decide
 have nl:=iU h.ok fn 2 0;have nf:=fL h.ok fn 2 0;have tf:=cN h.ok nf tne;rw[ht]at tf;simp only[Tu]at hm;refine ir 40 Tryz.func137 fun w0=>?_
 try simp only[iv,pt]
 refine Un ?_;refine f6 hd [0,1] [sg pb _,D] [] rfl mC rfl (mQ (kind:=2) (slot:=0) (f:=f) h hf fn he Vi) fun v I2 qs c0 bd hq=>?_;obtain⟨dv2,D2,rs,rfl,ds,⟨A2,B2,va2,vb2,rfl,rfl,d3,dT⟩,_,_⟩:=hq;simp only[SS,SU,Tq]at c0 |-;refine Un ?_;refine Um c0 [3,0,1,2] fun c7=>?_;refine ag c7 fun I3 c6 am dI=>?_;have dc:du I3 vb2 _:=dT.sl am dI;have k3:=Ui bd am;refine Un ?_;refine f6 c6 [0,1,2] [sg pb _,D2] [A2] rfl fQ rfl (ii (s:=bS) (h.le k3) dc nf tne (ds.le am) (by rw[ht];simp only[Tu];omega)) fun v I4 qs cB a4 hq=>?_;obtain⟨dv4,D4,rs,rfl,cl,B4,rfl,cm⟩:=hq;rw[ht]at cl cm;simp only at cl cm;simp only[SS,SU,Tq]at cB |-;refine Un ?_;refine Um cB [2,0,1,3] fun c5=>?_;refine ag c5 fun I5 c4 ak dA=>?_;have da:du I5 v g1:=cm.sl ak dA;have k5:=Ui k3 (Ui a4 ak);refine Un ?_;refine f6 c4 [0,1,2] [sg pb _,D4] [A2] rfl wD rfl (xh (slot:=0) (f:=g1) (h.le k5) da tf (cl.le ak) (by simp only[Tu];omega)) fun v I6 qs cA a3 hq=>?_;obtain⟨dv6,D6,rs,rfl,dk,⟨A6,B6,va6,vb6,rfl,rfl,d2,dy⟩,dd,_⟩:=hq;simp only[SS,SU,Tq]at cA |-;refine Un ?_;refine Um cA [2,0,1,3,4] fun c3=>?_;refine ag c3 fun I7 cf ac d1=>?_;have c8:db I7 va6 _:=d2.sl ac d1;refine Um cf [2,0,1,3] fun cc=>?_;refine ag cc fun I8 cb aa dx=>?_;have c9:du I8 vb6 _:=dy.sl (Ui ac aa) dx;have k8:=Ui k5 (Ui a3 (Ui ac aa));refine Un ?_
 refine f6 cb [0,1,2] [sg pb _,D6] [A2] rfl BB rfl (ih m (Tv m) _ _ hc ho Vm (h.le k8) c9 dd (dk.le (Ui ac aa)) (by simp only[Tu];omega)) fun v I9 qs ba aS hq=>?_;obtain⟨dv9,D9,rs,rfl,dj,⟨A9,B9,va9,vb9,rfl,rfl,d0,dw⟩,c1,_⟩:=hq;simp only[SS,SU,Tq]at ba |-;have c2:=Ui am (Ui a4 (Ui ak (Ui a3 (Ui ac (Ui aa aS)))));refine Un ?_;refine f6 ba [4,0,1,2,3] [A2] [sg pb _,D9,A9,B9] rfl eQ rfl (ge (d3.le c2) (db.le c8 (Ui aa aS)) (by unfold aF;omega) b0) fun v d9 qs a9 ap hq=>?_;obtain⟨A10,rfl,cs⟩:=hq;simp only[SS,SU,Tq]at a9 |-;refine Un ?_;refine Um a9 [3,0,1,2,4] fun ca=>?_;refine ag ca fun d5 b6 aj cr=>?_;have ci:db d5 va9 _:=d0.sl (Ui ap aj) cr;refine Un ?_;refine f6 b6 [0,1,2,3] [A10] [sg pb _,D9,B9] rfl eQ rfl (ge (cs.le aj) ci (by rw[bI];unfold aF;omega) bx) fun v d7 qs a7 a5 hq=>?_;obtain⟨A12,rfl,cp⟩:=hq;simp only[SS,SU,Tq]at a7 |-;refine Un ?_;refine Um a7 [3,0,1,2] fun b5=>?_;refine ag b5 fun d4 b4 ao cn=>?_;have k913:=Ui ap (Ui aj (Ui a5 ao));have cj:du d4 vb9 _:=dw.sl k913 cn;have ct:=Ui k8 (Ui aS k913);refine Un ?_;refine f6 b4 [1,2,0] [sg pb _,D9] [A12] rfl fQ rfl (ii (s:=bl) (h.le ct) cj c1 tne2 (dj.le k913) (by rw[bb];simp only[Tu];omega)) fun v2 d6 qs a6 an hq=>?_;obtain⟨dv14,D14,rs,rfl,a0,B14,rfl,a1⟩:=hq;rw[bb]at a0 a1;simp only at a0 a1
 simp only[SS,SU,Tq]at a6 |-;refine Un ?_;refine Um a6 [0,1,3,2] fun b3=>?_;have tf2:=cN h.ok c1 tne2;rw[bb]at tf2;refine ai rfl b3 (r:=[v,v2]) rfl (Ui ct an) ⟨dv14,D14,[A12,B14],rfl,?_,⟨A12,B14,v,v2,rfl,rfl,cp.le (Ui ao an),a1⟩,tf2,by simp only[bI];unfold aF;omega⟩;simpa[Te]using a0
theorem Ae{n:Nat}(ih:iE pb ts lv fv ov n){o:Nat}{f:ah}{r:Syn.bE}(hr:Syn.run ts n (.function o f)=some r):qS pb ts lv fv ov (.function o f) r:=by
 obtain⟨m,rfl,hs⟩:=bt hr;have a9:Syn.function ts (Syn.run ts m) o f=some r:=hs;unfold Syn.function at a9;simp only at a9;obtain⟨b,hb,cA⟩:=bw a9;obtain⟨c,hc,cy⟩:=bw cA;obtain⟨d,c2,cx⟩:=bw cy;obtain⟨l1,b1,ct⟩:=bw cx;obtain⟨l2,b0,cs⟩:=bw ct;obtain⟨l3,bx,c1⟩:=bw cs;cases c1
 have bd:=ce b1;have bc:=ce b0;have bb:=ce bx;obtain rfl:=bg b1;obtain rfl:=bg b0;obtain rfl:=bg bx;clear a9 cA cy cx ct cs hs hr b1 b0 bx;intro ho I D dv vf e h hf fn he hm hd;have hl:=h.len;have nl:=iU h.ok fn 3 0;have nf:=fL h.ok fn 3 0;simp only[Tu]at hm;refine ir 47 Tryz.func139 fun w0=>?_
 try simp only[iv,pt]
 refine Un ?_;refine f6 hd [0,1] [sg pb _,D] [] rfl mC rfl (mQ (kind:=3) (slot:=0) (f:=f) h hf fn he Vi) fun v I2 qs c0 ba hq=>?_;obtain⟨dv2,D2,rs,rfl,dy,⟨A2,B2,va2,vb2,rfl,rfl,d7,d2⟩,_,_⟩:=hq;simp only[SS,SU,Tq]at c0 |-;refine Un ?_;refine Um c0 [3,0,1,2] fun c8=>?_;refine ag c8 fun I3 c7 ap d1=>?_;have dj:du I3 vb2 _:=d2.sl ap d1;have k3:=Ui ba ap;refine Un ?_;refine f6 c7 [0,1,2] [sg pb _,D2] [A2] rfl wE rfl (ih m (Tv m) _ _ hb ho (h.le k3) dj nf (dy.le ap) (by simp only[Tu];omega)) fun v I4 qs cB a1 hq=>?_;obtain⟨dv4,D4,rs,rfl,dx,⟨A4,B4,va4,vb4,rfl,rfl,d6,d0⟩,ds,_⟩:=hq;simp only[SS,SU,Tq]at cB |-;refine Un ?_;refine Um cB [2,0,1,3,4] fun c6=>?_;refine ag c6 fun I5 c5 an d5=>?_;have da:db I5 va4 _:=d6.sl an d5;refine Um c5 [2,0,1,3] fun c4=>?_;refine ag c4 fun I6 c3 am dT=>?_;have dd:du I6 vb4 _:=d0.sl (Ui an am) dT;have k6:=Ui k3 (Ui a1 (Ui an am));refine Un ?_;refine f6 c3 [0,1,2] [sg pb _,D4] [A2] rfl BB rfl (ih m (Tv m) _ _ hc ho Vm (h.le k6) dd ds (dx.le (Ui an am)) (by simp only[Tu];omega)) fun v I7 qs a7 a0 hq=>?_;obtain⟨dv7,D7,rs,rfl,dw,⟨A7,B7,va7,vb7,rfl,rfl,d4,dI⟩,dk,_⟩:=hq;simp only[SS,SU,Tq]at a7 |-;refine Un ?_;refine Um a7 [2,0,1,3,4] fun cb=>?_;refine ag cb fun I8 ca ak d3=>?_;have c9:db I8 va7 _:=d4.sl ak d3;refine Um ca [2,0,1,3] fun b6=>?_;refine ag b6 fun I9 b5 aj dA=>?_;have dc:du I9 vb7 _:=dI.sl (Ui ak aj) dA;have k9:=Ui k6 (Ui a0 (Ui ak aj))
 refine Un ?_;refine f6 b5 [0,1,2] [sg pb _,D7] [A2] rfl pp rfl (ih m (Tv m) _ _ c2 ho (h.le k9) dc dk (dw.le (Ui ak aj)) (by simp only[Tu];omega)) fun v ed qs a6 ac hq=>?_;obtain⟨dv10,D10,rs,rfl,ci,⟨A10,B10,va10,vb10,rfl,rfl,cr,cj⟩,cf,_⟩:=hq;simp only[SS,SU,Tq]at a6 |-;refine Un ?_;refine Um a6 [2,0,1,3,4] fun b4=>?_;refine ag b4 fun d9 b3 aa cp=>?_;have cc:db d9 va10 _:=cr.sl aa cp;have k210:=Ui ap (Ui a1 (Ui an (Ui am (Ui a0 (Ui ak (Ui aj (Ui ac aa)))))));have k611:=Ui am (Ui a0 (Ui ak (Ui aj (Ui ac aa))));have k911:=Ui aj (Ui ac aa);refine Un ?_;refine f6 b3 [3,0,1,2] [A2] [sg pb _,D10,B10] rfl eQ rfl (ge (d7.le k210) (db.le da k611) (by unfold aF;omega) bd) fun v ec qs a5 ao hq=>?_;obtain⟨A12,rfl,cn⟩:=hq;simp only[SS,SU,Tq]at a5 |-;refine Un ?_;refine f6 a5 [0,1,2,3] [A12] [sg pb _,D10,B10] rfl eQ rfl (ge cn (db.le c9 (Ui k911 ao)) (by rw[bI];unfold aF;omega) bc) fun v eb qs a4 aS hq=>?_;obtain⟨A13,rfl,cm⟩:=hq;simp only[SS,SU,Tq]at a4 |-;refine Un ?_;refine f6 a4 [0,1,2,3] [A13] [sg pb _,D10,B10] rfl eQ rfl (ge cm (db.le cc (Ui ao aS)) (by rw[bI,bI];unfold aF;omega) bb) fun v ea qs a3 a2 hq=>?_;obtain⟨A14,rfl,cl⟩:=hq;simp only[SS,SU,Tq]at a3 |-;refine Un ?_;refine Um a3 [1,2,0,3] fun b2=>?_
 have k1114:=Ui aa (Ui ao (Ui aS a2));refine ai rfl b2 (r:=[v,vb10]) rfl (Ui k9 (Ui ac k1114)) ⟨dv10,D10,[A14,B10],rfl,?_,⟨A14,B10,v,vb10,rfl,rfl,cl,cj.le k1114⟩,cf,by simp only[bI];unfold aF;omega⟩;simpa[Te]using ci.le k1114
end
open Go Go.Sx Dg Syn
theorem wA:aP Tryz.prog 270:=⟨_,Tryz.func270,rfl,rfl⟩
def NE(g:ay->Option Syn.bE)(r:Syn.bE)(h:ay):Option Syn.bE:=match g h with
 |some x=>if (r.l++x.l).length<=aF then some ⟨r.l++x.l,Syn.joinAll r.f x.f,r.e++x.e⟩else none
 |none=>none
theorem ru(ts:List Tok)(f:ah)(g:ay->Option Syn.bE):bY ts f g=jr (NE g) ⟨[],[],[]⟩ (bk ts f):=rfl
theorem l7{g:ay->Option Syn.bE}{r r':Syn.bE}{h:ay}(e:NE g r h=some r'):∃x,g h=some x/\(r.l++x.l).length<=aF/\r'=⟨r.l++x.l,Syn.joinAll r.f x.f,r.e++x.e⟩:=by
 unfold NE at e;split at e
 ·rename_i x hx;split at e
  ·rename_i hl;cases e
   exact⟨x,hx,hl,rfl⟩
  ·cases e
 ·cases e
theorem sK{α β:Type}{g:α->β->Option α}{z r:α}{x:β}{l:List β}(e:jr g z (x::l)=some r):∃z',g z x=some z'/\jr g z' l=some r:=by
 unfold jr at e;split at e
 ·rename_i b hb;exact⟨b,hb,e⟩
 ·cases e
theorem ls{α β:Type}{g:α->β->Option α}{z r:α}{l:List β}{i:Nat}{x:β}(hx:l[i]?=some x)(e:jr g z (l.drop i)=some r):∃z',g z x=some z'/\jr g z' (l.drop (i+1))=some r:=by
 have aa:i<l.length:=by
  rcases Sw i l.length with h|h
  ·exact h
  ·rw[SF h]at hx;cases hx
 have hd:l.drop i=x::l.drop (i+1):=by
  rw[S5 aa];rw[SC aa]at hx;rw[Tk hx]
 rw[hd]at e;exact sK e
theorem s7{g:ay->Option Syn.bE}:∀{l:List ay} {z r:Syn.bE},jr (NE g) z l=some r->z.e.length<=r.e.length
 | [],z,r,e=>by cases e;exact R7 _
 |x::l,z,r,e=>by
  obtain⟨z',h1,h2⟩:=sK e;obtain⟨y,_,_,rfl⟩:=l7 h1;have:=s7 h2;simp only[Tu]at this;omega
theorem iq(o:Nat)(h:o<=64):IntKind.i64.wrap (((o+1:Nat):Int)-1)=(o:Int):=by
 have:=bQ (a:=o+1) (b:=1) Vi Vi;rw[show ((1:Nat):Int)=1 from rfl]at this;rw[this];omega
section
variable {pb:Nat} {ts:List Tok} {lv fv ov:Value}
def Pd(pb:Nat)(ts:List Tok)(lv fv ov:Value)(o:Nat)(hs:List ay)(g:ay->Option Syn.bE)(r:Syn.bE)(e:List bX)(I0:PH)(x:Nat×Value×Value×Value)(H:PH):Prop:=
 ∃I D A B ri,H=U [I,sg pb (bD lv fv ov x.2.2.2 o),D,A,B]/\Dj [I,sg pb (bD lv fv ov x.2.2.2 o),D,A,B]/\I0.le I/\x.1<=hs.length/\jr (NE g) ri (hs.drop x.1)=some r/\dl I D x.2.2.2 (e++ri.e)/\br I A x.2.1 ri.l/\gP I B x.2.2.1 ri.f/\FN ts.length ri.f/\ri.l.length<=aF
def MX(pb slot:Nat)(vh:Value)(n:Nat)(x:Nat×Value×Value×Value):St:=⟨dn 63 [(0,.v (pt pb)),(2,.v (iv slot)),(8,.v x.2.1),(9,.v x.2.2.1),(16,.v vh),(17,.v (iv n)),(18,.v (iv x.1))],[]⟩
theorem GC{n:Nat}(ih:iE pb ts lv fv ov n){o:Nat}{f:ah}{slot:Nat}{r:Syn.bE}(hr:Syn.run ts n (.inside o f slot)=some r):qS pb ts lv fv ov (.inside o f slot) r:=by
 obtain⟨m,rfl,hs⟩:=bt hr;have c7:bY ts f (jE ts (Syn.run ts m) o slot)=some r:=hs;rw[ru]at c7;clear hs hr;intro ho I D dv vf e h hf fn he hm hd;have hl:=h.len;refine ir 63 Tryz.func270 fun w0=>?_
 try simp only[iv,pt]
 refine Un ?_;refine NB hd [0,1] rfl iS rfl (ps:=[sg pb _]) (F:=[D]) rfl (iN h hf fn) fun v I2 qs c9 a1 hq=>?_;obtain⟨rfl,hH⟩:=hq;obtain⟨ha,hc,rfl,_⟩:=id hH;simp only[SS,SU]at c9 |-;refine Uq ?_;have hN:∀x∈bk ts f,iH ts x:=fun x hx=>bz h.ok fn hx;have ed:=dZ h.ok fn;have d2:=hH;generalize bk ts f=ao at *;refine aT c9 fun dA=>?_;refine aT dA fun dy=>?_;refine Um dy [2,3,0,1] fun dx=>?_;refine aB (fun x=>ao.length-x.1) (MX pb slot (.slice ha ao.length hc) ao.length) (Pd pb ts lv fv ov o ao (jE ts (Syn.run ts m) o slot) r e I2) (0,.slice none 0 0,.slice none 0 0,dv) Us (by simp only[go_sem,Tq,MX]) ?_ ?_
 ·exact⟨I2,D,PH.no,PH.no,⟨[],[],[]⟩,rfl,dx,Uj _,S6 _,c7,by simpa using dl.le he a1,Ow.nil _ _ _ _,Ow.nil _ _ _ _,FN.nil _,S6 _⟩
 rintro⟨i,va,vb,dv⟩ H ⟨I3,D3,A3,B3,ri,rfl,bd,aj,ds,b6,hE,hA,hB,b1,ca⟩ ap;simp only at ds b6 hE hA hB;simp only[MX];have d1:m9 I3 (.slice ha ao.length hc) ao:=d2.le aj;rcases Sw i ao.length with b5|ee
 ·have b3:decide ((i:Int)<(ao.length:Int))=true:=by simp;omega
  have e1:=wrap64 (n:=i+1) Vi;have cb:IntKind.i64.wrap ((i:Int)+1)=((i+1:Nat):Int):=by rw[<-e1];congr 1
  obtain⟨x,hx⟩:∃x,ao[i]?=some x:=⟨_,SC b5⟩;have dc:=Tg hx;have b4:=hN x dc;obtain⟨b,off,cs,rfl,dI,b0⟩:=d1.load jA.len hx;obtain⟨xa,xk,rfl,a6⟩:=dI;obtain⟨r',dd,a3⟩:=ls hx b6;have a2:=s7 a3;obtain⟨y,hy,cf,rfl⟩:=l7 dd;have h3:=h.le (Ui a1 aj);simp only[Tu]at a2 cf;apply RG;simp only[go_sem,b3,iv,pt];refine⟨Vi,?_⟩;refine Qz (l:=[iv x.at',sD xa xk x.cond,rD x.cond,.int .u8 x.kind,.string ⟨⟨x.text⟩⟩]) (v:=.agg #[iv x.at',sD xa xk x.cond,rD x.cond,.int .u8 x.kind,.string ⟨⟨x.text⟩⟩]) rfl (cellsU bd (.head _) b0) (.inl ⟨eS,rfl⟩) ?_;unfold jE at hy;by_cases bc:x.text=hZ
  ·have c6:(x.text == [40])=true:=by rw[bc];decide
   rw[Sb (by simp[bc])]at hy;apply RG;simp only[go_sem,b3,iv,pt,sD,rD,c6,Ud];by_cases a7:o=64
   ·rw[SI a7]at hy;cases hy
    subst a7;refine f6 bd [0,1,2,3] [sg pb _,D3] [A3,B3] rfl gz rfl (ke h3 b4.le a6 hE (by simp[bR]at a2 |-;omega)) fun v I4 qs a5 aa hq=>?_;obtain⟨dv2,D4,rs,rfl,c2,rfl,rfl⟩:=hq;simp only[SS,SU]at a5 |-;apply RG;simp only[go_sem,iv,pt,sD,rD,cb,T7];exact ap (i+1,va,vb,dv2) _ _ V9 Us (by simp only[go_sem,Tq,MX]) ⟨I4,D4,A3,B3,_,rfl,a5,Ui aj aa,b5,a3,by simp only;rw[<-Te];exact c2,by simpa using hA.le aa,hB.le aa,b1,by simpa using ca⟩
   ·rw[Sb a7]at hy;obtain⟨a,dT,ci⟩:=bw hy;obtain⟨g,e2,ht⟩:∃g e1,Syn.take ts a.f iI=(g,e1):=⟨_,_,rfl⟩;rw[ht]at ci;simp only at ci;cases ci
    have cj:=b4.lt (.inl (by rw[bc];decide));have ea:=wrap64 (n:=x.at'+1) Vi;have e2'':IntKind.i64.wrap ((x.at':Int)+1)=((x.at'+1:Nat):Int):=by rw[<-ea];congr 1
    refine f6 bd [0,1,2,3] [sg pb _] [D3,A3,B3] rfl gz rfl (iV (h:=x) (a:=xa) (k:=xk) Vi) fun v I4 qs a5 aa hq=>?_;obtain⟨rfl,rfl,rfl⟩:=hq;simp only[SS,SU]at a5 |-;apply RG;simp only[go_sem,iv,pt,sD,rD,cb,e2'',Ud];refine av a5 (by exact gY) rfl rfl rfl rfl rfl Vm fun nb I5 dw a0 dj=>?_;have d6:du I5 (.slice (some ⟨nb,0,none⟩) 1 1) (bh x):=⟨_,_,rfl,.inr ⟨nb,0,[iv (x.at'+1),sD xa xk x.cond,rD x.cond],rfl,az dj (by simp[aE,Value.cells]) (by simp[aE,Value.cells,iv,sD,rD]),.one ⟨_,_,rfl,a6.le a0⟩⟩⟩;refine Up ?_;simp only[Te,Tu]at a2 hm cf;refine f6 dw [0,1,2,3] [sg pb _,D3] [A3,B3] rfl nU rfl (n9 (ih m (Tv m) _ _ dT) Vi (h3.le a0) d6 (bm b4 cj) (hE.le a0) (by simp only[Tu];omega)) fun v I6 qs c8 cl hq=>?_;obtain⟨dv6,D6,rs,rfl,d4,⟨A6,B6,va6,vb6,rfl,rfl,d9,d5⟩,da,ef⟩:=hq;simp only[SS,SU]at c8 |-;refine Up ?_;refine Um c8 [2,0,1,3,4,5] fun c0=>?_;refine ag c0 fun I7 cB an c5=>?_;have d0:db I7 va6 a.l:=d9.sl an c5;refine Um cB [3,0,1,2,4] fun cA=>?_;have cc:=Ui a0 (Ui cl an);unfold aF at cf ca;refine aY cA (by exact cT) (hA.le cc) d0 (fun{I J c a} h k=>aW.le h k) (fun{I} c a h=>aW.len c a h) (fun{I} c a h=>aW.ones h) rfl rfl rfl rfl Vi (by unfold maxLen;omega) fun na nc I8 A8 cy am d7=>?_;refine Up ?_;refine Um cy [3,0,1,2,4] fun cx=>?_;refine ag cx fun I9 ct ac c4=>?_;have d3:du I9 vb6 a.f:=d5.sl (Ui an (Ui am ac)) c4;have k9:=Ui a1 (Ui aj (Ui cc (Ui am ac)))
    refine f6 ct [1,2,0,3] [sg pb _,D6] [A8,B3] rfl fQ rfl (ii (s:=iI) (h.le k9) d3 da Vm (d4.le (Ui an (Ui am ac))) (by rw[ht];simp only[Tu];omega)) fun v eg qs bx a4 hq=>?_;obtain⟨dv10,D10,rs,rfl,ba,B10,rfl,bb⟩:=hq;rw[ht]at ba bb;have tf:=cN h.ok da (s:=iI) Vm;rw[ht]at tf;simp only at ba bb tf;simp only[SS,SU]at bx |-;refine Up ?_;refine Um bx [2,0,1,3,4] fun cr=>?_;refine ag cr fun ec cp ak c3=>?_;have c1:du ec v g:=bb.sl ak c3;have k311:=Ui cc (Ui am (Ui ac (Ui a4 ak)));refine f6 cp [3,0,1,2] [B3] [sg pb _,D10,A8] rfl dp rfl (b7 (N:=ts.length) Vi (hB.le k311) b1 c1 tf) fun v eb qs a9 aS hq=>?_;obtain⟨B12,rfl,b2⟩:=hq;simp only[SS,SU]at a9 |-;refine Up ?_;refine Qz (l:=[.int .i64 ((o+1:Nat):Int)]) rfl (cellsU a9 (.tail _ (.tail _ (.head _))) (aU (by simp[bD]) rfl)) (.inr ⟨mF,rfl⟩) ?_;apply RG;simp only[go_sem,iv,pt,sD,rD,iq o ho];refine Um a9 [1,2,3,0] fun cn=>?_;refine cG cn rfl rfl rfl rfl rfl (by exact Gn) (by simp) fun cm=>?_;apply RG;simp only[go_sem,iv,pt,sD,rD,cb];obtain⟨ta,tc,rfl⟩:=b2.shape;exact ap (i+1,.slice na (ri.l++a.l).length nc,.slice ta (Syn.joinAll ri.f g).length tc,dv10) _ _ V9 Us (by simp only[go_sem,Tq,MX]) ⟨eb,D10,A8,B12,_,rfl,cm,Ui aj (Ui k311 aS),b5,a3,by simpa[Te]using ba.le (Ui ak aS),br.le d7 (Ui ac (Ui a4 (Ui ak aS))),b2,b1.joinAll tf,by simp only[Tu];unfold aF;omega⟩
  ·have c6:(x.text == [40])=false:=by
    rw[Uf];exact bc
   rw[SI bc]at hy;cases hy
   apply RG;simp only[go_sem,b3,iv,pt,sD,rD,c6,T7];refine f6 bd [0,1,2,3] [sg pb _,D3] [A3,B3] rfl iJ rfl (kN h3 b4.le a6 hE (by simp[bR]at a2 |-;omega)) fun v I4 qs a5 aa hq=>?_;obtain⟨dv2,D4,rs,rfl,c2,rfl⟩:=hq;simp only[SS,SU]at a5 |-;apply RG;simp only[go_sem,iv,pt,sD,rD,cb];exact ap (i+1,va,vb,dv2) _ _ V9 Us (by simp only[go_sem,Tq,MX]) ⟨I4,D4,A3,B3,_,rfl,a5,Ui aj aa,b5,a3,by simp only;rw[<-Te];exact c2,by simpa using hA.le aa,hB.le aa,b1,by simpa using ca⟩
 ·have dk:i=ao.length:=by omega
  subst dk;have b3:=Z6 ao.length;rw[T4]at b6;cases b6
  apply RG;simp only[go_sem,b3,iv,pt];exact ai rfl bd (r:=[va,vb]) rfl (Ui a1 aj) ⟨_,D3,[A3,B3],rfl,hE,⟨A3,B3,va,vb,rfl,rfl,hA,hB⟩,b1,ca⟩
end
open Go Go.Sx Dg Syn
theorem v7:aP Tryz.prog 135:=⟨_,Tryz.func135,rfl,rfl⟩
section
variable {pb:Nat} {ts:List Tok} {lv fv ov:Value}
def F9(pb:Nat)(ts:List Tok)(lv fv ov:Value)(n:Nat)(top:Bool)(o:Nat)(I0:PH)(vr:Value):Prop:=
 ∃fid first cap,vr=.func (.func fid) first cap/\aP Tryz.prog fid/\∀m,m<n->∀(x:ay) a,uV (Syn.run ts m) top o x=some a->
  ∀{I D:PH} {dv:Value} {xa:Option Addr} {xk:Nat} {e:List bX},I0.le I->vF I ts lv fv->iH ts x->cu I (.agg #[sD xa xk x.cond,rD x.cond]) x.cond->dl I D dv e->e.length+a.e.length<=pY->
   aO Tryz.prog fid (first++[uh xa xk x].toArray++cap) I [sg pb (bD lv fv ov dv o),D] (PP pb lv fv ov o (e++a.e) (MW ts a))
def PZ(pb:Nat)(ts:List Tok)(lv fv ov:Value)(o:Nat)(I:PH)(v:Value)(is:ay->Bool):Prop:=∃f first cap,v=.func (.func f) first cap/\aP Tryz.prog f/\∀J,I.le J->vF J ts lv fv->∀(dv:Value) (h:ay) (a:Option Addr) (k:Nat),cu J (.agg #[sD a k h.cond,rD h.cond]) h.cond->
 aO Tryz.prog f (first++[uh a k h].toArray++cap) J [sg pb (bD lv fv ov dv o)] fun v I2 qs=>qs=[sg pb (bD lv fv ov dv o)]/\v=.bool (is h)
theorem Es.toP{o:Nat}{I:PH}{v:Value}{is:ay->Bool}(h:Es I v is):PZ pb ts lv fv ov o I v is:=by
 obtain⟨f,first,cap,rfl,g,c⟩:=h;refine⟨f,first,cap,rfl,g,fun J hJ _ dv x a k hr hd=>?_⟩;refine((c J hJ x a k hr).frame (F:=[sg pb (bD lv fv ov dv o)]) hd).mono fun v H2 ⟨I2,qs,e1,e2,e3,e4,e5⟩=>?_;subst e4;exact⟨I2,_,e1,e2,e3,rfl,e5⟩
structure Q2 where
 m:Nat
 fl:Nat
 vf:Value
 vl:Value
 vo:Value
 dv:Value
def Ov(pb:Nat)(vi vr:Value)(x:Q2):St:=⟨dn 62 [(0,.v (pt pb)),(1,.v x.vf),(2,.v vi),(3,.v vr),(10,.v x.vl),(11,.v x.vo)],[]⟩
def Left(ts:List Tok)(top:Bool)(o:Nat)(r:Syn.bE)(m:Nat)(f:ah)(l:List Nd)(out:ah)(ee:List bX):Prop:=
 ∃b,Syn.run ts m (.seqL top o f l out)=some b/\b.l=r.l/\b.f=r.f/\ee++b.e=r.e
def RA(pb:Nat)(ts:List Tok)(lv fv ov:Value)(top:Bool)(n o:Nat)(r:Syn.bE)(e:List bX)(I0:PH)(x:Q2)(H:PH):Prop:=
 ∃I D A B f l out ee,H=U [I,sg pb (bD lv fv ov x.dv o),D,A,B]/\Dj [I,sg pb (bD lv fv ov x.dv o),D,A,B]/\I0.le I/\x.m<=n/\x.fl=f.length/\Left ts top o r x.m f l out ee/\
  du I x.vf f/\FN ts.length f/\dl I D x.dv (e++ee)/\br I A x.vl l/\gP I B x.vo out/\FN ts.length out/\l.length<=aF
def MM(pb:Nat)(vi vr:Value)(vh:Value)(n:Nat)(x:Nat×Value×Value×Value×Value):St:=⟨dn 62 [(0,.v (pt pb)),(1,.v x.2.1),(2,.v vi),(3,.v vr),(10,.v x.2.2.1),(11,.v x.2.2.2.1),(23,.v vh),(24,.v (iv n)),(25,.v (iv x.1))],[]⟩
def Rk(pb:Nat)(ts:List Tok)(lv fv ov:Value)(top:Bool)(m o:Nat)(r:Syn.bE)(e:List bX)(hs:List ay)(I0:PH)(f0:ah)(l0:List Nd)(out0:ah)(ee0:List bX)(x:Nat×Value×Value×Value×Value)(H:PH):Prop:=
 ∃I D A B C f l out ee,H=U [I,sg pb (bD lv fv ov x.2.2.2.2 o),D,A,B,C]/\Dj [I,sg pb (bD lv fv ov x.2.2.2.2 o),D,A,B,C]/\I0.le I/\x.1<=hs.length/\
  gP I C x.2.1 f/\FN ts.length f/\dl I D x.2.2.2.2 (e++ee)/\br I A x.2.2.1 l/\gP I B x.2.2.2.1 out/\FN ts.length out/\l.length<=aF/\
  ((x.1=0/\f=[]/\l=l0/\out=out0/\ee=ee0)\/(0<x.1/\Left ts top o r m ((hs.drop x.1).foldl joinH f) l out ee))
theorem Left.le{top:Bool}{o m:Nat}{r:Syn.bE}{f out:ah}{l:List Nd}{ee:List bX}(h:Left ts top o r m f l out ee):ee.length<=r.e.length:=by
 obtain⟨b,_,_,_,h⟩:=h;rw[<-h];simp
theorem Fb{α:Type}{l:List α}{i:Nat}{x:α}(hx:l[i]?=some x):l.drop i=x::l.drop (i+1):=by
 have aa:i<l.length:=by
  rcases Sw i l.length with h|h
  ·exact h
  ·rw[SF h]at hx;cases hx
 rw[S5 aa];rw[SC aa]at hx;rw[Tk hx]
theorem Dz{top:Bool}{o m:Nat}{r:Syn.bE}{f out:ah}{l:List Nd}{ee:List bX}{x:ay}{hs:List ay}(h:Left ts top o r m f l out ee)(hh:bk ts f=x::hs):∃m',m=m'+1/\
  (ju ts top x=true->Left ts top o r m' (hs.foldl joinH []) l (joinH out x) ee)/\
  (ju ts top x=false->∃a,uV (Syn.run ts m') top o x=some a/\(l++a.l).length<=aF/\Left ts top o r m' (hs.foldl joinH (Syn.joinAll [] a.f)) (l++a.l) out (ee++a.e)):=by
 obtain⟨b,hb,h1,h2,h3⟩:=h;obtain⟨m',rfl,am⟩:=bt hb;have aa:Syn.seqL ts (Syn.run ts m') top o f l out=some b:=am;unfold Syn.seqL at aa;rw[hh]at aa;simp only at aa;refine⟨m',rfl,fun hx=>?_,fun hx=>?_⟩
 ·rw[hx]at aa;exact⟨b,aa,h1,h2,h3⟩
 ·rw[Sb (by rw[hx];simp)]at aa;obtain⟨a,ha,ak⟩:=bw aa;obtain⟨u,hu,aj⟩:=bw ak;obtain⟨b',an,ac⟩:=bw aj;cases ac
  exact⟨a,ha,m0 hu,b',an,h1,h2,by rw[Te];exact h3⟩
theorem yZ{top:Bool}{o m:Nat}{r:Syn.bE}{f out:ah}{l:List Nd}{ee:List bX}(h:Left ts top o r m f l out ee)(hh:bk ts f=[]):l=r.l/\out=r.f/\ee=r.e/\∃m',m=m'+1:=by
 obtain⟨b,hb,h1,h2,h3⟩:=h;obtain⟨m',rfl,ac⟩:=bt hb;have aa:Syn.seqL ts (Syn.run ts m') top o f l out=some b:=ac;unfold Syn.seqL at aa;rw[hh]at aa;simp only at aa;cases aa
 exact⟨h1,h2,by simpa using h3,m',rfl⟩
theorem Fm{n:Nat}{top:Bool}{o:Nat}{f:ah}{r:Syn.bE}(hr:Syn.run ts n (.seqL top o f [] [])=some r){I D:PH}{dv vf vi vr:Value}{e:List bX}(hi:PZ pb ts lv fv ov o I vi (ju ts top))(hv:F9 pb ts lv fv ov n top o I vr)(h:vF I ts lv fv)(hf:du I vf f)(fn:FN ts.length f)(he:dl I D dv e)(hm:e.length+r.e.length<=pY):
  aO Tryz.prog 135 #[pt pb,vf,vi,vr] I [sg pb (bD lv fv ov dv o),D] (PP pb lv fv ov o (e++r.e) (MW ts r)):=by
 intro hd;have hl:=h.len;obtain⟨fr,frst,fcap,rfl,gr,cr⟩:=id hv;obtain⟨fi,ifirst,icap,rfl,gi,ci⟩:=id hi;refine ir 62 Tryz.func135 fun w0=>?_
 try simp only[iv,pt]
 refine Un ?_;refine aT hd fun ea=>?_;refine aT ea fun d9=>?_;refine Um d9 [2,3,0,1] fun d7=>?_;refine aB (fun x=>2*x.m+min x.fl 1) (Ov pb (.func (.func fi) ifirst icap) (.func (.func fr) frst fcap)) (RA pb ts lv fv ov top n o r e I) ⟨n,f.length,vf,.slice none 0 0,.slice none 0 0,dv⟩ Us (by simp only[go_sem,Tq,Ov]) ?_ ?_
 ·exact⟨I,D,PH.no,PH.no,f,[],[],[],rfl,d7,Uj _,R7 _,rfl,⟨r,hr,rfl,rfl,rfl⟩,hf,fn,by simpa using he,Ow.nil _ _ _ _,Ow.nil _ _ _ _,FN.nil _,S6 _⟩
 rintro⟨m,fl,vf,vl,vo,dv⟩ H ⟨I3,D3,A3,B3,f,l,out,ee,rfl,dc,bb,c6,rfl,hL,cm,fn3,hE,hA,hB,ds,dj⟩ a9;simp only at c6 hL cm hE hA hB;simp only[Ov];obtain⟨fa,fc,rfl,_⟩:=id cm;have h3:=h.le bb;rcases TI f.length with h0|h0
 ·
  have d4:f=[]:=List.length_eq_zero_iff.1 h0;have c4:decide ((f.length:Int)>0)=false:=by simp;omega
  obtain⟨rfl,rfl,rfl,_⟩:=yZ hL (by rw[d4];rfl);apply RG;simp only[go_sem,iv,pt,c4];exact ai rfl dc (r:=[vl,vo]) rfl bb ⟨_,D3,[A3,B3],rfl,hE,⟨A3,B3,vl,vo,rfl,rfl,hA,hB⟩,ds,dj⟩
 ·have c4:decide ((f.length:Int)>0)=true:=by simp;omega
  apply RG;simp only[go_sem,iv,pt,c4];refine f6 dc [0,1,2,3] [sg pb _] [D3,A3,B3] rfl iS rfl (iN h3 cm fn3) fun v I4 qs da a6 hq=>?_;obtain⟨rfl,hH⟩:=hq;obtain⟨ha,hc,rfl,_⟩:=id hH;simp only[SS,SU]at da |-;refine Uz ?_;have hN:∀x∈bk ts f,iH ts x:=fun x hx=>bz h.ok fn3 hx;have eo:=dZ h.ok fn3;refine aT da fun d6=>?_;refine Um d6 [1,2,3,4,0] fun d5=>?_;refine aB (fun x=>(bk ts f).length-x.1) (MM pb (.func (.func fi) ifirst icap) (.func (.func fr) frst fcap) (.slice ha (bk ts f).length hc) (bk ts f).length) (Rk pb ts lv fv ov top (m-1) o r e (bk ts f) I4 f l out ee) (0,.slice none 0 0,vl,vo,dv) Us (by simp only[go_sem,Tq,MM]) ?_ ?_
  ·exact⟨I4,D3,A3,B3,PH.no,[],l,out,ee,rfl,d5,Uj _,S6 _,Ow.nil _ _ _ _,FN.nil _,hE.le a6,hA.le a6,hB.le a6,ds,dj,.inl ⟨rfl,rfl,rfl,rfl,rfl⟩⟩
  rintro⟨i,v1,vl,vo,dv⟩ H ⟨I5,D5,A5,B5,C5,f5,l5,out5,ee5,rfl,cc,aS,d0,bx,fn5,bd,b0,bc,ak,a4,ap⟩ am;simp only at d0 bx bd b0 bc ap;simp only[MM];have ed:m9 I5 (.slice ha (bk ts f).length hc) (bk ts f):=hH.le aS;have k5:=Ui bb (Ui a6 aS);have h5:=h.le k5;have c7:∀q:Nat,q<=aF->(q+0)*96<=140737488355328:=fun q hq=>by unfold aF at hq;omega
  obtain⟨m',rfl⟩:∃m',m=m'+1:=by
   obtain⟨b,hb,_⟩:=hL;obtain⟨m',e,_⟩:=bt hb;exact⟨m',e⟩
  have dI:=fn5.len;have dA:=ak.len;rcases Sw i (bk ts f).length with cb|ep
  ·have b4:decide ((i:Int)<((bk ts f).length:Int))=true:=by simp;omega
   have e1:=wrap64 (n:=i+1) Vi;have ek:IntKind.i64.wrap ((i:Int)+1)=((i+1:Nat):Int):=by rw[<-e1];congr 1
   obtain⟨x,hx⟩:∃x,(bk ts f)[i]?=some x:=⟨_,SC cb⟩;have dy:=Tg hx;have b6:=hN x dy;have b1:=b6.le;obtain⟨b,off,cs,rfl,eb,b3⟩:=ed.load jA.len hx;obtain⟨xa,xk,rfl,a5⟩:=eb;have c9:=Fb hx;obtain⟨c1,c2,rfl⟩:=bx.shape;apply RG;simp only[go_sem,b4,iv,pt];refine⟨Vi,?_⟩;refine Qz (l:=[iv x.at',sD xa xk x.cond,rD x.cond,.int .u8 x.kind,.string ⟨⟨x.text⟩⟩]) (v:=.agg #[iv x.at',sD xa xk x.cond,rD x.cond,.int .u8 x.kind,.string ⟨⟨x.text⟩⟩]) rfl (cellsU cc (.head _) b3) (.inl ⟨eS,rfl⟩) ?_;rcases TI i with c8|c8
   ·subst c8;rcases ap with ⟨_,rfl,rfl,rfl,rfl⟩|⟨cj,_⟩
    ·obtain⟨m2,em,sy,sn⟩:=Dz hL c9;obtain rfl:m'=m2:=by omega
     have e01:IntKind.i64.wrap ((0:Int)+1)=((1:Nat):Int):=by decide
     apply RG;simp only[go_sem,b4,iv,pt,sD,rD,TJ,gt_iff_lt,Int.lt_irrefl,decide_false];refine f6 cc [0,1,2,3,4] [sg pb _] [D5,A5,B5,C5] rfl gi rfl (ci I5 k5 h5 dv x xa xk a5) fun v I6 qs a3 ac hq=>?_;obtain⟨rfl,rfl⟩:=hq;simp only[SS,SU]at a3 |-;cases ca:ju ts top x
     ·obtain⟨a,ha,dd,ba⟩:=sn ca;have cl:=ba.le;simp only[Tu]at dd cl;apply RG;simp only[go_sem,iv,pt,ca,sD,rD];refine f6 a3 [0,1,2,3,4] [sg pb _,D5] [A5,B5,C5] rfl gr rfl (cr m' Vi x a ha (Ui k5 ac) (h5.le ac) b6 (a5.le ac) (bd.le ac) (by simp only[Tu];omega)) fun v I7 qs aj aa hq=>?_;obtain⟨dv7,D7,rs,rfl,ef,⟨A7,B7,va7,vb7,rfl,rfl,eh,cf⟩,dw,eq⟩:=hq;simp only[SS,SU]at aj |-;refine Up ?_;refine Um aj [2,0,1,3,4,5,6] fun a2=>?_;refine ag a2 fun I8 cA ao c3=>?_;have ec:db I8 va7 a.l:=eh.sl ao c3;refine Um cA [3,0,1,2,4,5] fun cy=>?_;have c5:=Ui ac (Ui aa ao);unfold aF at dd a4;refine aY cy (by exact cT) (b0.le c5) ec (fun{I J c a} h k=>aW.le h k) (fun{I} c a h=>aW.len c a h) (fun{I} c a h=>aW.ones h) rfl rfl rfl rfl Vi (by unfold maxLen;omega) fun na nc I9 A9 cx a1 eg=>?_;refine Up ?_;refine Um cx [3,0,1,2,4,5] fun ct=>?_;refine ag ct fun en cp an c0=>?_;have cB:du en vb7 a.f:=cf.sl (Ui ao (Ui a1 an)) c0;have k510:=Ui c5 (Ui a1 an);refine f6 cp [4,0,1,2,3] [C5] [A9,sg pb _,D7,B5] rfl dp rfl (b7 (N:=ts.length) Vi (bx.le k510) (FN.nil _) cB dw) fun v el qs b2 a0 hq=>?_;obtain⟨C11,rfl,a7⟩:=hq;obtain⟨d1,d2,rfl⟩:=a7.shape;simp only[SS,SU]at b2 |-;apply RG;simp only[go_sem,iv,pt,sD,rD,e01];refine Um b2 [2,3,1,4,0] fun cn=>?_;have k511:=Ui k510 a0
      exact am (0+1,.slice d1 (Syn.joinAll [] a.f).length d2,.slice na (l5++a.l).length nc,vo,dv7) _ _ V9 Us (by simp only[go_sem,Tq,MM]) ⟨el,D7,A9,B5,C11,_,_,_,_,rfl,cn,Ui aS k511,cb,a7,(FN.nil _).joinAll dw,by rw[<-Te];exact ef.le (Ui ao (Ui a1 (Ui an a0))),br.le eg (Ui an a0),bc.le k511,ak,by simp only[Tu];unfold aF;omega,.inr ⟨by simp only;omega,ba⟩⟩
     ·apply RG;simp only[go_sem,iv,pt,ca,sD,rD];obtain⟨o1,o2,rfl⟩:=bc.shape;refine f6 a3 [3,0,1,2,4] [B5] [sg pb _,D5,A5,C5] rfl df rfl (bo (a:=x.at') (bc.le ac) (a5.le ac) ak.ok.2 (fun t ht=>by have:=ak.le t ht;omega) Vi Vi) fun v I7 qs aj aa hq=>?_;obtain⟨B7,rfl,cf⟩:=hq;obtain⟨p1,p2,rfl⟩:=cf.shape;simp only[SS,SU]at aj |-;apply RG;simp only[go_sem,iv,pt,sD,rD,e01];refine Um aj [1,2,3,0,4] fun a2=>?_;have b5:=Ui ac aa;exact am (0+1,.slice c1 ([]:ah).length c2,vl,.slice p1 (Syn.join out5 x.at' x.cond).length p2,dv) _ _ V9 (ae (by simp only[go_sem,Tq,iv,pt,S9])) (by simp only[go_sem,Tq,MM]) ⟨I7,D5,A5,B7,C5,_,_,_,_,rfl,a2,Ui aS b5,cb,bx.le b5,FN.nil _,bd.le b5,b0.le b5,cf,ak.join b1 b6.ok,a4,.inr ⟨by simp only;omega,sy ca⟩⟩
    ·omega
   ·rcases ap with ⟨cj,_⟩|⟨_,ba⟩
    ·omega
    ·have ei:decide ((i:Int)>0)=true:=by simp;omega
     apply RG;simp only[go_sem,b4,iv,pt,sD,rD,ei];refine f6 cc [4,0,1,2,3] [C5] [sg pb _,D5,A5,B5] rfl df rfl (bo (a:=x.at') bx a5 fn5.ok.2 (fun t ht=>by have:=fn5.le t ht;omega) Vi Vi) fun v I7 qs aj aa hq=>?_;obtain⟨C7,rfl,dx⟩:=hq;obtain⟨p1,p2,rfl⟩:=dx.shape;simp only[SS,SU]at aj |-;apply RG;simp only[go_sem,iv,pt,sD,rD,ek];refine Um aj [1,2,3,4,0] fun a2=>?_;rw[c9,Sj]at ba;exact am (i+1,.slice p1 (Syn.join f5 x.at' x.cond).length p2,vl,vo,dv) _ _ V9 Us (by simp only[go_sem,Tq,MM]) ⟨I7,D5,A5,B5,C7,_,_,_,_,rfl,a2,Ui aS aa,cb,dx,fn5.join b1 b6.ok,bd.le aa,b0.le aa,bc.le aa,ak,a4,.inr ⟨by simp only;omega,ba⟩⟩
  ·have dT:i=(bk ts f).length:=by omega
   subst dT;have b4:decide (((bk ts f).length:Int)<((bk ts f).length:Int))=false:=by simp
   apply RG;simp only[go_sem,b4,iv,pt];refine Um cc [4,0,1,2,3] fun a3=>?_;refine ag (c:=.st _) a3 fun I6 aj aa a7=>?_;have dk:du I6 v1 f5:=bx.sl aa a7;rcases ap with ⟨cj,rfl,rfl,rfl,rfl⟩|⟨cj,ba⟩
   ·have d3:bk ts f=[]:=List.length_eq_zero_iff.1 cj;obtain⟨e2,e3,e4,_⟩:=yZ hL d3;refine a9 ⟨m'+1,0,v1,vl,vo,dv⟩ _ _ V9 Us (by simp only[go_sem,Tq,Ov]) ⟨I6,D5,A5,B5,[],l5,out5,ee5,rfl,aj,Ui k5 aa,c6,rfl,⟨⟨l5,out5,[]⟩,rfl,e2,e3,by simpa using e4⟩,dk,FN.nil _,bd.le aa,b0.le aa,bc.le aa,ak,a4⟩
   ·rw[T4,List.foldl_nil]at ba;refine a9 ⟨m',f5.length,v1,vl,vo,dv⟩ _ _ V9 Us (by simp only[go_sem,Tq,Ov]) ⟨I6,D5,A5,B5,f5,l5,out5,ee5,rfl,aj,Ui k5 aa,by simp only;omega,rfl,ba,dk,fn5,bd.le aa,b0.le aa,bc.le aa,ak,a4⟩
end
end Go.Proofs.YtfaclfkpnmcmlaaGreatDoor
namespace Go.Sx
open Go
section
variable {P:Program} {ol:List Oper} {fr:gW} {str:gR} {K:St->PH->Prop}
theorem vM:∀(l m:List Nat) {σ:St} {H:PH},VD P ol fr str K (l++m) σ H<->VD P ol fr str (VD P ol fr str K m) l σ H
 | [],m,σ,H=>Iff.rfl
 |i::l,m,σ,H=>by
  have e:VD P ol fr str K (l++m)=VD P ol fr str (VD P ol fr str K m) l:=by
   funext σ' H';exact propext (vM l m)
  simp only[SS,VD];cases ol[i]? with
  |none=>simp only[e]
  |some o=>simp only[e]
structure Inv(ops:Array Oper)(κ:List Nat)(listed:Array Bool):Prop where
 size:listed.size=ops.size
 mem:∀i,i∈κ<->i<ops.size/\listed.getD i true=false
 closed:∀y o,ops.toList[y]?=some o->listed.getD y false=true->∀z∈iF o,listed.getD z false=true
theorem Inv.perm{ops:Array Oper}{κ κ':List Nat}{listed:Array Bool}(h:Inv ops κ listed)(hp:∀i,i∈κ'<->i∈κ):Inv ops κ' listed:=⟨h.size,fun i=>(hp i).trans (h.mem i),h.closed⟩
theorem Inv.step{ops:Array Oper}{l1 l2:List Nat}{i:Nat}{listed:Array Bool}(h:Inv ops (l1++i::l2) listed)(hi:i∉l1++l2){oi:Oper}(aa:ops.toList[i]?=some oi)(hd:∀z∈iF oi,listed.getD z false=true):Inv ops (l1++l2) (listed.setIfInBounds i true):=by
 have h1:=((h.mem i).1 (SN _ (.head _))).1;have ak:=h.size;have getset:∀(j:Nat) (d:Bool),(listed.setIfInBounds i true).getD j d=if i=j then (if i<listed.size then true else d)else listed.getD j d:=by
  intro j d;rw[Sa,S0];by_cases e:i=j
  ·subst e;by_cases hl:i<listed.size<;>simp[hl]
  ·simp[e,Sa]
 refine⟨by simp[h.size],fun j=>?_,fun y o ho hl z hz=>?_⟩
 ·rw[getset];by_cases e:i=j
  ·subst e;simp only[R9,SI (show i<listed.size by omega)];exact⟨fun ac=>absurd ac hi,fun hh=>by cases hh.2⟩
  ·simp only[Sb e];rw[<-h.mem j];constructor
   ·intro hj;rcases List.mem_append.1 hj with hj|hj
    ·exact SM _ hj
    ·exact SN _ (.tail _ hj)
   ·intro hj;rcases List.mem_append.1 hj with hj|hj
    ·exact SM _ hj
    ·rcases List.mem_cons.1 hj with rfl|hj
     ·exact absurd rfl e
     ·exact SN _ hj
 ·rw[getset]at hl |-;have aj:i<listed.size:=by omega
  by_cases ez:i=z
  ·subst ez;simp[aj]
  ·simp only[Sb ez];by_cases ey:i=y
   ·subst ey;rw[aa]at ho;cases ho;exact hd z hz
   ·simp only[Sb ey]at hl;exact h.closed y o ho hl z hz
theorem vN{ops:Array Oper}(listed:Array Bool)(i:Nat):i∈Region.ready .any ops listed<->i<ops.size/\listed.getD i true=false/\∃o,ops[i]?=some o/\∀z∈iF o,listed.getD z false=true:=by
 simp only[Region.ready,SY,List.mem_range,SG,SR];constructor
 ·rintro⟨h1,h2,h3⟩;refine⟨h1,h2,?_⟩;cases ho:ops[i]? with
  |none=>rw[ho]at h3;cases h3
  |some o=>
   rw[ho]at h3;simp only[So,SE]at h3;refine⟨o,rfl,fun z hz=>?_⟩;simp only[iF,SZ,SY]at hz;obtain⟨e,⟨he,hb⟩,rfl⟩:=hz;have:=Array.all_eq_true'.1 h3 e (by simpa using he);simpa[hb]using this
 ·rintro⟨h1,h2,o,ho,h3⟩;refine⟨h1,h2,?_⟩;rw[ho];simp only[So,SE];refine Array.all_eq_true'.2 fun e he=>?_;cases hb:Region.binds .any e with
  |false=>rfl
  |true=>
   have:=h3 e.on (by simp only[iF,SZ,SY];exact⟨e,⟨by simpa using he,hb⟩,rfl⟩);simpa using this
theorem Di{ops:Array Oper}{cl:List (List Nat)}(ak:CT ops.toList cl=true){κ:List Nat}{listed:Array Bool}(h:Inv ops κ listed)(hr:Region.ready .any ops listed=[]):κ=[]:=by
 have am:=h.size;have sizeol:ops.size=ops.toList.length:=(Sk).symm;have getol:∀i:Nat,ops[i]?=ops.toList[i]?:=fun i=>by simp
 have key:∀n i,i<n->i<ops.size->listed.getD i true=true:=by
  intro n
  induction n with
  |zero=>intro i h;omega
  |succ n ih=>
   intro i hi ac;cases hl:listed.getD i true with
   |true=>rfl
   |false=>
    exfalso;have aa:ops[i]?=some ops[i]:=Sr ac;have:i∈Region.ready .any ops listed:=(vN listed i).2 ⟨ac,hl,ops[i],aa,fun z hz=>by
     have h1:=List.all_eq_true.1 ak i (List.mem_range.2 Vi);rw[<-getol i,aa]at h1;simp only[SG]at h1;have aj:=List.all_eq_true.1 h1.1 z hz;simp only[SX]at aj;have:=ih z Vi Vi;rw[Sa]at this |-;rw[Sr Vi]at this |-;simpa using this⟩
    rw[hr]at this;cases this
 cases κ with
 |nil=>rfl
 |cons i l=>
  exfalso;have:=(h.mem i).1 (.head _);rw[key (i+1) i Vi this.1]at this;exact Bool.noConfusion this.2
def qJ(ol:List Oper)(cl:List (List Nat))(fr:gW)(str:gR)(i:Nat)(l:List Nat):Bool:=
 l.all fun x=>(cl.getD i []).contains x || match ol[x]?,ol[i]? with
  |some ox,some oi=>AP ol (fr.at' x) (str.at' x) (str.at' i) ox oi
  |_,_=>false
theorem Dy{n0:Nat}{H0:PH}{w0:World}(hn:n0=w0.heap.size){ops:Array Oper}{cl:List (List Nat)}(a5:CT ops.toList cl=true){p q:Nat}{r1 r2:List Nat}(ci:p≠q)
  (b4:r1.all (fun i=>(cl.getD i []).contains p || (cl.getD i []).contains q)=true) (hr:∀i,i∈r2<->i∈r1) :
  ∀(fR:Nat) (κ:List Nat) (listed:Array Bool) {σ:St} {H:PH} {a:Act} {w:World},(κ++p::q::r1).length<=fR->(κ++q::p::r2).length<=fR->
   bU ops.toList cl fr str (κ++q::r1)=true->bU ops.toList cl fr str (κ++p::r2)=true->qJ ops.toList cl fr str p κ=true->qJ ops.toList cl fr str q κ=true->bU ops.toList cl fr str κ=true->p∉κ++q::r1->q∉κ++p::r2->
   Inv ops (κ++p::q::r1) listed->m6 σ.bx->VD P ops.toList fr str (fun σ H=>VD P ops.toList fr str K (p::q::r1) σ H/\VD P ops.toList fr str K (q::p::r2) σ H) κ σ H->cS H0 w0 H w->G n0 σ H a w->wpAny P .any ops (QK n0 H0 w0 K) fR listed a w:=by
 have getol:∀i:Nat,ops[i]?=ops.toList[i]?:=fun i=>by simp
 have notl:∀{listed:Array Bool} {x:Nat},listed.getD x false=true->listed.getD x true=false->False:=by
  intro listed x h1 h2;rw[Sa]at h1 h2;cases hg:listed[x]? with
  |none=>rw[hg]at h1;cases h1
  |some b=>rw[hg]at h1 h2;simp only[SE]at h1 h2;rw[h1]at h2;cases h2
 intro fR
 induction fR with
 |zero=>intro κ listed σ H a w ac;simp at ac
 |succ fR ih=>
  intro κ listed σ H a w ac ak ba a9 b0 bd b5 a2 bb hI hs h st g;refine⟨fun hr=>?_,fun i hi=>?_⟩
  ·have:=Di a5 hI hr;simp at this
  ·obtain⟨h1,h2,oi,a1,aj⟩:=(vN listed i).1 hi;have aa:ops.toList[i]?=some oi:=by rw[<-getol];exact a1
   have cb:i∈κ++p::q::r1:=(hI.mem i).2 ⟨h1,h2⟩;have anc:=nz a5 (L:=fun x=>listed.getD x false=true) hI.closed (i+1) i Vi oi aa aj;have bub:∀(l:List Nat),(∀x∈l,x∈κ)->qJ ops.toList cl fr str i l=true->∀x∈l,∃ox,ops.toList[x]?=some ox/\AP ops.toList (fr.at' x) (str.at' x) (str.at' i) ox oi=true:=by
    intro l hl hb x hx;have:=List.all_eq_true.1 hb x hx;simp only[SQ]at this;rcases this with hc|hc
    ·exact(notl (anc x (by simpa using hc)) ((hI.mem x).1 (SM _ (hl x hx))).2).elim
    ·split at hc
     ·rename_i ox oy e1 e2;rw[aa]at e2;cases e2;exact⟨ox,e1,hc⟩
     ·cases hc
   have fin:∀(u v:Nat) (rr:List Nat),i=u->(∀x,x∈κ++u::v::rr<->x∈κ++p::q::r1)->(κ++u::v::rr).length<=fR+1->bU ops.toList cl fr str (κ++v::rr)=true->qJ ops.toList cl fr str u κ=true->u∉κ++v::rr->VD P ops.toList fr str (VD P ops.toList fr str K (u::v::rr)) κ σ H->
     wpOp P ops (QK n0 H0 w0 K) i (wpAny P .any ops (QK n0 H0 w0 K) fR (listed.setIfInBounds i true)) a w:=by
    intro u v rr e a4 ac hp hb a3 hv;subst e;have cc:=hI.perm a4;have b3:=(vM (K:=K) κ (i::v::rr)).2 hv;have b1:=xx (K:=K) (P:=P) aa κ (v::rr) hs (bub κ (fun _ h=>h) hb) b3;simp only[VD,aa]at b1;have ao:=(it (K':=fun σ' H'=>m6 σ'.bx/\VD P ops.toList fr str K (κ++v::rr) σ' H') (fun σ' H' ap h'=>⟨ap,h'⟩) hs b1).toV;have an:=cc.step a3 aa aj;refine jC a1 hn (fun σ' H' a' w' hk st' g'=>?_) ao st g;exact uT hn rfl a5 fR (κ++v::rr) _ (by simp at ac |-;omega) an.size hp an.mem an.closed hk.1 hk.2 st' g'
   have am:∀x,x∈κ++q::p::r2<->x∈κ++p::q::r1:=fun x=>by
    simp only[Ti,Su,hr];constructor
    ·rintro(h|h|h|h)
     ·exact .inl h
     ·exact .inr (.inr (.inl h))
     ·exact .inr (.inl h)
     ·exact .inr (.inr (.inr h))
    ·rintro(h|h|h|h)
     ·exact .inl h
     ·exact .inr (.inr (.inl h))
     ·exact .inr (.inl h)
     ·exact .inr (.inr (.inr h))
   rcases List.mem_append.1 cb with hk|hk
   ·obtain⟨l1,l2,rfl⟩:=List.append_of_mem hk;have a0:bU ops.toList cl fr str (l1++i::(l2++q::r1))=true:=by simpa using ba
    have aS:bU ops.toList cl fr str (l1++i::(l2++p::r2))=true:=by simpa using a9
    obtain⟨_,pb,pc⟩:=lX a0;obtain⟨_,pb2,pc2⟩:=lX aS;obtain⟨pk,pbk,pck⟩:=lX b5;have hb:=xx (K:=fun σ H=>VD P ops.toList fr str K (p::q::r1) σ H/\VD P ops.toList fr str K (q::p::r2) σ H) (P:=P) aa l1 l2 hs (fun x hx=>by
     rcases pk x hx with b2|⟨ox,oy,e1,e2,e3⟩
     ·exact(notl (anc x b2) ((hI.mem x).1 (SM _ (SM _ hx))).2).elim
     ·rw[aa]at e2;cases e2;exact⟨ox,e1,e3⟩) h
    simp only[VD,aa]at hb;have ao:=(it (K':=fun σ' H'=>m6 σ'.bx/\VD P ops.toList fr str (fun σ H=>VD P ops.toList fr str K (p::q::r1) σ H/\VD P ops.toList fr str K (q::p::r2) σ H) (l1++l2) σ' H') (fun σ' H' ap h'=>⟨ap,h'⟩) hs (by simpa only[VD]using hb)).toV;have ca:i≠p:=fun e=>by subst e;exact a2 (by simp)
    have b6:i∉(l1++l2)++p::q::r1:=by
     intro hm;simp only[Te,Ti,Su]at hm pc;rcases hm with h|h|h|h|h
     ·exact pc (.inl h)
     ·exact pc (.inr (.inl h))
     ·exact ca h
     ·exact pc (.inr (.inr (.inl h)))
     ·exact pc (.inr (.inr (.inr h)))
    have cf:Inv ops (l1++i::(l2++p::q::r1)) listed:=hI.perm fun x=>by simp
    have an:=cf.step (by simpa using b6) aa aj;have a7:qJ ops.toList cl fr str p (l1++l2)=true:=List.all_eq_true.2 fun x hx=>List.all_eq_true.1 b0 x (by
     rcases List.mem_append.1 hx with h|h
     ·exact SM _ h
     ·exact SN _ (.tail _ h))
    have a6:qJ ops.toList cl fr str q (l1++l2)=true:=List.all_eq_true.2 fun x hx=>List.all_eq_true.1 bd x (by
     rcases List.mem_append.1 hx with h|h
     ·exact SM _ h
     ·exact SN _ (.tail _ h))
    refine jC a1 hn (fun σ' H' a' w' bc st' g'=>?_) ao st g;refine ih (l1++l2) _ (by simp at ac |-;omega) (by simp at ak |-;omega) (by simpa using pb) (by simpa using pb2) a7 a6 pbk (fun hm=>a2 ?_) (fun hm=>bb ?_) (by simpa using an) bc.1 bc.2 st' g'
    ·simp only[Te,Ti,Su]at hm |-;rcases hm with h|h|h|h
     ·exact .inl h
     ·exact .inr (.inl (.inr h))
     ·exact .inr (.inr (.inl h))
     ·exact .inr (.inr (.inr h))
    ·simp only[Te,Ti,Su]at hm |-;rcases hm with h|h|h|h
     ·exact .inl h
     ·exact .inr (.inl (.inr h))
     ·exact .inr (.inr (.inl h))
     ·exact .inr (.inr (.inr h))
   ·rcases List.mem_cons.1 hk with e|hk
    ·exact fin p q r1 e (fun x=>Iff.rfl) ac ba b0 a2 (rp (fun σ' H' _ h=>h.1) κ hs h)
    ·rcases List.mem_cons.1 hk with e|hk
     ·exact fin q p r2 e am ak a9 bd bb (rp (fun σ' H' _ h=>h.2) κ hs h)
     ·exfalso;have:=List.all_eq_true.1 b4 i hk;simp only[SQ]at this;rcases this with hc|hc
      ·exact notl (anc p (by simpa using hc)) ((hI.mem p).1 (by simp)).2
      ·exact notl (anc q (by simpa using hc)) ((hI.mem q).1 (by simp)).2
def M8(ol:List Oper)(κ:List Nat)(p q:Nat)(r1 r2:List Nat)(fr:gW)(str:gR):Bool:=
 CT ol (gJ ol) && (List.range ol.length).all ((κ++p::q::r1).contains ·) && decide (p≠q) && decide (p<ol.length) && decide (q<ol.length) &&
 r1.all (fun i=>((gJ ol).getD i []).contains p || ((gJ ol).getD i []).contains q) && r1.all (r2.contains ·) && r2.all (r1.contains ·) &&
 bU ol (gJ ol) fr str (κ++q::r1) && bU ol (gJ ol) fr str (κ++p::r2) && qJ ol (gJ ol) fr str p κ && qJ ol (gJ ol) fr str q κ && bU ol (gJ ol) fr str κ &&
 !(κ++q::r1).contains p && !(κ++p::r2).contains q
theorem qD{n0:Nat}{H0:PH}{w0:World}(hn:n0=w0.heap.size)(hm:P.follows .mixedOrders=true){id:Nat}{ops:Array Oper}{κ:List Nat}{p q:Nat}{r1 r2:List Nat}(ap:M8 ops.toList κ p q r1 r2 fr str=true){σ:St}{H:PH}{a:Act}{w:World}
  (hs:m6 σ.bx) (h:VD P ops.toList fr str (fun σ H=>VD P ops.toList fr str K (p::q::r1) σ H/\VD P ops.toList fr str K (q::p::r2) σ H) κ σ H) (st:cS H0 w0 H w) (g:G n0 σ H a w):(Code.region id ops true).wp P (QK n0 H0 w0 K) a w:=by
 simp only[M8,SG,SX,SR]at ap;obtain⟨⟨⟨⟨⟨⟨⟨⟨⟨⟨⟨⟨⟨⟨h1,h2⟩,a3⟩,a4⟩,a2⟩,a1⟩,a0⟩,aS⟩,aj⟩,an⟩,ba⟩,a9⟩,a5⟩,a7⟩,a6⟩:=ap;have am:p∉κ++q::r1:=by simpa using a7
 have ak:q∉κ++p::r2:=by simpa using a6
 have mem:∀(l:List Nat),bU ops.toList (gJ ops.toList) fr str l=true->∀i∈l,i<ops.size:=by
  intro l
  induction l with
  |nil=>intro _ i hi;cases hi
  |cons x l ih=>
   intro hp i hi;simp only[bU,SG,SX]at hp;rcases List.mem_cons.1 hi with rfl|hi
   ·simpa using hp.1.1.1
   ·exact ih hp.2 i hi
 have len:∀(l:List Nat),bU ops.toList (gJ ops.toList) fr str l=true->l.Nodup:=by
  intro l
  induction l with
  |nil=>intro _;exact List.nodup_nil
  |cons x l ih=>
   intro hp;simp only[bU,SG]at hp;exact List.nodup_cons.2 ⟨by simpa using hp.1.1.2,ih hp.2⟩
 have ac:p<ops.size:=by simpa using a4
 have aa:q<ops.size:=by simpa using a2
 have l1:(κ++p::q::r1).length<=ops.size:=by
  have ao:(p::(κ++q::r1)).Nodup:=List.nodup_cons.2 ⟨am,len _ aj⟩;have:=oT ops.size _ ao fun i hi=>by
   rcases List.mem_cons.1 hi with rfl|hi
   ·exact ac
   ·exact mem _ aj i hi
  simp at this |-;omega
 have l2:(κ++q::p::r2).length<=ops.size:=by
  have ao:(q::(κ++p::r2)).Nodup:=List.nodup_cons.2 ⟨ak,len _ an⟩;have:=oT ops.size _ ao fun i hi=>by
   rcases List.mem_cons.1 hi with rfl|hi
   ·exact aa
   ·exact mem _ an i hi
  simp at this |-;omega
 refine wp_region_any hm (Dy hn h1 a3 a1 (fun i=>⟨fun hi=>by simpa using List.all_eq_true.1 aS i hi,fun hi=>by simpa using List.all_eq_true.1 a0 i hi⟩) ops.size κ _ l1 l2 aj an ba a9 a5 am ak ⟨by simp,fun i=>?_,fun y o ho hl=>?_⟩ hs h (w:={ w with drawn:=w.drawn+1 }) ?_ ?_)
 ·constructor
  ·intro hi;have:i<ops.size:=by
    simp only[Ti,Su]at hi;rcases hi with hi|rfl|rfl|hi
    ·exact mem _ aj i (SM _ hi)
    ·exact ac
    ·exact aa
    ·exact mem _ aj i (SN _ (.tail _ hi))
   exact⟨this,by simp[Sa,this]⟩
  ·rintro⟨hi,_⟩;have:=List.all_eq_true.1 h2 i (List.mem_range.2 (by simpa using hi));simpa using this
 ·exfalso;rw[Sa,Array.getElem?_replicate]at hl;split at hl<;>cases hl
 ·exact⟨st.sub,st.size,st.priv,st.dom,st.os,st.tape,st.out⟩
 ·obtain⟨β,g⟩:=g;exact⟨β,g.defers,g.size,g.tm,g.bx,g.inj,g.lo,g.keys⟩
end
section
variable {C:Cx} {k:List Item} {σ:St} {H:PH}
theorem sX{P:Program}{ol:List Oper}{fr:gW}{str:gR}{K K':St->PH->Prop}(k:∀σ' H',K σ' H'->K' σ' H'):∀(l:List (Nat×Oper)) {σ:St} {H:PH},MP P ol fr str K l σ H->MP P ol fr str K' l σ H
 | [],σ,H,h=>k _ _ h
 |(i,o)::l,σ,H,h=>rS (fun σ' H' h'=>sX k l h') h
def Hq(C:Cx)(ol:List Oper)(fr:gW)(str:gR)(r1 r2:List (Nat×Oper))(l:List (Nat×Oper))(k:List Item)(σ:St)(H:PH):Prop:=MP C.P ol fr str (fun σ H=>RD C ol fr str r1 k σ H/\RD C ol fr str r2 k σ H) l σ H
theorem se{ol:List Oper}{fr:gW}{str:gR}{r1 r2:List (Nat×Oper)}:∀(l:List (Nat×Oper)) (σ:St) (ps:List Prop),m7 (oh C.P ol fr.k str.k fr.kp l σ ps).1->Hq C ol fr str r1 r2 (oh C.P ol fr.k str.k fr.kp l σ ps).2.1 k (oh C.P ol fr.k str.k fr.kp l σ ps).2.2 H->m7 ps/\Hq C ol fr str r1 r2 l k σ H
 | [],σ,ps,hp,h=>⟨hp,h⟩
 |(i,o)::l,σ,ps,hp,h=>by
  unfold oh at hp h;cases ha:vI C.P ol (iR fr.k i) (iR str.k i) fr.kp o σ with
  |none=>rw[ha]at hp h;exact⟨hp,h⟩
  |some x=>
   obtain⟨φ,σ'⟩:=x;rw[ha]at hp h;obtain⟨⟨a,b⟩,c⟩:=se l _ _ hp h;exact⟨a,qu (f:=fr.at' i) (s:=str.at' i) ha b c⟩
def OG(C:Cx)(ol:List Oper)(fr:gW)(str:gR)(r1 r2:List (Nat×Oper))(k:List Item)(H:PH)(r:List Prop×List (Nat×Oper)×St):Prop:=m7 r.1/\Hq C ol fr str r1 r2 r.2.1 k r.2.2 H
theorem ID(C:Cx)(ol:List Oper)(fr:gW)(str:gR)(r1 r2:List (Nat×Oper))(k:List Item)(H:PH)(ps:List Prop)(l:List (Nat×Oper))(σ:St):OG C ol fr str r1 r2 k H (ps,l,σ)=(m7 ps/\Hq C ol fr str r1 r2 l k σ H):=rfl
theorem jR{ol:List Oper}{fr:gW}{str:gR}{r1 r2 l:List (Nat×Oper)}(h:OG C ol fr str r1 r2 k H (oh C.P ol fr.k str.k fr.kp l σ [])):Hq C ol fr str r1 r2 l k σ H:=(se l σ [] h.1 h.2).2
theorem ry{ol:List Oper}{fr:gW}{str:gR}{r1 r2:List (Nat×Oper)}(h1:RD C ol fr str r1 k σ H)(h2:RD C ol fr str r2 k σ H):Hq C ol fr str r1 r2 [] k σ H:=⟨h1,h2⟩
attribute [go_sem] ID
theorem md{ol:List Oper}{cl:List (List Nat)}{fr:gW}{str:gR}:∀{l:List Nat},bU ol cl fr str l=true->∀i∈l,i<ol.length
 | [],_,i,hi=>by cases hi
 |x::l,hp,i,hi=>by
  simp only[bU,SG,SX]at hp;rcases List.mem_cons.1 hi with rfl|hi
  ·exact hp.1.1.1
  ·exact md hp.2 i hi
theorem yt{id:Nat}{ops:Array Oper}(hm:C.P.follows .mixedOrders=true)(κ:List Nat)(p q:Nat)(r1 r2:List Nat)(fr str:List Nat)(aa:M8 ops.toList κ p q r1 r2 ⟨fr,[],PH.emp,[],[]⟩ ⟨str,[],[]⟩=true)(hs:wR σ.bx=true)
  (h:Hq C ops.toList ⟨fr,[],PH.emp,[],[]⟩ ⟨str,[],[]⟩ (pick ops.toList (p::q::r1)) (pick ops.toList (q::p::r2)) (pick ops.toList κ) k σ H):RC C (.st (.code (.region id ops true)::k)) σ H:=by
 have hk:=aa;simp only[M8,SG,SX,SR]at hk;obtain⟨⟨⟨⟨⟨⟨⟨⟨⟨⟨⟨⟨⟨⟨h1,h2⟩,aS⟩,aj⟩,ac⟩,ap⟩,ao⟩,an⟩,am⟩,ak⟩,a4⟩,a3⟩,a0⟩,a2⟩,a1⟩:=hk;have e1:=md am;have e2:=md ak;refine(show R C (.code (.region id ops true)::k) σ H from ro fun _ _ s g=>qD rfl hm aa (Aa hs) ?_ s g);refine qF κ (fun i hi=>e1 i (SM _ hi)) (sX (fun σ' H' hh=>⟨qF _ (fun i hi=>?_) hh.1,qF _ (fun i hi=>?_) hh.2⟩) _ h)
 ·rcases List.mem_cons.1 hi with rfl|hi
  ·exact aj
  ·exact e1 i (SN _ hi)
 ·rcases List.mem_cons.1 hi with rfl|hi
  ·exact ac
  ·exact e2 i (SN _ hi)
end
end Go.Sx
namespace Go.Proofs.YtfaclfkpnmcmlaaGreatDoor
open Go Go.Sx Dg Syn
theorem JW:aP Tryz.prog 264:=⟨_,Tryz.func264,rfl,rfl⟩
section
variable {pb:Nat} {ts:List Tok} {lv fv ov:Value}
theorem oo:ju ts false=bj uo:=by funext h;simp[ju,bj]
theorem vH{n m o:Nat}(ih:iE pb ts lv fv ov n)(hm:m<n/\o<=64){I:PH}:F9 pb ts lv fv ov m false o I (.func (.func 264) #[pt pb] #[]):=
 ⟨264,#[pt pb],#[],rfl,JW,fun m' aa x a ha I D dv xa xk e _ h hx hr he hl=>ih m' Vi (.stmt o x) a ha hm.2 h hx hr he hl⟩
def L0(pb slot:Nat)(vh:Value)(n:Nat)(x:Nat×Value×Value×Value):St:=⟨dn 72 [(0,.v (pt pb)),(2,.v (iv slot)),(8,.v x.2.1),(9,.v x.2.2.1),(16,.v vh),(17,.v (iv n)),(18,.v (iv x.1))],[]⟩
theorem HZ{n:Nat}(ih:iE pb ts lv fv ov n){o:Nat}{f:ah}{slot:Nat}{r:Syn.bE}(hr:Syn.run ts n (.block o f slot)=some r):qS pb ts lv fv ov (.block o f slot) r:=by
 obtain⟨m,rfl,hs⟩:=bt hr;have ec:bY ts f (mw ts (Syn.run ts m) o slot)=some r:=hs;rw[ru]at ec;clear hs hr;intro ho I D dv vf e h hf fn he hm hd;have hl:=h.len;refine ir 72 Tryz.func208 fun w0=>?_
 try simp only[iv,pt]
 refine Un ?_;refine NB hd [0,1] rfl iS rfl (ps:=[sg pb _]) (F:=[D]) rfl (iN h hf fn) fun v I2 qs ed ca hq=>?_;obtain⟨rfl,hH⟩:=hq;obtain⟨ha,hc,rfl,_⟩:=id hH;simp only[SS,SU]at ed |-;refine Uq ?_;have hN:∀x∈bk ts f,iH ts x:=fun x hx=>bz h.ok fn hx;have et:=dZ h.ok fn;have eq:=hH;generalize bk ts f=a6 at *;refine aT ed fun em=>?_;refine aT em fun el=>?_;refine Um el [2,3,0,1] fun ek=>?_;refine aB (fun x=>a6.length-x.1) (L0 pb slot (.slice ha a6.length hc) a6.length) (Pd pb ts lv fv ov o a6 (mw ts (Syn.run ts m) o slot) r e I2) (0,.slice none 0 0,.slice none 0 0,dv) Us (by simp only[go_sem,Tq,L0]) ?_ ?_
 ·exact⟨I2,D,PH.no,PH.no,⟨[],[],[]⟩,rfl,ek,Uj _,S6 _,ec,by simpa using dl.le he ca,Ow.nil _ _ _ _,Ow.nil _ _ _ _,FN.nil _,S6 _⟩
 rintro⟨i,va,vb,dv⟩ H ⟨I3,D3,A3,B3,ri,rfl,da,a0,ei,dx,hE,hA,hB,cB,dd⟩ a4;simp only at ei dx hE hA hB;simp only[L0];have ep:m9 I3 (.slice ha a6.length hc) a6:=eq.le a0;rcases Sw i a6.length with c8|ex
 ·have ds:decide ((i:Int)<(a6.length:Int))=true:=by simp;omega
  have e1:=wrap64 (n:=i+1) Vi;have dw:IntKind.i64.wrap ((i:Int)+1)=((i+1:Nat):Int):=by rw[<-e1];congr 1
  obtain⟨x,hx⟩:∃x,a6[i]?=some x:=⟨_,SC c8⟩;have ef:=Tg hx;have c7:=hN x ef;obtain⟨b,off,cs,rfl,en,dc⟩:=ep.load jA.len hx;obtain⟨xa,xk,rfl,a5⟩:=en;obtain⟨r',eg,a9⟩:=ls hx dx;have b3:=s7 a9;obtain⟨y,hy,c4,rfl⟩:=l7 eg;have h3:=h.le (Ui ca a0);simp only[Tu]at b3 c4;apply RG;simp only[go_sem,ds,iv,pt];refine⟨Vi,?_⟩;refine Qz (l:=[iv x.at',sD xa xk x.cond,rD x.cond,.int .u8 x.kind,.string ⟨⟨x.text⟩⟩]) (v:=.agg #[iv x.at',sD xa xk x.cond,rD x.cond,.int .u8 x.kind,.string ⟨⟨x.text⟩⟩]) rfl (cellsU da (.head _) dc) (.inl ⟨eS,rfl⟩) ?_;unfold Syn.mw at hy;by_cases c5:x.text=Ky
  ·have d6:(x.text == [123])=true:=by rw[c5];decide
   rw[Sb (by simp[c5])]at hy;apply RG;simp only[go_sem,ds,iv,pt,sD,rD,d6,Ud];by_cases b5:o=64
   ·rw[SI b5]at hy;cases hy
    subst b5;refine f6 da [0,1,2,3] [sg pb _,D3] [A3,B3] rfl gz rfl (ke h3 c7.le a5 hE (by simp[bR]at b3 |-;omega)) fun v I4 qs b4 ao hq=>?_;obtain⟨dv2,D4,rs,rfl,d2,rfl,rfl⟩:=hq;simp only[SS,SU]at b4 |-;apply RG;simp only[go_sem,iv,pt,sD,rD,dw,T7];exact a4 (i+1,va,vb,dv2) _ _ V9 Us (by simp only[go_sem,Tq,L0]) ⟨I4,D4,A3,B3,_,rfl,b4,Ui a0 ao,c8,a9,by simp only;rw[<-Te];exact d2,by simpa using hA.le ao,hB.le ao,cB,by simpa using dd⟩
   ·rw[Sb b5]at hy;obtain⟨a,ee,dA⟩:=bw hy;obtain⟨g,e2,ht⟩:∃g e1,Syn.take ts a.f uo=(g,e1):=⟨_,_,rfl⟩;rw[ht]at dA;simp only at dA;cases dA
    have c6:=c7.lt (.inl (by rw[c5];decide));have er:=wrap64 (n:=x.at'+1) Vi;have e2'':IntKind.i64.wrap ((x.at':Int)+1)=((x.at'+1:Nat):Int):=by rw[<-er];congr 1
    refine f6 da [0,1,2,3] [sg pb _] [D3,A3,B3] rfl gz rfl (iV (h:=x) (a:=xa) (k:=xk) Vi) fun v I4 qs b4 ao hq=>?_;obtain⟨rfl,rfl,rfl⟩:=hq;simp only[SS,SU]at b4 |-;apply RG;simp only[go_sem,iv,pt,sD,rD,dw,e2'',Ud];refine yt mixed [0,1,2,3,4,5,6,9,10] 7 8 [11,12,13,14,15,16] [11,12,13,14,15,16] [] [] rfl rfl ?_;apply jR;simp only[go_sem,iv,pt,sD,rD,e2''];simp only[Te,Tu]at b3 hm c4;refine ry ?_ ?_
    ·refine aZ b4 (by exact gY) rfl rfl rfl rfl rfl Vm fun nb I5 dT b2 dI=>?_;refine UD ?_;refine i7 dT [0,1,2,3] [] [sg pb _,D3,A3,B3] rfl gy rfl (iz (s:=uo)) fun vi I6 qs c9 b1 hq=>?_;obtain⟨rfl,dj⟩:=hq;simp only[SS,SU]at c9 |-;obtain⟨fi,first,cap,rfl,gi,ci⟩:=id dj;refine UD ?_;have kk:I4.le I6:=Ui b2 b1;have d4:du I6 (.slice (some ⟨nb,0,none⟩) 1 1) (bh x):=⟨_,_,rfl,.inr ⟨nb,0,[iv (x.at'+1),sD xa xk x.cond,rD x.cond],rfl,(az dI (by simp[aE,Value.cells]) (by simp[aE,Value.cells,iv,sD,rD])).le b1,.one ⟨_,_,rfl,a5.le kk⟩⟩⟩;refine i7 c9 [0,1,2,3] [sg pb _,D3] [A3,B3] rfl v7 rfl (Fm (n:=m) ee (vi:=.func (.func fi) first cap) (vr:=.func (.func 264) #[pt pb] #[]) (by rw[oo];exact(Es.le dj (Uj _)).toP) (vH ih Vi) (h3.le kk) d4 (bm c7 c6) (hE.le kk) (by simp only[Tu];omega)) fun v I7 qs bc a7 hq=>?_;obtain⟨dv6,D6,rs,rfl,d1,⟨A6,B6,va6,vb6,rfl,rfl,c2,d3⟩,dk,eo⟩:=hq;have bd:=c2.capN aW.len;obtain⟨ka,kc,rfl⟩:=c2.shape;simp only[SS,SU]at bc |-;refine UD ?_;refine aw ?_;refine Up ?_;refine Um bc [2,0,1,3,4,5] fun ct=>?_;refine ag ct fun I8 cr an c3=>?_;have d0:db I8 (.slice ka a.l.length kc) a.l:=c2.sl an c3;refine av cr (by exact cT) rfl rfl rfl rfl rfl Vm fun nb2 I9 cp am b6=>?_;refine Up ?_;refine Um cp [3,0,1,2,4] fun bb=>?_;have dy:=Ui kk (Ui a7 (Ui an am));obtain⟨bs,aS,cx⟩:=hA;obtain⟨xsa,xsc,rfl⟩:=aS.slice;unfold aF at c4 dd
     refine dr (m:=1) bb (by exact cT) aS rfl rfl rfl rfl (cellsU bb (.head _) (az (l:=[.int .u8 6,.string ⟨#[]⟩,.int .i64 x.at',.int .i64 slot,.slice ka a.l.length kc,.slice xa (T.subs x.cond).length xk,iv (T.plc (T.subs x.cond) x.cond)]) b6 (by simp[aE,Value.cells]) (by simp[aE,Value.cells,iv]))) rfl rfl Vi (by unfold maxLen;omega) fun v' eb A10 cn ak b0=>?_;obtain⟨na,nc,rfl⟩:=b0.slice;have k410:=Ui dy ak;have d5:br eb A10 (.slice na (ri.l.length+1) nc) (ri.l++[⟨6,[],x.at',slot,a.l,x.cond⟩]):=by
      refine⟨_,by rw[Tu];exact b0,LR.app (cx.mono fun _ _ h=>aW.le h k410) (.one (aW.mk (n:=⟨6,[],x.at',slot,a.l,x.cond⟩) (a5.le k410) (d0.le (Ui am ak)) bd))⟩
     refine Up ?_;refine Um cn [3,0,1,2,4] fun cm=>?_;refine ag cm fun ea cl aj c1=>?_;have k711:=Ui an (Ui am (Ui ak aj));have cA:du ea vb6 a.f:=d3.sl k711 c1;have k411:=Ui k410 aj;refine f6 cl [1,2,0,3] [sg pb _,D6] [A10,B3] rfl fQ rfl (ii (s:=uo) (h3.le k411) cA dk Vm (d1.le k711) (by rw[ht];simp only[Tu];omega)) fun v es qs ba ap hq=>?_;obtain⟨dv10,D10,rs,rfl,a2,B10,rfl,a3⟩:=hq;rw[ht]at a2 a3;have tf:=cN h.ok dk (s:=uo) Vm;rw[ht]at tf;simp only at a2 a3 tf;simp only[SS,SU]at ba |-;refine Up ?_;refine Um ba [2,0,1,3,4] fun cj=>?_;refine ag cj fun d9 cf aa c0=>?_;have cy:du d9 v g:=a3.sl aa c0;have k413:=Ui k411 (Ui ap aa);refine f6 cf [3,0,1,2] [B3] [sg pb _,D10,A10] rfl dp rfl (b7 (N:=ts.length) Vi (hB.le k413) cB cy tf) fun v d7 qs a1 ac hq=>?_;obtain⟨B14,rfl,bx⟩:=hq;simp only[SS,SU]at a1 |-;refine Up ?_;refine Qz (l:=[.int .i64 ((o+1:Nat):Int)]) rfl (cellsU a1 (.tail _ (.tail _ (.head _))) (aU (by simp[bD]) rfl)) (.inr ⟨mF,rfl⟩) ?_;apply RG;simp only[go_sem,iv,pt,sD,rD,iq o ho];refine Um a1 [1,2,3,0] fun cc=>?_;refine cG cc rfl rfl rfl rfl rfl (by exact Gn) (by simp) fun cb=>?_;apply RG;simp only[go_sem,iv,pt,sD,rD,dw];obtain⟨ta,tc,rfl⟩:=bx.shape
     refine a4 (i+1,.slice na (ri.l.length+1) nc,.slice ta (Syn.joinAll ri.f g).length tc,dv10) _ _ V9 Us (by simp only[go_sem,Tq,L0]) ⟨d7,D10,A10,B14,_,rfl,cb,Ui a0 (Ui k413 ac),c8,a9,by simpa[Te]using a2.le (Ui aa ac),br.le d5 (Ui aj (Ui ap (Ui aa ac))),bx,cB.joinAll tf,by simp only[Tu];unfold aF;exact c4⟩
    ·refine i7 b4 [0,1,2,3] [] [sg pb _,D3,A3,B3] rfl gy rfl (iz (s:=uo)) fun vi I6 qs c9 b1 hq=>?_;obtain⟨rfl,dj⟩:=hq;simp only[SS,SU]at c9 |-;obtain⟨fi,first,cap,rfl,gi,ci⟩:=id dj;refine UD ?_;refine aZ c9 (by exact gY) rfl rfl rfl rfl rfl Vm fun nb I5 dT b2 dI=>?_;refine UD ?_;have kk:I4.le I5:=Ui b1 b2;have d4:du I5 (.slice (some ⟨nb,0,none⟩) 1 1) (bh x):=⟨_,_,rfl,.inr ⟨nb,0,[iv (x.at'+1),sD xa xk x.cond,rD x.cond],rfl,(az dI (by simp[aE,Value.cells]) (by simp[aE,Value.cells,iv,sD,rD])).le (Uj _),.one ⟨_,_,rfl,a5.le kk⟩⟩⟩;refine i7 dT [0,1,2,3] [sg pb _,D3] [A3,B3] rfl v7 rfl (Fm (n:=m) ee (vi:=.func (.func fi) first cap) (vr:=.func (.func 264) #[pt pb] #[]) (by rw[oo];exact(Es.le dj b2).toP) (vH ih Vi) (h3.le kk) d4 (bm c7 c6) (hE.le kk) (by simp only[Tu];omega)) fun v I7 qs bc a7 hq=>?_;obtain⟨dv6,D6,rs,rfl,d1,⟨A6,B6,va6,vb6,rfl,rfl,c2,d3⟩,dk,eo⟩:=hq;have bd:=c2.capN aW.len;obtain⟨ka,kc,rfl⟩:=c2.shape;simp only[SS,SU]at bc |-;refine UD ?_;refine aw ?_;refine Up ?_;refine Um bc [2,0,1,3,4,5] fun ct=>?_;refine ag ct fun I8 cr an c3=>?_;have d0:db I8 (.slice ka a.l.length kc) a.l:=c2.sl an c3;refine av cr (by exact cT) rfl rfl rfl rfl rfl Vm fun nb2 I9 cp am b6=>?_;refine Up ?_;refine Um cp [3,0,1,2,4] fun bb=>?_;have dy:=Ui kk (Ui a7 (Ui an am));obtain⟨bs,aS,cx⟩:=hA;obtain⟨xsa,xsc,rfl⟩:=aS.slice;unfold aF at c4 dd
     refine dr (m:=1) bb (by exact cT) aS rfl rfl rfl rfl (cellsU bb (.head _) (az (l:=[.int .u8 6,.string ⟨#[]⟩,.int .i64 x.at',.int .i64 slot,.slice ka a.l.length kc,.slice xa (T.subs x.cond).length xk,iv (T.plc (T.subs x.cond) x.cond)]) b6 (by simp[aE,Value.cells]) (by simp[aE,Value.cells,iv]))) rfl rfl Vi (by unfold maxLen;omega) fun v' eb A10 cn ak b0=>?_;obtain⟨na,nc,rfl⟩:=b0.slice;have k410:=Ui dy ak;have d5:br eb A10 (.slice na (ri.l.length+1) nc) (ri.l++[⟨6,[],x.at',slot,a.l,x.cond⟩]):=by
      refine⟨_,by rw[Tu];exact b0,LR.app (cx.mono fun _ _ h=>aW.le h k410) (.one (aW.mk (n:=⟨6,[],x.at',slot,a.l,x.cond⟩) (a5.le k410) (d0.le (Ui am ak)) bd))⟩
     refine Up ?_;refine Um cn [3,0,1,2,4] fun cm=>?_;refine ag cm fun ea cl aj c1=>?_;have k711:=Ui an (Ui am (Ui ak aj));have cA:du ea vb6 a.f:=d3.sl k711 c1;have k411:=Ui k410 aj;refine f6 cl [1,2,0,3] [sg pb _,D6] [A10,B3] rfl fQ rfl (ii (s:=uo) (h3.le k411) cA dk Vm (d1.le k711) (by rw[ht];simp only[Tu];omega)) fun v es qs ba ap hq=>?_;obtain⟨dv10,D10,rs,rfl,a2,B10,rfl,a3⟩:=hq;rw[ht]at a2 a3;have tf:=cN h.ok dk (s:=uo) Vm;rw[ht]at tf;simp only at a2 a3 tf;simp only[SS,SU]at ba |-;refine Up ?_;refine Um ba [2,0,1,3,4] fun cj=>?_;refine ag cj fun d9 cf aa c0=>?_;have cy:du d9 v g:=a3.sl aa c0;have k413:=Ui k411 (Ui ap aa);refine f6 cf [3,0,1,2] [B3] [sg pb _,D10,A10] rfl dp rfl (b7 (N:=ts.length) Vi (hB.le k413) cB cy tf) fun v d7 qs a1 ac hq=>?_;obtain⟨B14,rfl,bx⟩:=hq;simp only[SS,SU]at a1 |-;refine Up ?_;refine Qz (l:=[.int .i64 ((o+1:Nat):Int)]) rfl (cellsU a1 (.tail _ (.tail _ (.head _))) (aU (by simp[bD]) rfl)) (.inr ⟨mF,rfl⟩) ?_;apply RG;simp only[go_sem,iv,pt,sD,rD,iq o ho];refine Um a1 [1,2,3,0] fun cc=>?_;refine cG cc rfl rfl rfl rfl rfl (by exact Gn) (by simp) fun cb=>?_;apply RG;simp only[go_sem,iv,pt,sD,rD,dw];obtain⟨ta,tc,rfl⟩:=bx.shape
     refine a4 (i+1,.slice na (ri.l.length+1) nc,.slice ta (Syn.joinAll ri.f g).length tc,dv10) _ _ V9 Us (by simp only[go_sem,Tq,L0]) ⟨d7,D10,A10,B14,_,rfl,cb,Ui a0 (Ui k413 ac),c8,a9,by simpa[Te]using a2.le (Ui aa ac),br.le d5 (Ui aj (Ui ap (Ui aa ac))),bx,cB.joinAll tf,by simp only[Tu];unfold aF;exact c4⟩
  ·have d6:(x.text == [123])=false:=by
    rw[Uf];exact c5
   rw[SI c5]at hy;cases hy
   apply RG;simp only[go_sem,ds,iv,pt,sD,rD,d6,T7];refine f6 da [0,1,2,3] [sg pb _,D3] [A3,B3] rfl iJ rfl (kN h3 c7.le a5 hE (by simp[bR]at b3 |-;omega)) fun v I4 qs b4 ao hq=>?_;obtain⟨dv2,D4,rs,rfl,d2,rfl⟩:=hq;simp only[SS,SU]at b4 |-;apply RG;simp only[go_sem,iv,pt,sD,rD,dw];exact a4 (i+1,va,vb,dv2) _ _ V9 Us (by simp only[go_sem,Tq,L0]) ⟨I4,D4,A3,B3,_,rfl,b4,Ui a0 ao,c8,a9,by simp only;rw[<-Te];exact d2,by simpa using hA.le ao,hB.le ao,cB,by simpa using dd⟩
 ·have eh:i=a6.length:=by omega
  subst eh;have ds:=Z6 a6.length;rw[T4]at dx;cases dx
  apply RG;simp only[go_sem,ds,iv,pt];exact ai rfl da (r:=[va,vb]) rfl (Ui ca a0) ⟨_,D3,[A3,B3],rfl,hE,⟨A3,B3,va,vb,rfl,rfl,hA,hB⟩,cB,dd⟩
end
end Go.Proofs.YtfaclfkpnmcmlaaGreatDoor
