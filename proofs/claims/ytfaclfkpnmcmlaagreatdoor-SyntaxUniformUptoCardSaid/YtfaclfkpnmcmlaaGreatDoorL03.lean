import Derived.Test.YtfaclfkpnmcmlaaGreatDoorL02
set_option maxHeartbeats 8000000
set_option linter.all false
open Go.Proofs.Tryz hiding f9
namespace Go.Proofs.YtfaclfkpnmcmlaaGreatDoor
open Go Go.Sx Dg Syn
def ql:ay prog 140:=⟨_,func140,rfl,rfl⟩
def bj(I:PH)(c:Zo)(e:aI):Prop:=∃a k,c=[.int .u8 e.code,.int .i64 e.tok,sD a k e.cond,rD e.cond]/\bW I (.agg #[sD a k e.cond,rD e.cond]) e.cond
variable{c:Zo}{I J:PH}
def bj.le{e:aI}(h:bj I c e)(b:I.le J):bj J c e:=by obtain⟨a,k,e,h⟩:=h;exact⟨a,k,e,bW.le h b⟩
def bj.len(c:Zo)(e:aI)(h:bj I c e):c.length=4:=by obtain⟨a,k,e,_⟩:=h;rw[e];rfl
abbrev bt(I Z:PH)(v:Value)(e:List aI):Prop:=Ow bj 80 4 I Z v e
def bt.le{I J Z:PH}{v:Value}{e:List aI}(h:bt I Z v e)(b:I.le J):bt J Z v e:=Ow.le (R:=bj) (fun{I J c a} h k=>bj.le h k) h b
abbrev gd:=@bt.le
variable{v:Value}
def Sl.monoR{α:Type}{R R':PH->Zo->α->Prop}{l:List α}(h:Sl R I v l)(d:∀c a,R I c a->R' I c a):Sl R' I v l:=by obtain⟨a,c,e,h⟩:=h;exact⟨a,c,e,h.imp id fun⟨b,off,xs,e1,e2,f⟩=>⟨b,off,xs,e1,e2,f.mono d⟩⟩
def zz:Value->Prop
 | .slice _ n c=>n<=c
 |_=>True
def ky:Value->Prop
 | .slice _ n c=>n<=c/\(0<n->c<=maxLen)
 |_=>True
def p0:ky (.slice none 0 0):=⟨aR _,fun h=>absurd h (Nat.lt_irrefl _)⟩
def kB:Nat->PH->Zo->M->Prop
 |0,_,_,_=>False
 |d+1,I,c,n=>∃b a k,c=[.int .u8 n.kind,.string ⟨⟨n.text⟩⟩,.int .i64 n.tok,.int .i64 n.slot,b,sD a k n.cond,rD n.cond]/\bW I (.agg #[sD a k n.cond,rD n.cond]) n.cond/\Sl (kB d) I b n.kids/\ky b
def kB.le:∀{d:Nat} {I J:PH} {c:Zo} {n:M},kB d I c n->I.le J->kB d J c n
 |0,_,_,_,_,h,_=>h
 |d+1,I,J,c,n,⟨f,a,k,e,h,g,i⟩,b=>⟨f,a,k,e,bW.le h b,Sl.le (R:=kB d) (fun{I J c a} h k=>kB.le h k) g b,i⟩
def kB.up:∀{d:Nat} {I:PH} {c:Zo} {n:M},kB d I c n->kB (d+1) I c n
 |0,_,_,_,h=>h.elim
 |d+1,I,c,n,⟨b,a,k,e,h,f,g⟩=>⟨b,a,k,e,h,f.monoR fun _ _ h=>kB.up h,g⟩
variable{n:M}
def kB.ups{d d':Nat}(h:kB d I c n)(hd:d<=d'):kB d' I c n:=by
 induction hd with
 |refl=>exact h
 |step _ a=>exact a.up
def ag(I:PH)(c:Zo)(n:M):Prop:=∃d,kB d I c n
def LR.depth{I:PH}:∀{l:List M} {xs:Zo},LR (ag I) xs l->∃d,LR (kB d I) xs l
 | [],xs,h=>⟨0,h⟩
 |a::l,xs,⟨c,ys,e,⟨d,h1⟩,h2⟩=>by obtain⟨d',h3⟩:=LR.depth h2;exact⟨max d d',c,ys,e,h1.ups (Nat.le_max_left _ _),h3.mono fun _ _ h=>h.ups (Nat.le_max_right _ _)⟩
variable{a:Option Addr}
theorem ag.mk{vk:Value}{k:Nat}(h:bW I (.agg #[sD a k n.cond,rD n.cond]) n.cond)(g:Sl ag I vk n.kids)(f:ky vk):ag I [.int .u8 n.kind,.string ⟨⟨n.text⟩⟩,.int .i64 n.tok,.int .i64 n.slot,vk,sD a k n.cond,rD n.cond] n:=by
 obtain⟨b,c,e,h2⟩:=g;rcases h2 with h2|⟨b',off,xs,e1,e2,i⟩
 .exact⟨1,vk,a,k,rfl,h,⟨b,c,e,.inl h2⟩,f⟩
 .obtain⟨d,h4⟩:=LR.depth i;exact⟨d+1,vk,a,k,rfl,h,⟨b,c,e,.inr ⟨b',off,xs,e1,e2,h4⟩⟩,f⟩
def ag.shape(h:ag I c n):∃b a k,c=[.int .u8 n.kind,.string ⟨⟨n.text⟩⟩,.int .i64 n.tok,.int .i64 n.slot,b,sD a k n.cond,rD n.cond]/\bW I (.agg #[sD a k n.cond,rD n.cond]) n.cond/\Sl ag I b n.kids/\ky b:=by
 obtain⟨d,h⟩:=h;cases d with
 |zero=>exact h.elim
 |succ d=>obtain⟨b,a,k,e,h1,h2,h3⟩:=h;exact⟨b,a,k,e,h1,h2.monoR fun _ _ h=>⟨d,h⟩,h3⟩
def ag.le(h:ag I c n)(a:I.le J):ag J c n:=by obtain⟨d,h⟩:=h;exact⟨d,h.le a⟩
def ag.len(c:Zo)(n:M)(h:ag I c n):c.length=7:=by obtain⟨b,a,k,e,_⟩:=h.shape;rw[e];rfl
abbrev aw(I A:PH)(v:Value)(l:List M):Prop:=Ow ag 60 7 I A v l
abbrev bk(I:PH)(v:Value)(l:List M):Prop:=Sl ag I v l
def aw.le{I J A:PH}{v:Value}{l:List M}(h:aw I A v l)(b:I.le J):aw J A v l:=Ow.le (R:=ag) (fun{I J c a} h k=>ag.le h k) h b
abbrev ce:=@aw.le
variable{l:List M}
def bk.le(h:bk I v l)(b:I.le J):bk J v l:=Sl.le (R:=ag) (fun{I J c a} h k=>ag.le h k) h b
def bM.le{l:ad}(h:bM I v l)(b:I.le J):bM J v l:=Sl.le (R:=cK) (fun{I J c a} h k=>cK.le h k) h b
def fM.le{l:List aj}(h:fM I v l)(b:I.le J):fM J v l:=Sl.le (R:=dM) (fun{I J c a} h k=>dM.le h k) h b
def ij(a:Option Addr)(k:Nat)(h:aj):Value:=.agg #[E h.at',sD a k h.cond,rD h.cond,.int .u8 h.kind,.string ⟨⟨h.text⟩⟩]
def PP(pb:Nat)(lv fv ov:Value)(o:Nat)(e:List aI)(Φ:Value->PH->Zt->Prop):Value->PH->Zt->Prop:=
 fun v c f=>∃a d b,f=sg pb (bS lv fv ov a o)::d::b/\bt c d a e/\Φ v c b
abbrev l9:Nat:=2^40
variable{e:List aI}{h:aj}{o:Nat}{dv:Value}
theorem qh{X:PH}{pb:Nat}{Z:Zs}{lv fv ov:Value}{k code:Nat}(hp:iG I Z lv fv)(K:h.at'<=Z.length)(hr:bW I (.agg #[sD a k h.cond,rD h.cond]) h.cond)(S:bt I X dv e)(hl:e.length+2<=l9):
  Zu 140 #[pt pb,ij a k h,.int .u8 code] I [sg pb (bS lv fv ov dv o),X] (PP pb lv fv ov o (e++dh h code) fun v W rs=>rs=[]):=by
 intro hd;have aa:=hp.len;unfold l9 at hl;obtain⟨la,lc,rfl,_⟩:=id hp.tok;obtain⟨fa,fc,rfl,_⟩:=id hp.fit;obtain⟨V,U,rfl⟩:=id S.shape;refine aP 36 func140 fun w0=>?_
 try simp only[E,pt,ij,sD,rD]
 refine ai ?_;refine bG [7,0,1,2,3,4,5,6,8] [] [] ?_;refine lh ?_;refine cH hd [0,1] [_] [X] rfl IG rfl (Ms hp K) ?_;rintro v W A x R⟨rfl,rfl,rfl⟩;simp only[aU,aQ]at x |-;refine lh ?_;refine cH x [0,1] [] [sg pb _,X] rfl ls rfl (ln hr (pd W false)) ?_;rintro v I3 A j g⟨rfl,i⟩;rw[show h.cond.and (.lf false)=ff from Hb hr.1]at i;obtain⟨N,L,rfl⟩:=i.shape2;simp only[aU,aQ]at j |-;refine ft ?_;apply aN;refine aZ ?_;refine rK mixed [0,1,2,3,4,5,6,7,8,9,10,11,12,13,14,15,16,17,18,19,20,21,22] [] [] [4] [15,16,18] (sg pb (bS (.slice la Z.length lc) (.slice fa Z.length fc) ov (.slice V e.length U) o)) rfl rfl ?_;refine lh ?_;refine rI (l:=[.slice V e.length U]) rfl (ju j) rfl rfl rfl (dz (by simp[bS]) rfl) (.inr ⟨Dk,rfl⟩) ?_;refine ft ?_;refine zI j [0,1] rfl rfl rfl rfl rfl qp (by rfl) (ps:=[]) (F:=[sg pb _,X]) rfl (ju j) (qA i) ?_;rintro v I4 A s d⟨rfl,p⟩;rw[show ff.not=tt from rfl]at p;obtain⟨za,zk,rfl⟩:=p.shape2;simp only[aU,aQ]at s |-;refine ft ?_;refine zI s [0,1] rfl rfl rfl rfl rfl ls (by rfl) (ps:=[]) (F:=[sg pb _,X]) rfl (ju s) (ln (hr.le (D g d)) p) ?_;rintro v I5 A w f⟨rfl,n⟩;rw[show h.cond.and tt=h.cond from Hc hr.1]at n;obtain⟨Q,P,rfl⟩:=n.shape2;simp only[aU,aQ]at w |-;refine ft ?_;refine iu w (by exact nn) rfl rfl rfl rfl rfl af fun nb I6 J c B=>?_;refine ft ?_;refine i8 J [1,0] fun u=>?_;obtain⟨xs,t,C⟩:=S
 refine xi (m:=2) u (by exact nn) t rfl rfl rfl rfl rfl rfl (cellsU u (.head _) (bA (l:=[.int .u8 12,.int .i64 h.at',.slice N (T.subs ff).length L,.int .i64 (T.plc (T.subs ff) ff),.int .u8 code,.int .i64 h.at',.slice Q (T.subs h.cond).length P,.int .i64 (T.plc (T.subs h.cond) h.cond)]) B (by simp[ax,Value.cells]) (by simp[ax,Value.cells]))) rfl rfl O (by unfold maxLen;omega) fun v' I7 D2 H b z=>?_;obtain⟨na,nc,rfl⟩:=z.slice;refine ft ?_;refine i8 H [1,0] fun G=>?_;refine cY G rfl rfl rfl rfl rfl rfl (by exact Ma) ao fun y=>?_;refine ft ?_;apply aN;refine aZ ?_;refine jX rfl y (r:=[]) rfl (D g (D d (D f (D c b)))) ⟨_,D2,[],rfl,⟨_,z.xs (by simp[dh]) rfl,?_⟩,rfl⟩;refine LR.app (C.mono fun _ _ h=>bj.le h (D g (D d (D f (D c b))))) ?_;refine LR.app (l:=[_]) (m:=[_]) (LR.one ?_) (LR.one ?_) (xs:=[_,_,_,_]) (ys:=[_,_,_,_])
 .exact⟨N,L,rfl,i.le (D d (D f (D c b)))⟩
 .exact⟨Q,P,rfl,n.le (D c b)⟩
def oM:ay prog 203:=⟨_,func203,rfl,rfl⟩
def zd(pb:Nat)(s:au)(a:Value)(n:Nat)(x:Nat×Value×Value):St:=⟨dn 34 [(0,.v (pt pb)),(2,.v (.string ⟨⟨s⟩⟩)),(7,.v x.2.1),(12,.v a),(13,.v (E n)),(14,.v (E x.1))],[]⟩
def X0(pb:Nat)(lv fv ov:Value)(o:Nat)(hs:List aj)(s:au)(e:List aI)(a:PH)(x:Nat×Value×Value)(H:PH):Prop:=
 ∃I Z A,H=U [I,sg pb (bS lv fv ov x.2.2 o),Z,A]/\Dj [I,sg pb (bS lv fv ov x.2.2 o),Z,A]/\a.le I/\x.1<=hs.length/\bt I Z x.2.2 (e++((hs.take x.1).foldl (f9 s) ([],[])).2)/\cV I A x.2.1 ((hs.take x.1).foldl (f9 s) ([],[])).1
def dM.shape(k:dM I c h):∃a k,c=[E h.at',sD a k h.cond,rD h.cond,.int .u8 h.kind,.string ⟨⟨h.text⟩⟩]/\bW I (.agg #[sD a k h.cond,rD h.cond]) h.cond:=k
variable{s:au}{vf:Value}
theorem pw{X:PH}{pb:Nat}{Z:Zs}{lv fv ov:Value}{f:ad}(h:iG I Z lv fv)(hf:bM I vf f)(fn:FN Z.length f)(hs:s≠[])(he:bt I X dv e)(hm:e.length+(Syn.take Z f s).2.length<=l9):
  Zu 203 #[pt pb,vf,.string ⟨⟨s⟩⟩] I [sg pb (bS lv fv ov dv o),X] (PP pb lv fv ov o (e++(Syn.take Z f s).2) fun v I2 rs=>∃A,rs=[A]/\cV I2 A v (Syn.take Z f s).1):=by
 intro hd;have hl:=h.len;refine aP 34 func203 fun w0=>?_
 try simp only[E,pt]
 refine ai ?_;refine GH hd [0,1] rfl qm rfl (ps:=[sg pb _]) (F:=[X]) rfl (qr h hf fn) ?_;rintro v I2 qs ac B⟨rfl,hH⟩;obtain⟨ha,hc,rfl,_⟩:=id hH;simp only[aU,aQ]at ac |-;refine bJ ?_;rw[F8]at hm |-;have hN:∀x∈co Z f,du Z x:=fun x P=>gx h.ok fn P;have a7:=mQ h.ok fn;have a4:=hH;generalize co Z f=d at *;refine de ac fun a1=>?_;refine ak a1 [1,2,0] fun a0=>?_;refine bV (fun x=>d.length-x.1) (zd pb s (.slice ha d.length hc) d.length) (X0 pb lv fv ov o d s e I2) (0,.slice none 0 0,dv) cN (by simp only[go_sem,Y,zd]) ?_ ?_
 .exact⟨I2,X,PH.no,rfl,a0,aD _,aE _,by simpa using bt.le he B,Ow.nil _ _ _ _⟩
 rintro⟨i,vat,dv⟩ H ⟨I3,D3,A3,rfl,L,q,hi,hE,W⟩ w;simp only at hi hE W;simp only[zd];have a3:fM I3 (.slice ha d.length hc) d:=a4.le q;have T:FN Z.length ((d.take i).foldl (f9 s) ([],[])).1:=Mk hs fun x P=>hN x (lL P);have ba:=T.len;rcases aK i d.length with Q|a9
 .have V:decide ((i:Int)<(d.length:Int))=true:=by simp;omega
  have e1:=wrap64 (n:=i+1) O;have am:IntKind.i64.wrap ((i:Int)+1)=((i+1:Nat):Int):=by rw[<-e1];congr 1
  obtain⟨x,P⟩:∃x,d[i]?=some x:=⟨_,aY Q⟩;have an:=db P;have aa:=hN x an;obtain⟨b,off,cs,rfl,a2,S⟩:=a3.load dM.len P;obtain⟨xa,xk,rfl,N⟩:=a2;have m:=sd (g:=f9 s) (z:=([],[])) P;have C:=Ee (g:=f9 s) (fun r=>r.2.length) (fun z y=>by unfold f9;split<;>simp) d (i+1) ([],[]);rw[m]at C;refine eB V ?_;refine⟨O,?_⟩;refine Zm (l:=[E x.at',sD xa xk x.cond,rD x.cond,.int .u8 x.kind,.string ⟨⟨x.text⟩⟩]) (v:=.agg #[E x.at',sD xa xk x.cond,rD x.cond,.int .u8 x.kind,.string ⟨⟨x.text⟩⟩]) rfl (cellsU L (.head _) S) (.inl ⟨gv,rfl⟩) ?_;by_cases u:x.text=s
  .have K:(x.text == s)=true:=by simpa using u
   have j:(d.take (i+1)).foldl (f9 s) ([],[])=(Syn.join ((d.take i).foldl (f9 s) ([],[])).1 (x.at'+1) x.cond,((d.take i).foldl (f9 s) ([],[])).2):=by rw[m];simp[f9,u]
   have ap:=aa.lt (.inl (by rw[u];exact hs));have e2:=wrap64 (n:=x.at'+1) O;have a6:IntKind.i64.wrap ((x.at':Int)+1)=((x.at'+1:Nat):Int):=by rw[<-e2];congr 1
   obtain⟨ta,tc,rfl⟩:=W.shape;apply RG;simp only[go_sem,K,E,pt,sD,rD,cL,a6];refine av L [2,0,1] [A3] [sg pb _,D3] rfl jK rfl (jL (a:=x.at'+1) W N T.ok.2 (fun t ht=>by have:=T.le t ht;omega) O O) ?_;rintro v I4 qs G p⟨A4,rfl,U⟩;obtain⟨ta2,tc2,rfl⟩:=U.shape;simp only[aU,aQ]at G |-;apply RG;simp only[go_sem,K,E,pt,sD,rD,am];refine ak G [1,2,0] fun aS=>?_;rw[show Syn.join ((d.take i).foldl (f9 s) ([],[])).1 (x.at'+1) x.cond=((d.take (i+1)).foldl (f9 s) ([],[])).1 from by rw[j]]at U |-;exact w (i+1,.slice ta2 _ tc2,dv) _ _ bi cN (by simp only[go_sem,Y,zd]) ⟨I4,D3,A4,rfl,aS,D q p,Q,by simp only;rw[j];exact hE.le p,U⟩
  .have K:(x.text == s)=false:=by simpa using u
   have j:(d.take (i+1)).foldl (f9 s) ([],[])=(((d.take i).foldl (f9 s) ([],[])).1,((d.take i).foldl (f9 s) ([],[])).2++dh x 10):=by rw[m];simp[f9,u]
   apply RG;simp only[go_sem,K,E,pt,sD,rD,dg];refine av L [0,1,2] [sg pb _,D3] [A3] rfl ql rfl (qh (h.le (D B q)) aa.le N hE (by rw[<-m,j]at C;simp[dh]at C |-;omega)) ?_;rintro v I4 qs G p⟨dv2,D4,rs,rfl,a5,rfl⟩;simp only[aU,aQ]at G |-;apply RG;simp only[go_sem,K,E,pt,sD,rD,am];exact w (i+1,vat,dv2) _ _ bi cN (by simp only[go_sem,Y,zd]) ⟨I4,D4,A3,rfl,G,D q p,Q,by simp only;rw[j,<-cD];exact a5,by simp only;rw[j];exact Ow.le (R:=cK) (fun{I J c a} h k=>cK.le h k) W p⟩
 .have aq:i=d.length:=by omega
  subst aq;have V:decide ((d.length:Int)<(d.length:Int))=false:=ao;rw[dK]at hE W;refine eB V ?_;refine az rfl L (r:=[_]) rfl (D B q) ⟨_,D3,[A3],rfl,hE,A3,rfl,W⟩
def oN:ay prog 221:=⟨_,func221,rfl,rfl⟩
def IT:ay prog 259:=⟨_,func259,rfl,rfl⟩
def nO:ay prog 260:=⟨_,func260,rfl,rfl⟩
def oO:ay prog 262:=⟨_,func262,rfl,rfl⟩
def Ri:ay prog 290:=⟨_,func290,rfl,rfl⟩
def Jr{H:PH}:Zv 259 #[.string ⟨⟨s⟩⟩] H fun v H2=>v=.bool (fI s)/\H2=H:=by
 refine aP 18 func259 fun w0=>?_;cases h0:(s == [118,97,114])
 rotate_left
 .apply RG;simp only[go_sem,h0];exact aX (r:=[.bool true]) rfl ⟨by rw[show fI s=true from by rw[eq_of_beq h0];decide];rfl,rfl⟩
 cases h1:(s == [102,110])
 rotate_left
 .apply RG;simp only[go_sem,h0,h1];exact aX (r:=[.bool true]) rfl ⟨by rw[show fI s=true from by rw[eq_of_beq h1];decide];rfl,rfl⟩
 cases h2:(s == [105,110,116])
 rotate_left
 .apply RG;simp only[go_sem,h0,h1,h2];exact aX (r:=[.bool true]) rfl ⟨by rw[show fI s=true from by rw[eq_of_beq h2];decide];rfl,rfl⟩
 cases h3:(s == [98,111,111,108])
 rotate_left
 .apply RG;simp only[go_sem,h0,h1,h2,h3];exact aX (r:=[.bool true]) rfl ⟨by rw[show fI s=true from by rw[eq_of_beq h3];decide];rfl,rfl⟩
 cases h4:(s == [105,102])
 rotate_left
 .apply RG;simp only[go_sem,h0,h1,h2,h3,h4];exact aX (r:=[.bool true]) rfl ⟨by rw[show fI s=true from by rw[eq_of_beq h4];decide];rfl,rfl⟩
 cases h5:(s == [101,108,115,101])
 rotate_left
 .apply RG;simp only[go_sem,h0,h1,h2,h3,h4,h5];exact aX (r:=[.bool true]) rfl ⟨by rw[show fI s=true from by rw[eq_of_beq h5];decide];rfl,rfl⟩
 cases h6:(s == [119,104,105,108,101])
 rotate_left
 .apply RG;simp only[go_sem,h0,h1,h2,h3,h4,h5,h6];exact aX (r:=[.bool true]) rfl ⟨by rw[show fI s=true from by rw[eq_of_beq h6];decide];rfl,rfl⟩
 cases c:(s == [114,101,116,117,114,110])
 rotate_left
 .apply RG;simp only[go_sem,h0,h1,h2,h3,h4,h5,h6,c];exact aX (r:=[.bool true]) rfl ⟨by rw[show fI s=true from by rw[eq_of_beq c];decide];rfl,rfl⟩
 cases e:(s == [112,114,105,110,116])
 rotate_left
 .apply RG;simp only[go_sem,h0,h1,h2,h3,h4,h5,h6,c,e];exact aX (r:=[.bool true]) rfl ⟨by rw[show fI s=true from by rw[eq_of_beq e];decide];rfl,rfl⟩
 cases f:(s == [97,115,115,101,114,116])
 rotate_left
 .apply RG;simp only[go_sem,h0,h1,h2,h3,h4,h5,h6,c,e,f];exact aX (r:=[.bool true]) rfl ⟨by rw[show fI s=true from by rw[eq_of_beq f];decide];rfl,rfl⟩
 cases a:(s == [116,114,117,101])
 rotate_left
 .apply RG;simp only[go_sem,h0,h1,h2,h3,h4,h5,h6,c,e,f,a];exact aX (r:=[.bool true]) rfl ⟨by rw[show fI s=true from by rw[eq_of_beq a];decide];rfl,rfl⟩
 cases b:(s == [102,97,108,115,101])
 rotate_left
 .apply RG;simp only[go_sem,h0,h1,h2,h3,h4,h5,h6,c,e,f,a,b];exact aX (r:=[.bool true]) rfl ⟨by rw[show fI s=true from by rw[eq_of_beq b];decide];rfl,rfl⟩
 cases d:(s == [114,101,97,100])
 rotate_left
 .apply RG;simp only[go_sem,h0,h1,h2,h3,h4,h5,h6,c,e,f,a,b,d];exact aX (r:=[.bool true]) rfl ⟨by rw[show fI s=true from by rw[eq_of_beq d];decide];rfl,rfl⟩
 apply RG;simp only[go_sem,h0,h1,h2,h3,h4,h5,h6,c,e,f,a,b,d];exact aX (r:=[.bool false]) rfl ⟨by rw[show fI s=false from by simp only[fI,List.contains_cons,nq,ul,om,oj,eN,iV,uq,uo,um,jP,pu,qX,un,h0,h1,h2,h3,h4,h5,h6,c,e,f,a,b,d,Bool.or_self];rfl];rfl,rfl⟩
def xG{X:PH}{pb:Nat}{Z:Zs}{lv fv ov:Value}{k:Nat}(hp:iG I Z lv fv)(d:h.at'<=Z.length)(hr:bW I (.agg #[sD a k h.cond,rD h.cond]) h.cond)(m:bt I X dv e)(j:e.length+2<=l9):
  Zu 262 #[pt pb,ij a k h] I [sg pb (bS lv fv ov dv 64),X] (PP pb lv fv ov 64 (e++dh h 11) fun v s g=>g=[]/\v=.bool false):=by
 intro hd;refine aP 20 func262 fun w0=>?_
 try simp only[E,pt,ij]
 refine ai ?_;refine Zm (l:=[.int .i64 64]) rfl (cellsU hd (.tail _ (.head _)) (dz (by simp[bS]) rfl)) (.inr ⟨eR,rfl⟩) ?_;apply RG;simp only[go_sem,E,pt,BEq.rfl];refine av hd [0,1] [sg pb _,X] [] rfl ql rfl (qh hp d hr m j) ?_;rintro v q p c b⟨n,o,g,rfl,f,rfl⟩;simp only[aU,aQ,Y]at c |-;refine dL ?_;exact az rfl c (r:=[_]) rfl b ⟨_,o,[],rfl,f,rfl,rfl⟩
def xH{pb:Nat}{lv fv ov:Value}{k:Nat}(g:o<64):
  Zu 262 #[pt pb,ij a k h] I [sg pb (bS lv fv ov dv o)] fun v f d=>d=[sg pb (bS lv fv ov dv (o+1))]/\f=I/\v=.bool true:=by
 intro hd;have e:((o:Int) == 64)=false:=by simp;omega
 have e1:=wrap64 (n:=o+1) O;have c:IntKind.i64.wrap ((o:Int)+1)=((o+1:Nat):Int):=by rw[<-e1];congr 1
 refine aP 20 func262 fun w0=>?_
 try simp only[E,pt,ij]
 refine ai ?_;refine Zm (l:=[.int .i64 o]) rfl (cellsU hd (.tail _ (.head _)) (dz (by simp[bS]) rfl)) (.inr ⟨eR,rfl⟩) ?_;refine eB e ?_;refine Zm (l:=[.int .i64 o]) rfl (cellsU hd (.tail _ (.head _)) (dz (by simp[bS]) rfl)) (.inr ⟨eR,rfl⟩) ?_;refine eB c ?_;refine k0 hd rfl rfl rfl rfl rfl (by exact sQ) ao fun b=>?_;refine dL ?_;exact az rfl b (r:=[_]) rfl (aD _) ⟨rfl,rfl,rfl⟩
def mE(I:PH)(v:Value)(is:aj->Bool):Prop:=∃f first cap,v=.func (.func f) first cap/\ay prog f/\∀J,I.le J->∀(h:aj) (a:Option Addr) (k:Nat),bW J (.agg #[sD a k h.cond,rD h.cond]) h.cond->Zu f (first++[ij a k h].toArray++cap) J [] fun v c b=>b=[]/\v=.bool (is h)
def mE.le{is:aj->Bool}(h:mE I v is)(c:I.le J):mE J v is:=by obtain⟨f,a,b,e,g,k⟩:=h;exact⟨f,a,b,e,g,fun K d=>k K (D c d)⟩
def XT{H:PH}{b:Nat}(hb:a8 H b 0 [.string ⟨⟨s⟩⟩]){k:Nat}:Zv 290 #[ij a k h,pt b] H fun v H2=>v=.bool (bq s h)/\H2=H:=by
 refine aP 8 func290 fun w0=>?_
 try simp only[ij,E,pt]
 refine ai ?_;refine Zm (l:=[.string ⟨⟨s⟩⟩]) rfl hb (.inr ⟨gF,rfl⟩) ?_;refine dL ?_;refine aX (r:=[.bool (h.text == s)]) rfl ⟨?_,rfl⟩;show Value.bool (h.text == s)=Value.bool (bq s h);unfold bq;congr 1;by_cases e:h.text=s
 .subst e;simp
 .simp[e]
def oq:Zu 260 #[.string ⟨⟨s⟩⟩] I [] fun v i j=>j=[]/\mE i v (bq s):=by intro hd;refine aP 4 func260 fun w0=>?_;apply cE 4;simp only[go_sem];refine jW 1 hd rfl fun b f=>?_;refine aJ (c:=.st _) f fun i e d g=>?_;apply RG;simp only[go_sem,iR,List.map];refine az rfl e (r:=[.func (.func 290) #[] #[pt b]]) rfl d ⟨rfl,290,#[],#[pt b],rfl,Ri,fun J l h a k hr=>bh.toI ((XT (H:=J) (b:=b) (s:=s) ?_).mono fun v H2 ⟨e1,e2⟩=>⟨by rw[e2];exact aD _,e1⟩)⟩;exact((dz ao rfl:a8 (sg b (.cells [Value.string ⟨⟨s⟩⟩].toArray 9 (0,0))) b 0 [.string ⟨⟨s⟩⟩]).le g).le l
def yQ(pb:Nat)(vi:Value)(a:Value)(n:Nat)(x:Nat×Value×Value):St:=⟨dn 34 [(0,.v (pt pb)),(2,.v vi),(6,.v x.2.1),(7,.v x.2.2),(12,.v a),(13,.v (E n)),(14,.v (E x.1))],[]⟩
abbrev tj(I A:PH)(v:Value)(l:List aj):Prop:=Ow dM 227 5 I A v l
def Xd(pb:Nat)(a:Obj)(hs:List aj)(is:aj->Bool)(b:PH)(x:Nat×Value×Value)(H:PH):Prop:=
 ∃I A B,H=U [I,sg pb a,A,B]/\Dj [I,sg pb a,A,B]/\b.le I/\x.1<=hs.length/\tj I A x.2.1 ((hs.take x.1).foldl (il is) ([],[])).1/\cV I B x.2.2 ((hs.take x.1).foldl (il is) ([],[])).2
variable{A:PH}
def cV.le{l:ad}(h:cV I A v l)(b:I.le J):cV J A v l:=Ow.le (R:=cK) (fun{I J c a} h k=>cK.le h k) h b
def tj.le{l:List aj}(h:tj I A v l)(b:I.le J):tj J A v l:=Ow.le (R:=dM) (fun{I J c a} h k=>dM.le h k) h b
theorem pj{pb:Nat}{Z:Zs}{lv fv ov vi:Value}{f:ad}{is:aj->Bool}(h:iG I Z lv fv)(hf:bM I vf f)(fn:FN Z.length f)(hi:mE I vi is):
  Zu 221 #[pt pb,vf,vi] I [sg pb (bS lv fv ov dv o)] fun v I2 qs=>∃A B va vb,qs=[sg pb (bS lv fv ov dv o),A,B]/\v=.tuple #[va,vb]/\tj I2 A va (bP Z f is).1/\cV I2 B vb (bP Z f is).2:=by
 intro hd;have hl:=h.len;refine aP 34 func221 fun w0=>?_
 try simp only[E,pt]
 refine ai ?_;refine GH hd [0] rfl qm rfl (ps:=[sg pb _]) (F:=[]) rfl (qr h hf fn) ?_;rintro v I2 qs an J⟨rfl,hH⟩;obtain⟨ha,hc,rfl,_⟩:=id hH;simp only[aU,aQ]at an |-;refine bJ ?_;rw[LP];have hN:∀x∈co Z f,du Z x:=fun x K=>gx h.ok fn K;have bx:=mQ h.ok fn;have bb:=hH;generalize co Z f=c at *;refine de an fun a7=>?_;refine de a7 fun a6=>?_;refine ak a6 [2,0,1] fun a5=>?_;refine bV (fun x=>c.length-x.1) (yQ pb vi (.slice ha c.length hc) c.length) (Xd pb (bS lv fv ov dv o) c is I2) (0,.slice none 0 0,.slice none 0 0) cN (by simp only[go_sem,Y,yQ]) ?_ ?_
 .exact⟨I2,PH.no,PH.no,rfl,a5,aD _,aE _,Ow.nil _ _ _ _,Ow.nil _ _ _ _⟩
 rintro⟨i,va,vb⟩ H ⟨I3,A3,B3,rfl,Q,j,a4,hA,hB⟩ u;simp only at a4 hA hB;simp only[yQ];have ba:fM I3 (.slice ha c.length hc) c:=bb.le j;have U:FN Z.length ((c.take i).foldl (il is) ([],[])).2:=LN fun x K=>hN x (lL K);have b1:=U.len;rcases aK i c.length with L|b0
 .have G:decide ((i:Int)<(c.length:Int))=true:=by simp;omega
  have e1:=wrap64 (n:=i+1) O;have aq:IntKind.i64.wrap ((i:Int)+1)=((i+1:Nat):Int):=by rw[<-e1];congr 1
  obtain⟨x,K⟩:∃x,c[i]?=some x:=⟨_,aY L⟩;have aS:=db K;have a1:=hN x aS;obtain⟨b,off,cs,rfl,a9,R⟩:=ba.load dM.len K;obtain⟨X,W,rfl,s⟩:=a9;have q:=sd (g:=il is) (z:=([],[])) K;obtain⟨fi,first,cap,rfl,gi,ci⟩:=id hi;have bc:=LO (is:=is) (c.take i) ([],[]);simp only[bg,lK]at bc;refine eB G ?_;refine⟨O,?_⟩;refine Zm (l:=[E x.at',sD X W x.cond,rD x.cond,.int .u8 x.kind,.string ⟨⟨x.text⟩⟩]) (v:=.agg #[E x.at',sD X W x.cond,rD x.cond,.int .u8 x.kind,.string ⟨⟨x.text⟩⟩]) rfl (cellsU Q (.head _) R) (.inl ⟨gv,rfl⟩) ?_;refine dR G ?_;refine av Q [0,1,2] [] [sg pb _,A3,B3] rfl gi rfl (ci I3 (D J j) x X W s) ?_;rintro v I4 qs P e⟨rfl,rfl⟩;simp only[aU,aQ]at P |-;cases w:is x
  .have d:(c.take (i+1)).foldl (il is) ([],[])=(((c.take i).foldl (il is) ([],[])).1,Syn.join ((c.take i).foldl (il is) ([],[])).2 x.at' x.cond):=by rw[q];simp[il,w]
   obtain⟨ta,tc,rfl⟩:=hB.shape;have a0:=a1.le;refine dR w ?_;refine av P [2,0,1] [B3] [sg pb _,A3] rfl jK rfl (jL (a:=x.at') (hB.le e) (s.le e) U.ok.2 (fun t ht=>by have:=U.le t ht;omega) O O) ?_;rintro v I5 qs C k⟨B4,rfl,V⟩;obtain⟨ta2,tc2,rfl⟩:=V.shape;simp only[aU,aQ]at C |-;refine dR aq ?_;refine ak C [1,2,0] fun y=>?_;rw[show Syn.join ((c.take i).foldl (il is) ([],[])).2 x.at' x.cond=((c.take (i+1)).foldl (il is) ([],[])).2 from by rw[d]]at V |-;exact u (i+1,va,.slice ta2 _ tc2) _ _ bi cN (by simp only[go_sem,Y,yQ]) ⟨I5,A3,B4,rfl,y,D j (D e k),L,by simp only;rw[d];exact hA.le (D e k),V⟩
  .have d:(c.take (i+1)).foldl (il is) ([],[])=(((c.take i).foldl (il is) ([],[])).1++[x],((c.take i).foldl (il is) ([],[])).2):=by rw[q];simp[il,w]
   obtain⟨ta,tc,rfl⟩:=hA.shape;refine dR w ?_;refine cI P (by exact sO) rfl rfl rfl rfl rfl af fun nb I8 C k a2=>?_;refine aZ ?_;refine ak C [1,0,2] fun y=>?_;obtain⟨bs,S,am⟩:=hA;refine oB (m:=1) y (by exact sO) S rfl rfl rfl rfl (cellsU y (.head _) (bA (l:=[E x.at',.slice X (T.subs x.cond).length W,E (T.plc (T.subs x.cond) x.cond),.int .u8 x.kind,.string ⟨⟨x.text⟩⟩]) a2 (by simp[ax,Value.cells]) (by simp[ax,Value.cells,E]))) rfl rfl O (by unfold maxLen;omega) fun v' I9 A2 ac N ap=>?_;obtain⟨na,nc,rfl⟩:=ap.slice;refine eB aq ?_;refine ak ac [1,0,2] fun aa=>?_;have p:=D e (D k N);refine u (i+1,.slice na (((c.take i).foldl (il is) ([],[])).1.length+1) nc,vb) _ _ bi cN (by simp only[go_sem,Y,yQ]) ⟨I9,A2,B3,rfl,aa,D j p,L,⟨bs++[E x.at',.slice X (T.subs x.cond).length W,E (T.plc (T.subs x.cond) x.cond),.int .u8 x.kind,.string ⟨⟨x.text⟩⟩],?_,?_⟩,by simp only;rw[d];exact hB.le p⟩
   .simp only;rw[d];simp only[aH,gM];exact ap
   .simp only;rw[d];exact LR.app (am.mono fun _ _ h=>dM.le h p) (.one ⟨X,W,rfl,s.le p⟩)
 .have a3:i=c.length:=by omega
  subst a3;have G:decide ((c.length:Int)<(c.length:Int))=false:=ao;rw[dK]at hA hB;refine eB G ?_;exact az rfl Q (r:=[va,vb]) rfl (D J j) ⟨A3,B3,va,vb,rfl,rfl,hA,hB⟩
def vm:ay prog 201:=⟨_,func201,rfl,rfl⟩
def Es:ay prog 202:=⟨_,func202,rfl,rfl⟩
def Sl.nil{α:Type}(R:PH->Zo->α->Prop)(I:PH):Sl R I (.slice none 0 0) ([]:List α):=⟨none,0,rfl,.inl rfl⟩
def Ik(pb:Nat)(lv fv ov:Value)(o:Nat)(hs:List aj)(F:Syn.aA->aj->Syn.aA)(e:List aI)(a:PH)(x:Nat×Value×Value×Value)(H:PH):Prop:=
 ∃I Z A B,H=U [I,sg pb (bS lv fv ov x.2.2.2 o),Z,A,B]/\Dj [I,sg pb (bS lv fv ov x.2.2.2 o),Z,A,B]/\a.le I/\x.1<=hs.length/\bt I Z x.2.2.2 (e++((hs.take x.1).foldl F ⟨[],[],[]⟩).e)/\aw I A x.2.1 ((hs.take x.1).foldl F ⟨[],[],[]⟩).l/\cV I B x.2.2.1 ((hs.take x.1).foldl F ⟨[],[],[]⟩).f
def RN(r:Syn.aA):Value->PH->Zt->Prop:=fun v b c=>∃A B a vb,c=[A,B]/\v=.tuple #[a,vb]/\aw b A a r.l/\cV b B vb r.f
def vM(pb kind slot:Nat)(a:Value)(n:Nat)(x:Nat×Value×Value×Value):St:=⟨dn 55 [(0,.v (pt pb)),(2,.v (.int .u8 kind)),(3,.v (E slot)),(10,.v x.2.1),(11,.v x.2.2.1),(16,.v a),(17,.v (E n)),(18,.v (E x.1))],[]⟩
theorem Vf{X:PH}{pb:Nat}{Z:Zs}{lv fv ov:Value}{kind slot:Nat}{f:ad}(h:iG I Z lv fv)(hf:bM I vf f)(fn:FN Z.length f)(he:bt I X dv e)(hm:e.length+(named Z f kind slot).e.length<=l9):
  Zu 201 #[pt pb,vf,.int .u8 kind,E slot] I [sg pb (bS lv fv ov dv o),X] (PP pb lv fv ov o (e++(named Z f kind slot).e) (RN (named Z f kind slot))):=by
 intro hd;have hl:=h.len;refine aP 55 func201 fun w0=>?_
 try simp only[E,pt]
 refine ai ?_;refine GH hd [0,1] rfl qm rfl (ps:=[sg pb _]) (F:=[X]) rfl (qr h hf fn) ?_;rintro v I2 qs aq A⟨rfl,hH⟩;obtain⟨ha,hc,rfl,_⟩:=id hH;simp only[aU,aQ]at aq |-;refine bJ ?_;rw[x8]at hm |-;have hN:∀x∈co Z f,du Z x:=fun x Q=>gx h.ok fn Q;have b2:=mQ h.ok fn;have bx:=hH;generalize co Z f=d at *;refine de aq fun ba=>?_;refine de ba fun a9=>?_;refine ak a9 [2,3,0,1] fun a7=>?_;refine bV (fun x=>d.length-x.1) (vM pb kind slot (.slice ha d.length hc) d.length) (Ik pb lv fv ov o d (dX kind slot) e I2) (0,.slice none 0 0,.slice none 0 0,dv) cN (by simp only[go_sem,Y,vM]) ?_ ?_
 .exact⟨I2,X,PH.no,PH.no,rfl,a7,aD _,aE _,by simpa using bt.le he A,Ow.nil _ _ _ _,Ow.nil _ _ _ _⟩
 rintro⟨i,va,vb,dv⟩ H ⟨I3,D3,A3,B3,rfl,G,p,a5,hE,hA,hB⟩ s;simp only at a5 hE hA hB;simp only[vM];have bc:fM I3 (.slice ha d.length hc) d:=bx.le p;have V:FN Z.length ((d.take i).foldl (dX kind slot) ⟨[],[],[]⟩).f:=Kr fun x Q=>hN x (lL Q);have b4:=V.len;rcases aK i d.length with L|b3
 .have K:decide ((i:Int)<(d.length:Int))=true:=by simp;omega
  have e1:=wrap64 (n:=i+1) O;have an:IntKind.i64.wrap ((i:Int)+1)=((i+1:Nat):Int):=by rw[<-e1];congr 1
  obtain⟨x,Q⟩:∃x,d[i]?=some x:=⟨_,aY L⟩;have a1:=db Q;have P:=hN x a1;obtain⟨b,off,cs,rfl,bb,U⟩:=bc.load dM.len Q;obtain⟨xa,xk,rfl,w⟩:=bb;have k:=sd (g:=dX kind slot) (z:=⟨[],[],[]⟩) Q;have q:=Ee (g:=dX kind slot) (fun r=>r.e.length) (fun z y=>by unfold dX;split<;>simp) d (i+1) ⟨[],[],[]⟩;rw[k]at q;have b0:=E2 (kind:=kind) (slot:=slot) (d.take i) ⟨[],[],[]⟩;simp only[bg,lK]at b0;refine eB K ?_;refine⟨O,?_⟩;refine Zm (l:=[E x.at',sD xa xk x.cond,rD x.cond,.int .u8 x.kind,.string ⟨⟨x.text⟩⟩]) (v:=.agg #[E x.at',sD xa xk x.cond,rD x.cond,.int .u8 x.kind,.string ⟨⟨x.text⟩⟩]) rfl (cellsU G (.head _) U) (.inl ⟨gv,rfl⟩) ?_;by_cases hk:x.kind=1
  .have am:((x.kind:Int) != 1)=false:=by simp[hk]
   apply RG;simp only[go_sem,K,E,pt,sD,rD,am,cL,dg];refine Zl rfl IT Jr ?_;rintro v H2⟨rfl,rfl⟩;cases hw:fI x.text
   .refine aZ ?_;have c:(d.take (i+1)).foldl (dX kind slot) ⟨[],[],[]⟩=⟨((d.take i).foldl (dX kind slot) ⟨[],[],[]⟩).l++[⟨kind,x.text,x.at',slot,[],x.cond⟩],Syn.join ((d.take i).foldl (dX kind slot) ⟨[],[],[]⟩).f (x.at'+1) x.cond,((d.take i).foldl (dX kind slot) ⟨[],[],[]⟩).e⟩:=by rw[k];unfold dX;rw[ab (by simp[hk,hw])]
    have a2:=P.lt (.inr O);have e2:=wrap64 (n:=x.at'+1) O;have b1:IntKind.i64.wrap ((x.at':Int)+1)=((x.at'+1:Nat):Int):=by rw[<-e2];congr 1
    refine cI G (by exact dr) rfl rfl rfl rfl rfl af fun nb I4 u j a3=>?_;refine aZ ?_;refine ak u [2,0,1,3] fun ap=>?_;obtain⟨bs,J,ac⟩:=hA;obtain⟨xsa,xsc,rfl⟩:=J.slice;refine oB (m:=1) ap (by exact dr) J rfl rfl rfl rfl (cellsU ap (.head _) (bA (l:=[.int .u8 kind,.string ⟨⟨x.text⟩⟩,.int .i64 x.at',.int .i64 slot,.slice none 0 0,.slice xa (T.subs x.cond).length xk,E (T.plc (T.subs x.cond) x.cond)]) a3 (by simp[ax,Value.cells]) (by simp[ax,Value.cells,E]))) rfl rfl O (by unfold maxLen;omega) fun v' I5 A4 a6 C a0=>?_;obtain⟨na,nc,rfl⟩:=a0.slice;obtain⟨ta,tc,rfl⟩:=hB.shape;refine dR b1 ?_;refine av a6 [3,1,2,0] [B3] [sg pb _,D3,A4] rfl jK rfl (jL (a:=x.at'+1) (hB.le (D j C)) (w.le (D j C)) V.ok.2 (fun t ht=>by have:=V.le t ht;omega) O O) ?_;rintro v I6 qs N S⟨B4,rfl,aS⟩;obtain⟨ta2,tc2,rfl⟩:=aS.shape;simp only[aU,aQ]at N |-;refine dR an ?_;refine ak N [1,2,3,0] fun aa=>?_;have B:=D j (D C S);refine s (i+1,.slice na (((d.take i).foldl (dX kind slot) ⟨[],[],[]⟩).l.length+1) nc,.slice ta2 (Syn.join ((d.take i).foldl (dX kind slot) ⟨[],[],[]⟩).f (x.at'+1) x.cond).length tc2,dv) _ _ bi cN (by simp only[go_sem,Y,vM]) ⟨I6,D3,A4,B4,rfl,aa,D p B,L,by simp only;rw[c];exact hE.le B,⟨bs++[.int .u8 kind,.string ⟨⟨x.text⟩⟩,.int .i64 x.at',.int .i64 slot,.slice none 0 0,.slice xa (T.subs x.cond).length xk,E (T.plc (T.subs x.cond) x.cond)],?_,?_⟩,by simp only;rw[c];exact aS⟩
    .simp only;rw[c];simp only[aH,gM];exact a0
    .simp only;rw[c];exact LR.app (ac.mono fun _ _ h=>ag.le h B) (.one (ag.mk (n:=⟨kind,x.text,x.at',slot,[],x.cond⟩) (w.le B) (Sl.nil _ _) p0))
   .refine aZ ?_;have c:(d.take (i+1)).foldl (dX kind slot) ⟨[],[],[]⟩={ ((d.take i).foldl (dX kind slot) ⟨[],[],[]⟩)with e:=((d.take i).foldl (dX kind slot) ⟨[],[],[]⟩).e++dh x 10 }:=by rw[k];unfold dX;rw[ah (.inr hw)]
    refine av G [0,1,2,3] [sg pb _,D3] [A3,B3] rfl ql rfl (qh (h.le (D A p)) P.le w hE (by rw[<-k,c]at q;simp[dh]at q |-;omega)) ?_;rintro v I4 qs u j⟨dv2,D4,rs,rfl,W,rfl⟩;simp only[aU,aQ]at u |-;refine dR an ?_;exact s (i+1,va,vb,dv2) _ _ bi cN (by simp only[go_sem,Y,vM]) ⟨I4,D4,A3,B3,rfl,u,D p j,L,by simp only;rw[c,<-cD];exact W,by simp only;rw[c];exact hA.le j,by simp only;rw[c];exact hB.le j⟩
  .have am:((x.kind:Int) != 1)=true:=by simp;omega
   apply RG;simp only[go_sem,K,E,pt,sD,rD,am,cL,dg];have c:(d.take (i+1)).foldl (dX kind slot) ⟨[],[],[]⟩={ ((d.take i).foldl (dX kind slot) ⟨[],[],[]⟩)with e:=((d.take i).foldl (dX kind slot) ⟨[],[],[]⟩).e++dh x 10 }:=by rw[k];unfold dX;rw[ah (.inl hk)]
   refine av G [0,1,2,3] [sg pb _,D3] [A3,B3] rfl ql rfl (qh (h.le (D A p)) P.le w hE (by rw[<-k,c]at q;simp[dh]at q |-;omega)) ?_;rintro v I4 qs u j⟨dv2,D4,rs,rfl,W,rfl⟩;simp only[aU,aQ]at u |-;refine dR an ?_;exact s (i+1,va,vb,dv2) _ _ bi cN (by simp only[go_sem,Y,vM]) ⟨I4,D4,A3,B3,rfl,u,D p j,L,by simp only;rw[c,<-cD];exact W,by simp only;rw[c];exact hA.le j,by simp only;rw[c];exact hB.le j⟩
 .have a4:i=d.length:=by omega
  subst a4;have K:decide ((d.length:Int)<(d.length:Int))=false:=ao;rw[dK]at hE hA hB;refine eB K ?_;exact az rfl G (r:=[va,vb]) rfl (D A p) ⟨_,D3,[A3,B3],rfl,hE,A3,B3,va,vb,rfl,rfl,hA,hB⟩
def zg(pb slot:Nat)(a:Value)(n:Nat)(x:Nat×Value×Value×Value):St:=⟨dn 52 [(0,.v (pt pb)),(2,.v (E slot)),(8,.v x.2.1),(9,.v x.2.2.1),(14,.v a),(15,.v (E n)),(16,.v (E x.1))],[]⟩
theorem Yu{X:PH}{pb:Nat}{Z:Zs}{lv fv ov:Value}{slot:Nat}{f:ad}(h:iG I Z lv fv)(hf:bM I vf f)(fn:FN Z.length f)(he:bt I X dv e)(hm:e.length+(im Z f slot).e.length<=l9):
  Zu 202 #[pt pb,vf,E slot] I [sg pb (bS lv fv ov dv o),X] (PP pb lv fv ov o (e++(im Z f slot).e) (RN (im Z f slot))):=by
 intro hd;have hl:=h.len;refine aP 52 func202 fun w0=>?_
 try simp only[E,pt]
 refine ai ?_;refine GH hd [0,1] rfl qm rfl (ps:=[sg pb _]) (F:=[X]) rfl (qr h hf fn) ?_;rintro v I2 qs ap C⟨rfl,hH⟩;obtain⟨ha,hc,rfl,_⟩:=id hH;simp only[aU,aQ]at ap |-;refine bJ ?_;rw[Cm]at hm |-;have hN:∀x∈co Z f,du Z x:=fun x Q=>gx h.ok fn Q;have b2:=mQ h.ok fn;have bc:=hH;generalize co Z f=c at *;refine de ap fun a9=>?_;refine de a9 fun a7=>?_;refine ak a7 [2,3,0,1] fun a6=>?_;refine bV (fun x=>c.length-x.1) (zg pb slot (.slice ha c.length hc) c.length) (Ik pb lv fv ov o c (eu slot) e I2) (0,.slice none 0 0,.slice none 0 0,dv) cN (by simp only[go_sem,Y,zg]) ?_ ?_
 .exact⟨I2,X,PH.no,PH.no,rfl,a6,aD _,aE _,by simpa using bt.le he C,Ow.nil _ _ _ _,Ow.nil _ _ _ _⟩
 rintro⟨i,va,vb,dv⟩ H ⟨I3,D3,A3,B3,rfl,L,q,a4,hE,hA,W⟩ A;simp only at a4 hE hA W;simp only[zg];have bb:fM I3 (.slice ha c.length hc) c:=bc.le q;have V:FN Z.length ((c.take i).foldl (eu slot) ⟨[],[],[]⟩).f:=Mw fun x Q=>hN x (lL Q);have b4:=V.len;rcases aK i c.length with R|b3
 .have u:decide ((i:Int)<(c.length:Int))=true:=by simp;omega
  have e1:=wrap64 (n:=i+1) O;have a0:IntKind.i64.wrap ((i:Int)+1)=((i+1:Nat):Int):=by rw[<-e1];congr 1
  obtain⟨x,Q⟩:∃x,c[i]?=some x:=⟨_,aY R⟩;have a1:=db Q;have P:=hN x a1;obtain⟨b,off,cs,rfl,ba,U⟩:=bb.load dM.len Q;obtain⟨xa,xk,rfl,w⟩:=ba;have j:=sd (g:=eu slot) (z:=⟨[],[],[]⟩) Q;have G:=Ee (g:=eu slot) (fun r=>r.e.length) (fun z y=>by unfold eu;split<;>simp) c (i+1) ⟨[],[],[]⟩;rw[j]at G;have b0:=Gg (slot:=slot) (c.take i) ⟨[],[],[]⟩;simp only[bg,lK]at b0;refine eB u ?_;refine⟨O,?_⟩;refine Zm (l:=[E x.at',sD xa xk x.cond,rD x.cond,.int .u8 x.kind,.string ⟨⟨x.text⟩⟩]) (v:=.agg #[E x.at',sD xa xk x.cond,rD x.cond,.int .u8 x.kind,.string ⟨⟨x.text⟩⟩]) rfl (cellsU L (.head _) U) (.inl ⟨gv,rfl⟩) ?_;cases hi:(x.text == [105,110,116])
  cases hb:(x.text == [98,111,111,108])
  .apply RG;simp only[go_sem,u,E,pt,sD,rD,hi,hb,cL,dg];have d:(c.take (i+1)).foldl (eu slot) ⟨[],[],[]⟩={ ((c.take i).foldl (eu slot) ⟨[],[],[]⟩)with e:=((c.take i).foldl (eu slot) ⟨[],[],[]⟩).e++dh x 10 }:=by rw[j];unfold eu;rw[ah ⟨fun k=>by rw[k]at hi;exact absurd hi af,fun k=>by rw[k]at hb;exact absurd hb af⟩]
   refine av L [0,1,2,3] [sg pb _,D3] [A3,B3] rfl ql rfl (qh (h.le (D C q)) P.le w hE (by rw[<-j,d]at G;simp[dh]at G |-;omega)) ?_;rintro v I4 qs K p⟨dv2,D4,rs,rfl,bx,rfl⟩;simp only[aU,aQ]at K |-;refine dR a0 ?_;exact A (i+1,va,vb,dv2) _ _ bi cN (by simp only[go_sem,Y,zg]) ⟨I4,D4,A3,B3,rfl,K,D q p,R,by simp only;rw[d,<-cD];exact bx,by simp only;rw[d];exact hA.le p,by simp only;rw[d];exact W.le p⟩
  apply RG;simp only[go_sem,u,E,pt,sD,rD,hi,hb,cL,dg];have d:(c.take (i+1)).foldl (eu slot) ⟨[],[],[]⟩=⟨((c.take i).foldl (eu slot) ⟨[],[],[]⟩).l++[⟨5,x.text,x.at',slot,[],x.cond⟩],Syn.join ((c.take i).foldl (eu slot) ⟨[],[],[]⟩).f (x.at'+1) x.cond,((c.take i).foldl (eu slot) ⟨[],[],[]⟩).e⟩:=by rw[j];unfold eu;rw[ab (fun k=>k.2 (eq_of_beq hb))]
  have aa:=P.lt (.inl (by rw[eq_of_beq hb];decide))
  rotate_left
  apply RG;simp only[go_sem,u,E,pt,sD,rD,hi,cL,dg];have d:(c.take (i+1)).foldl (eu slot) ⟨[],[],[]⟩=⟨((c.take i).foldl (eu slot) ⟨[],[],[]⟩).l++[⟨5,x.text,x.at',slot,[],x.cond⟩],Syn.join ((c.take i).foldl (eu slot) ⟨[],[],[]⟩).f (x.at'+1) x.cond,((c.take i).foldl (eu slot) ⟨[],[],[]⟩).e⟩:=by rw[j];unfold eu;rw[ab (fun k=>k.1 (eq_of_beq hi))]
  have aa:=P.lt (.inl (by rw[eq_of_beq hi];decide))
  all_goals
   have e2:=wrap64 (n:=x.at'+1) O;have b1:IntKind.i64.wrap ((x.at':Int)+1)=((x.at'+1:Nat):Int):=by rw[<-e2];congr 1
   refine cI L (by exact dr) rfl rfl rfl rfl rfl af fun nb I4 K p a2=>?_;refine aZ ?_;refine ak K [2,0,1,3] fun an=>?_;obtain⟨bs,J,am⟩:=hA;obtain⟨xsa,xsc,rfl⟩:=J.slice;refine oB (m:=1) an (by exact dr) J rfl rfl rfl rfl (cellsU an (.head _) (bA (l:=[.int .u8 5,.string ⟨⟨x.text⟩⟩,.int .i64 x.at',.int .i64 slot,.slice none 0 0,.slice xa (T.subs x.cond).length xk,E (T.plc (T.subs x.cond) x.cond)]) a2 (by simp[ax,Value.cells]) (by simp[ax,Value.cells,E]))) rfl rfl O (by unfold maxLen;omega) fun v' I5 A4 a5 B aS=>?_;obtain⟨na,nc,rfl⟩:=aS.slice;obtain⟨ta,tc,rfl⟩:=W.shape;refine dR b1 ?_;refine av a5 [3,1,2,0] [B3] [sg pb _,D3,A4] rfl jK rfl (jL (a:=x.at'+1) (W.le (D p B)) (w.le (D p B)) V.ok.2 (fun t ht=>by have:=V.le t ht;omega) O O) ?_;rintro v I6 qs N S⟨B4,rfl,aq⟩;obtain⟨ta2,tc2,rfl⟩:=aq.shape;simp only[aU,aQ]at N |-;refine dR a0 ?_;refine ak N [1,2,3,0] fun ac=>?_;have s:=D p (D B S);refine A (i+1,.slice na (((c.take i).foldl (eu slot) ⟨[],[],[]⟩).l.length+1) nc,.slice ta2 (Syn.join ((c.take i).foldl (eu slot) ⟨[],[],[]⟩).f (x.at'+1) x.cond).length tc2,dv) _ _ bi cN (by simp only[go_sem,Y,zg]) ⟨I6,D3,A4,B4,rfl,ac,D q s,R,by simp only;rw[d];exact hE.le s,⟨bs++[.int .u8 5,.string ⟨⟨x.text⟩⟩,.int .i64 x.at',.int .i64 slot,.slice none 0 0,.slice xa (T.subs x.cond).length xk,E (T.plc (T.subs x.cond) x.cond)],?_,?_⟩,by simp only;rw[d];exact aq⟩
   .simp only;rw[d];simp only[aH,gM];exact aS
   .simp only;rw[d];exact LR.app (am.mono fun _ _ h=>ag.le h s) (.one (ag.mk (n:=⟨5,x.text,x.at',slot,[],x.cond⟩) (w.le s) (Sl.nil _ _) p0))
 .have a3:i=c.length:=by omega
  subst a3;have u:decide ((c.length:Int)<(c.length:Int))=false:=ao;rw[dK]at hE hA W;refine eB u ?_;exact az rfl L (r:=[va,vb]) rfl (D C q) ⟨_,D3,[A3,B3],rfl,hE,A3,B3,va,vb,rfl,rfl,hA,W⟩
def kL:ay prog 205:=⟨_,func205,rfl,rfl⟩
def Q3:ay prog 261:=⟨_,func261,rfl,rfl⟩
variable{xs:Zo}{cur:Array Value}{size:Nat}
def tZ{g cap n p:Nat}{e:TypeId}{cs:Zo}(a:xs.length=n*size)(h1:n<=cap)(h2:cap<=maxLen)(h3:cur.size=cap*size)(h4:cur.toList.take (n*size)=xs)(hp:p+cs.length<=n*size):
  dH (sg g (.cells (bN cur.toList p cs).toArray e (0,0))) e size (.slice (some ⟨g,0,none⟩) n cap) n (bN xs p cs):=
 dH.of_sg (by rw[eL];exact a) h1 h2 (by simp[eL];exact h3) (by show (bN cur.toList p cs).take (n*size)=_;rw[BR _ _ _ _ hp,h4])
variable{i:Nat}
def qy{α:Type}{R:Zo->α->Prop}{n:Nat}(j:∀c a,R c a->c.length=n){l:List α}{k:Nat}{a:α}{cs:Zo}(h:LR R xs l)(hi:i<l.length)(f:(xs.drop (i*n)).take n=c)(o:k+cs.length<=n)(ha:R (bN c k cs) a):LR R (bN xs (i*n+k) cs) (l.set i a):=by
 have g:=h.len j;have d:(i+1)*n<=l.length*n:=cv _ hi;rw[ir,rf]at d;have m:c.length=n:=by rw[<-f];simp;omega
 have b:=h.set j hi ha;have e:bN xs (i*n+k) cs=xs.take (i*n)++bN c k cs++xs.drop ((i+1)*n):=by
  rw[n9 _ _ _ O,n9 _ _ _ O];have e1:xs.take (i*n+k)=xs.take (i*n)++c.take k:=by rw[<-f,ou,jB O,List.take_add]
  have e2:xs.drop (i*n+k+cs.length)=c.drop (k+cs.length)++xs.drop ((i+1)*n):=by
   have h3:(xs.drop (i*n)).drop n=xs.drop ((i+1)*n):=by rw[lI,ir,rf]
   have h4:xs.drop (i*n)=c++xs.drop ((i+1)*n):=by rw[<-f,<-h3,pG]
   rw[Nat.add_assoc,<-lI,h4,List.drop_append_of_le_length O]
  rw[e1,e2];simp
 rw[e];exact b
def Ow.open'{α:Type}{R:PH->Zo->α->Prop}{e:TypeId}{l:List α}(h:Ow R e size I A v l)(b:0<l.length)(d:∀c a,R I c a->c.length=size):
  ∃g cap cur xs,v=.slice (some ⟨g,0,none⟩) l.length cap/\A=sg g (.cells cur e (0,0))/\l.length<=cap/\cap<=maxLen/\cur.size=cap*size/\cur.toList.take (l.length*size)=xs/\xs.length=l.length*size/\LR (R I) xs l:=by
 obtain⟨xs,h1,h2⟩:=h;obtain⟨g,cap,cur,e1,e2,k,j,i,f⟩:=h1.sg b;exact⟨g,cap,cur,xs,e1,e2,k,j,i,f,h2.len d,h2⟩
def qb{α:Type}{R:Zo->α->Prop}{n:Nat}(q:∀c a,R c a->c.length=n){g:Nat}{e:TypeId}{l:List α}{k m:Nat}(h:LR R xs l)(hi:i<l.length)(o:l.length*n<=cur.size)(d:cur.toList.take (l.length*n)=xs)(j:(xs.drop (i*n)).take n=c)(r:k+m<=n):
  a8 (sg g (.cells cur e (0,0))) g (i*n+k) ((c.drop k).take m):=by
 have b:=h.len q;have f:(i+1)*n<=l.length*n:=cv _ hi;rw[ir,rf]at f;have p:c.length=n:=by rw[<-j];simp;omega
 have h0:a8 (sg g (.cells cur e (0,0))) g 0 xs:=dz O (by rw[io,b];exact d);have h1:=(h0.sub (i*n) n O).sub k m (by rw[j];omega)
 rwa [j,g8]at h1
def Gl:prog.underlying 33=some (.slice 60):=by obtain⟨i,z,h,_⟩:=dr;exact h
def Ss:∃i,prog.info? 60=some i/\i.size=7:=by obtain⟨i,z,_,h,_,h2,_⟩:=dr;exact⟨i,h,h2⟩
def O4{H:PH}{n c:Nat}(b:n<=c)(hs:n=0\/∀x,a=some x->x.spot=none):Zv 261 #[.slice a n c] H fun v H2=>v=.slice a n n/\H2=H:=by
 refine aP 9 func261 fun w0=>?_;refine ai ?_;refine Ng (e:=60) (size:=7) (h:=n) (m:=n) rfl rfl (by exact Gl) (by exact Ss) rfl rfl rfl (aR _) b ?_;have:fZ a 7 0 n=a:=by
  rcases hs with rfl|hs
  .simp[fZ]
  .exact FI hs
 refine dB this ?_;exact aX (r:=[_]) rfl ⟨rfl,rfl⟩
def ag.ones(h:ag I c n):c.all Sx.one=true:=by obtain⟨d,a,k,e,_,b,_⟩:=h.shape;obtain⟨x,y,rfl,_⟩:=b;rw[e];rfl
def Ow.cap{α:Type}{R:PH->Zo->α->Prop}{e:TypeId}{l:List α}(h:Ow R e size I A v l)(b:∀c a,R I c a->c.length=size):zz v:=by
 rcases jA l.length with h0|h0
 .obtain⟨a,c,rfl⟩:=h.shape;show l.length<=c;omega
 .obtain⟨g,cap,cur,xs,rfl,_,h1,_⟩:=h.open' h0 b;exact h1
def Ow.capN{α:Type}{R:PH->Zo->α->Prop}{e:TypeId}{l:List α}(h:Ow R e size I A v l)(b:∀c a,R I c a->c.length=size):ky v:=by
 rcases jA l.length with h0|h0
 .obtain⟨a,c,rfl⟩:=h.shape;exact⟨O,fun h=>by omega⟩
 .obtain⟨g,cap,cur,xs,rfl,_,h1,h2,_⟩:=h.open' h0 b;exact⟨h1,fun _=>h2⟩
def Qs{ks:List M}(b:l[i]?=some n):(give (l.take i) ks++l.drop i)[i]?=some n/\(give (l.take i) ks++l.drop i).set i { n with kids:=n.kids++ks }=give (l.take (i+1)) ks++l.drop (i+1)/\i<l.length:=by
 have a:i<l.length:=by
  rcases aK i l.length with h|h
  .exact h
  .rw[fp h]at b;cases b
 have c:(give (l.take i) ks).length=i:=by simp[give];omega
 have hd:l.drop i=n::l.drop (i+1):=by rw[jz a];rw[aY a]at b;rw[cX b]
 refine⟨?_,?_,a⟩
 .rw[zr O,c,Nat.sub_self,hd];rfl
 .rw[List.set_append_right _ _ O,c,Nat.sub_self,hd,zv];have:give (l.take (i+1)) ks=give (l.take i) ks++[{ n with kids:=n.kids++ks }]:=by unfold give;rw[pH a,mw];rw[aY a]at b;rw[cX b];rfl
  rw[this,cD];rfl
def xQ(v a:Value)(n:Nat)(i:Nat):St:=⟨dn 25 [(0,.v v),(1,.v a),(7,.v (E n)),(8,.v (E i))],[]⟩
def Sb(v:Value)(l ks:List M)(a:PH)(i:Nat)(H:PH):Prop:=∃I A,H=U [I,A]/\Dj [I,A]/\a.le I/\i<=l.length/\aw I A v (give (l.take i) ks++l.drop i)
theorem kK{W:Value}{ks:List M}(hA:aw I A v l)(hk:bk I W ks)(hl:l.length<=ar)(hm:∀n∈l,n.kids.length+ks.length<=ar):
  Zu 205 #[v,W] I [A] fun v2 y qs=>∃A2,qs=[A2]/\aw y A2 v2 (give l ks):=by
 intro hd;obtain⟨va,vc,rfl⟩:=hA.shape;unfold ar at hl hm;refine aP 25 func205 fun w0=>?_;refine ai ?_;refine bV (fun x=>l.length-x) (xQ (.slice va l.length vc) W l.length) (Sb (.slice va l.length vc) l ks I) 0 al (by simp only[go_sem,Y,xQ]) ?_ ?_
 .exact⟨I,A,rfl,hd,aD _,aE _,by simpa[give]using hA⟩
 rintro i H ⟨z,A1,rfl,f,c,hi,J⟩ p;simp only[xQ];rcases aK i l.length with d|a5
 .have X:decide ((i:Int)<(l.length:Int))=true:=by simp;omega
  have e1:=wrap64 (n:=i+1) O;have V:IntKind.i64.wrap ((i:Int)+1)=((i+1:Nat):Int):=by rw[<-e1];congr 1
  obtain⟨n,hn⟩:∃n,l[i]?=some n:=⟨_,aY d⟩;obtain⟨g1,g2,_⟩:=Qs (ks:=ks) hn;have L:(give (l.take i) ks++l.drop i).length=l.length:=by simp[give];omega
  obtain⟨g,cap,cur,xs,ev,rfl,c1,c2,c3,c4,c5,B⟩:=J.open' O ag.len;rw[L]at ev c1 c4 c5;cases ev
  have T:=B.get ag.len g1;obtain⟨kv,na,nk,U,P,C,u⟩:=T.shape;obtain⟨N,kc,rfl,F⟩:=id C;have a2:l.length*7<=vc*7:=cv _ c1;have s:=qb (k:=4) (m:=1) (e:=60) (g:=g) (cur:=cur) ag.len B (i:=i) (by rw[L];exact d) (by rw[L];omega) (by rw[L];exact c4) U O;simp only[mq,io,mB,mC]at s;have a3:=hm n (db hn);have a4:(i+1)*7<=l.length*7:=cv _ d;have R:bk z W ks:=hk.le c;obtain⟨sa,sc,rfl,ac⟩:=id R;have fin:∀(y:PH) (K:Value) (an:Option Addr) (cn:Nat),K=.slice an (n.kids++ks).length cn->z.le y->bk y K (n.kids++ks)->ky K->aw y (sg g (.cells (bN cur.toList (i*7+4) [K]).toArray 60 (0,0))) (.slice (some ⟨g,0,none⟩) l.length vc) (give (l.take (i+1)) ks++l.drop (i+1)):=by
   intro y K an cn e Q h1 h2;rw[<-g2];refine⟨_,?_,qy ag.len (B.mono fun _ _ h=>ag.le h Q) (by rw[L];exact d) U (k:=4) (cs:=[K]) ao ?_⟩
   .rw[lJ,L];exact tZ c5 c1 c2 c3 c4 (by simp;omega)
   .exact ag.mk (n:={ n with kids:=n.kids++ks }) (P.le Q) h1 h2
  refine bd X ?_;refine⟨O,?_⟩;refine Zm (l:=[.slice N n.kids.length kc]) rfl (by simpa using cellsU f (.tail _ (.head _)) s) (.inr ⟨zV,rfl⟩) ?_;refine bd X ?_;refine Zl rfl Q3 (O4 u.1 (by
   rcases F with h0|⟨b,off,ys,rfl,_⟩
   .exact .inl (by rw[h0];rfl)
   .exact .inr fun x hx=>by cases hx;rfl)) fun v H2 hv=>?_
  obtain⟨rfl,rfl⟩:=hv;refine bJ ?_;rcases jA ks.length with w|w
  .have S:ks=[]:=List.length_eq_zero_iff.1 w;subst S;refine GF (by exact dr) rfl rfl rfl (aR _) rfl ?_;refine bJ ?_;refine⟨O,?_⟩;refine k0 f rfl rfl rfl rfl rfl (by exact y6) (by simp;omega) fun G=>?_;refine bd V ?_;refine p (i+1) _ _ (by show l.length-(i+1)<l.length-i;omega) (fE (by simp only[go_sem,Y,E,bg])) (by simp only[go_sem,Y,xQ]) ⟨z,_,rfl,G,c,d,?_⟩;have:=fin z (.slice N n.kids.length n.kids.length) N n.kids.length ao (aD _) ⟨N,n.kids.length,by simp,by simpa using F⟩ ⟨aR _,fun h=>fJ u.1 (u.2 h)⟩;exact this
  .obtain⟨ya,yo,ys,rfl,aa,o⟩:∃b off xs,sa=some ⟨b,off,none⟩/\a8 z b off xs/\LR (ag z) xs ks:=by
    rcases ac with h0|h0
    .rw[h0]at w;simp at w
    .exact h0
   obtain⟨a,aq,ap,am⟩:∃a,(n.kids.length=0\/∃b off,N=some ⟨b,off,none⟩/\a8 z b off a)/\a.length=n.kids.length*7/\LR (ag z) a n.kids:=by
    rcases F with h0|⟨b,off,zs,e1,e2,e3⟩
    .exact⟨[],.inl (by rw[h0];rfl),by rw[h0];rfl,by rw[h0];rfl⟩
    .exact⟨zs,.inr ⟨b,off,e1,e2⟩,e3.len ag.len,e3⟩
   refine MV f (by exact dr) rfl rfl rfl O rfl (aq.imp id fun⟨b,off,e,h⟩=>⟨b,off,e,cellsU f (.head _) h⟩) ap (cellsU f (.head _) aa) (o.len ag.len) (o.ones fun _ _ h=>ag.ones h) (by unfold maxLen;omega) O fun Z j y G q t aS=>?_;refine bJ ?_;refine⟨O,?_⟩;refine k0 G rfl rfl rfl rfl rfl (by exact y6) (by simp;omega) fun a1=>?_;refine bd V ?_;refine p (i+1) _ _ (by show l.length-(i+1)<l.length-i;omega) al (by simp only[go_sem,Y,xQ]) ⟨y,_,rfl,a1,D c q,d,?_⟩;exact fin y (.slice (some ⟨Z,0,none⟩) (n.kids.length+ks.length) j) (some ⟨Z,0,none⟩) j ao q ⟨_,j,by rw[aH],.inr ⟨Z,0,_,rfl,aS,(am.app o).mono fun _ _ h=>ag.le h q⟩⟩ ⟨t.1,fun _=>t.2⟩
 .have a0:i=l.length:=by omega
  subst a0;have X:decide ((l.length:Int)<(l.length:Int))=false:=ao;rw[dK,js,Y]at J;refine bd X ?_;exact az rfl f (r:=[_]) rfl c ⟨A1,rfl,J⟩
def nN:ay prog 138:=⟨_,func138,rfl,rfl⟩
def QU:ay prog 222:=⟨_,func222,rfl,rfl⟩
def IL:ay prog 223:=⟨_,func223,rfl,rfl⟩
def Q4:ay prog 263:=⟨_,func263,rfl,rfl⟩
def AD:ay prog 291:=⟨_,func291,rfl,rfl⟩
section
variable {C:Cx} {k:List Item} {σ:St} {α:Type} {R:PH->Zo->α->Prop}
def fk{ol rem:Zq}{o:Oper}{t e:TypeId}{size bytes:Nat}{x y:Operand}{v vy:Value}{xs ys:List α}{I A:PH}{l:Zt}(hd:Dj (I::A::l))(ht:cO C.P t e size bytes)(n:Ow R e size I A v xs)(r:Sl R I vy ys)(G:∀{I J c a},R I c a->I.le J->R J c a)(B:∀{I} c a,R I c a->c.length=size)(h1:∀{I} c a,R I c a->c.all Sx.one=true)
  (z:bH ol σ o=some true) (aa:o.op=.call ⟨.builtin .append,#[x,y],#[t,t]⟩) (w:ev σ x=.v v) (u:ev σ y=.v vy) (hb:(xs.length+ys.length)*bytes<=140737488355328) (s:xs.length+ys.length<=maxLen)
  (F:∀a c g m,Dj (g::m::l)->I.le g->Ow R e size g m (.slice a (xs++ys).length c) (xs++ys)->RC C (.op ol rem k) (σ.put o.dst (.v (.slice a (xs++ys).length c))) (U (g::m::l))):RC C (.op ol (o::rem) k) σ (U (I::A::l)):=by
 obtain⟨Q,N,rfl,r⟩:=r;rcases r with rfl|⟨b,off,zs,rfl,K,hr⟩
 .have j:=n.cap fun c a h=>B c a h;obtain⟨H,vc,rfl⟩:=n.shape;refine GF ht z aa w j u ?_;have:=F H vc I A hd (aD _) (by simpa using n);simpa using this
 .obtain⟨L,i,p⟩:=n;refine oB hd ht i z aa w u (cellsU hd (.head _) K) (hr.len fun c a h=>B c a h) (hr.ones fun c a h=>h1 c a h) hb s fun S g m q d f=>?_;obtain⟨a,c,rfl⟩:=f.slice;have e:xs.length+ys.length=(xs++ys).length:=ao;have:=F a c g m q d ⟨L++zs,by rw[e]at f;exact f,LR.app (p.mono fun _ _ h=>G h d) (hr.mono fun _ _ h=>G h d)⟩;rw[e];exact this
def uL{ol:Zq}{fr:cw}{str:cC}{i:Nat}{lo:List (Nat×Oper)}{o:Oper}{t e:TypeId}{size bytes:Nat}{x y:Operand}{v vy:Value}{xs ys:List α}{I A:PH}{l:Zt}(hd:Dj (I::A::l))(ht:cO C.P t e size bytes)(r:Ow R e size I A v xs)(w:Sl R I vy ys)(N:∀{I J c a},R I c a->I.le J->R J c a)(K:∀{I} c a,R I c a->c.length=size)(h1:∀{I} c a,R I c a->c.all Sx.one=true)
  (hs:str.h.contains i=false) (m:str.j.contains i=false) (G:bH ol σ o=some true) (aa:o.op=.call ⟨.builtin .append,#[x,y],#[t,t]⟩) (F:ev σ x=.v v) (B:ev σ y=.v vy) (hb:(xs.length+ys.length)*bytes<=140737488355328) (z:xs.length+ys.length<=maxLen)
  (L:∀a c g q,Dj (g::q::l)->I.le g->Ow R e size g q (.slice a (xs++ys).length c) (xs++ys)->RD C ol fr str lo k (σ.put o.dst (.v (.slice a (xs++ys).length c))) (U (g::q::l))):RD C ol fr str ((i,o)::lo) k σ (U (I::A::l)):=by
 obtain⟨W,V,rfl,w⟩:=w;rcases w with rfl|⟨b,off,zs,rfl,S,hr⟩
 .have p:=r.cap fun c a h=>K c a h;obtain⟨Q,vc,rfl⟩:=r.shape;obtain⟨a,b⟩:=LF (H:=U (I::A::l)) ht aa F p B;refine uM G a (by rw[aa];rfl) (b.mono fun sv H2 ⟨e1,e2⟩=>⟨kY.non hs m,?_⟩);subst e1;subst e2;have:=L Q vc I A hd (aD _) (by simpa using r);simpa using this
 .obtain⟨T,n,s⟩:=r;refine xi hd ht n hs m G aa F B (cellsU hd (.head _) S) (hr.len fun c a h=>K c a h) (hr.ones fun c a h=>h1 c a h) hb z fun X g q u d f=>?_;obtain⟨a,c,rfl⟩:=f.slice;have e:xs.length+ys.length=(xs++ys).length:=ao;have:=L a c g q u d ⟨T++zs,by rw[e]at f;exact f,LR.app (s.mono fun _ _ h=>N h d) (hr.mono fun _ _ h=>N h d)⟩;rw[e];exact this
end
variable{a:Option Addr}{h:aj}{I:PH}
def nG{k:Nat}(i:h.at'<2^61)(hr:bW I (.agg #[sD a k h.cond,rD h.cond]) h.cond):
  Zu 138 #[ij a k h] I [] fun v f g=>g=[]/\bM f v (bY h):=by
 intro hd;have e1:=wrap64 (n:=h.at'+1) O;have e:IntKind.i64.wrap ((h.at':Int)+1)=((h.at'+1:Nat):Int):=by rw[<-e1];congr 1
 refine aP 10 func138 fun w0=>?_
 try simp only[ij,E,sD,rD]
 refine dB e ?_;refine cI hd (by exact jw) rfl rfl rfl rfl rfl af fun nb f d b c=>?_;refine ai ?_;refine az rfl d (r:=[_]) rfl b ⟨rfl,_,_,rfl,.inr ⟨nb,0,[E (h.at'+1),sD a k h.cond,rD h.cond],rfl,bA c (by simp[ax,Value.cells]) (by simp[ax,Value.cells,E,sD,rD]),.one ⟨_,_,rfl,hr.le b⟩⟩⟩
def O7{vf:Value}{f:ad}(hf:bM I vf f)(s:f.length<=2^20):Zu 263 #[vf] I [] fun v o p=>∃A,p=[A]/\cV o A v f:=by
 intro hd;obtain⟨q,t,rfl,j⟩:=id hf;refine aP 8 func263 fun w0=>?_;cases q with
 |none=>
  have l:f=[]:=by
   rcases j with h|⟨b,off,xs,e,_⟩
   .exact h
   .cases e
  subst l;refine ai ?_;refine rH rfl rfl (by exact wD) rfl rfl ?_;apply RG;simp only[go_sem,Option.isNone];refine de hd fun d=>?_;exact az rfl d (r:=[_]) rfl (aD _) ⟨_,rfl,Ow.nil _ _ _ _⟩
 |some a=>refine ai ?_;refine rH rfl rfl (by exact wD) rfl rfl ?_;apply RG;simp only[go_sem,Option.isNone];refine rG hd (by exact jw) rfl rfl rfl rfl rfl af fun b A d g=>?_;refine ai ?_;refine fk d (by exact jw) (xs:=([]:ad)) (R:=cK) ⟨[],g,rfl⟩ hf (fun{I J c a} h k=>cK.le h k) (fun{I} c a h=>cK.len c a h) (fun{I} c a h=>cK.ones h) rfl rfl rfl rfl (by simp only[bg];omega) (by simp only[bg];unfold maxLen;omega) fun a2 c2 o u m i n=>?_;apply RG;simp only[go_sem,aQ];exact az rfl m (r:=[_]) rfl i ⟨_,rfl,n⟩
def JW{H:PH}{s:au}:Zv 223 #[.string ⟨⟨s⟩⟩] H fun v H2=>v=.int .i64 (if fV s=9 then -1 else (fV s:Int))/\H2=H:=by
 refine aP 22 func223 fun w0=>?_;cases h0:(s == [124,124])
 rotate_left
 .apply RG;simp only[go_sem,h0];exact aX (r:=[.int .i64 0]) rfl ⟨by rw[show fV s=0 from by rw[eq_of_beq h0];decide];rfl,rfl⟩
 cases h1:(s == [38,38])
 rotate_left
 .apply RG;simp only[go_sem,h0,h1];exact aX (r:=[.int .i64 1]) rfl ⟨by rw[show fV s=1 from by rw[eq_of_beq h1];decide];rfl,rfl⟩
 cases h2:(s == [61,61])
 rotate_left
 .apply RG;simp only[go_sem,h0,h1,h2];exact aX (r:=[.int .i64 2]) rfl ⟨by rw[show fV s=2 from by rw[eq_of_beq h2];decide];rfl,rfl⟩
 cases h3:(s == [33,61])
 rotate_left
 .apply RG;simp only[go_sem,h0,h1,h2,h3];exact aX (r:=[.int .i64 2]) rfl ⟨by rw[show fV s=2 from by rw[eq_of_beq h3];decide];rfl,rfl⟩
 cases h4:(s == [60])
 rotate_left
 .apply RG;simp only[go_sem,h0,h1,h2,h3,h4];exact aX (r:=[.int .i64 2]) rfl ⟨by rw[show fV s=2 from by rw[eq_of_beq h4];decide];rfl,rfl⟩
 cases h5:(s == [60,61])
 rotate_left
 .apply RG;simp only[go_sem,h0,h1,h2,h3,h4,h5];exact aX (r:=[.int .i64 2]) rfl ⟨by rw[show fV s=2 from by rw[eq_of_beq h5];decide];rfl,rfl⟩
 cases h6:(s == [62])
 rotate_left
 .apply RG;simp only[go_sem,h0,h1,h2,h3,h4,h5,h6];exact aX (r:=[.int .i64 2]) rfl ⟨by rw[show fV s=2 from by rw[eq_of_beq h6];decide];rfl,rfl⟩
 cases d:(s == [62,61])
 rotate_left
 .apply RG;simp only[go_sem,h0,h1,h2,h3,h4,h5,h6,d];exact aX (r:=[.int .i64 2]) rfl ⟨by rw[show fV s=2 from by rw[eq_of_beq d];decide];rfl,rfl⟩
 cases f:(s == [43])
 rotate_left
 .apply RG;simp only[go_sem,h0,h1,h2,h3,h4,h5,h6,d,f];exact aX (r:=[.int .i64 3]) rfl ⟨by rw[show fV s=3 from by rw[eq_of_beq f];decide];rfl,rfl⟩
 cases g:(s == [45])
 rotate_left
 .apply RG;simp only[go_sem,h0,h1,h2,h3,h4,h5,h6,d,f,g];exact aX (r:=[.int .i64 3]) rfl ⟨by rw[show fV s=3 from by rw[eq_of_beq g];decide];rfl,rfl⟩
 cases a:(s == [42])
 rotate_left
 .apply RG;simp only[go_sem,h0,h1,h2,h3,h4,h5,h6,d,f,g,a];exact aX (r:=[.int .i64 4]) rfl ⟨by rw[show fV s=4 from by rw[eq_of_beq a];decide];rfl,rfl⟩
 cases b:(s == [47])
 rotate_left
 .apply RG;simp only[go_sem,h0,h1,h2,h3,h4,h5,h6,d,f,g,a,b];exact aX (r:=[.int .i64 4]) rfl ⟨by rw[show fV s=4 from by rw[eq_of_beq b];decide];rfl,rfl⟩
 cases c:(s == [37])
 rotate_left
 .apply RG;simp only[go_sem,h0,h1,h2,h3,h4,h5,h6,d,f,g,a,b,c];exact aX (r:=[.int .i64 4]) rfl ⟨by rw[show fV s=4 from by rw[eq_of_beq c];decide];rfl,rfl⟩
 apply RG;simp only[go_sem,h0,h1,h2,h3,h4,h5,h6,d,f,g,a,b,c];have y:s≠F6:=fun e=>by rw[e]at h0;exact absurd h0 af
 have x:s≠FV:=fun e=>by rw[e]at h1;exact absurd h1 af
 have w:s≠FY:=fun e=>by rw[e]at h2;exact absurd h2 af
 have u:s≠F5:=fun e=>by rw[e]at h3;exact absurd h3 af
 have t:s≠F2:=fun e=>by rw[e]at h4;exact absurd h4 af
 have p:s≠F1:=fun e=>by rw[e]at h5;exact absurd h5 af
 have o:s≠F0:=fun e=>by rw[e]at h6;exact absurd h6 af
 have n:s≠FZ:=fun e=>by rw[e]at d;exact absurd d af
 have m:s≠F7:=fun e=>by rw[e]at f;exact absurd f af
 have l:s≠pq:=fun e=>by rw[e]at g;exact absurd g af
 have j:s≠F4:=fun e=>by rw[e]at a;exact absurd a af
 have i:s≠FW:=fun e=>by rw[e]at b;exact absurd b af
 have h:s≠F3:=fun e=>by rw[e]at c;exact absurd c af
 have q:fV s=9:=by unfold fV;rw[ab y,ab x,ab (by simp[w,u,t,p,o,n]),ab (by simp[m,l]),ab (by simp[j,i,h])]
 exact aX (r:=[.int .i64 (-1)]) rfl ⟨by rw[q];rfl,rfl⟩
open Go Go.Sx Dg Syn
def UB{H:PH}{b k:Nat}(hb:a8 H b 0 [E k])(d:k<=5){c:Nat}:Zv 222 #[ij a c h,pt b] H fun v H2=>v=.bool (gV k h)/\H2=H:=by
 refine aP 14 func222 fun w0=>?_
 try simp only[ij,E,pt,sD,rD]
 refine ai ?_;refine bG [0,1,2,3,4,5,7,6,8,9,10] [7] [6] ?_;by_cases h3:h.kind=3
 .have h6:((h.kind:Int) == 3)=true:=by simp[h3]
  apply bo;simp only[go_sem,h6,E,pt];refine Zn (l:=[E k]) rfl hb (.inr ⟨eR,rfl⟩) ?_;apply bo;simp only[go_sem,h6,E,pt];refine xj rfl rfl rfl rfl IL JW ?_;rintro v H2⟨rfl,rfl⟩;refine⟨kY.le (aD _),?_⟩;apply bo;simp only[go_sem,h6,E,pt];apply aN;refine ai ?_;refine aX (r:=[.bool ((if fV h.text=9 then -1 else (fV h.text:Int)) == (k:Int))]) rfl ⟨?_,rfl⟩;show Value.bool _=Value.bool (gV k h);congr 1;unfold gV;rw[h3];by_cases e:fV h.text=k
  .subst e;rw[ab O];simp
  .simp only[e];split<;>simp<;>omega
 .have h6:((h.kind:Int) == 3)=false:=by simp;omega
  apply bo;simp only[go_sem,h6,E,pt];apply aN;refine ai ?_;exact aX (r:=[.bool false]) rfl ⟨by simp[dY,gV,h3],rfl⟩
def CD{hb kind:Nat}{c:Nat}(f:a8 I hb 0 [E h.at',sD a c h.cond,rD h.cond,.int .u8 h.kind,.string ⟨⟨h.text⟩⟩])(hr:bW I (.agg #[sD a c h.cond,rD h.cond]) h.cond):
  Zu 291 #[.int .u8 kind,pt hb] I [] fun v i g=>∃A,g=[A]/\aw i A v [gC kind h 0]:=by
 intro hd;have h1:=f.sub 0 1 ao;have h2:=f.sub 1 2 ao;simp only[mq,io,mB,mC,g8]at h1 h2;refine aP 11 func291 fun w0=>?_
 try simp only[pt]
 refine ai ?_;refine Zm (l:=[_]) rfl (cellsU hd (.head _) h1) (.inr ⟨eR,rfl⟩) ?_;refine ai ?_;refine Zm (l:=[_,_]) (v:=.agg #[_,_]) rfl (cellsU hd (.head _) h2) (.inl ⟨jG,rfl⟩) ?_;refine bK ?_;refine rG hd (by exact dr) rfl rfl rfl rfl rfl af fun b A e d=>?_;refine ai ?_;refine az rfl e (r:=[_]) rfl (aD _) ⟨A,rfl,_,d,?_⟩;exact .one (ag.mk (n:=gC kind h 0) hr (Sl.nil _ _) p0)
def tL:ay prog 83:=⟨_,func83,rfl,rfl⟩
def Em:ay prog 144:=⟨_,func144,rfl,rfl⟩
def IF:ay prog 204:=⟨_,func204,rfl,rfl⟩
section
variable {Z:Zs} {f:ad}
end
def uO(Z:Zs)(r:Syn.aA):Value->PH->Zt->Prop:=fun v b a=>RN r v b a/\FN Z.length r.f/\r.l.length<=ar
section
variable (pb:Nat) (Z:Zs) (lv fv ov:Value)
def WF(a o:Nat)(args:Value->Array Value)(f:ad)(r:Syn.aA):Prop:=
 ∀{I X:PH} {dv vf:Value} {e:List aI},iG I Z lv fv->bM I vf f->FN Z.length f->bt I X dv e->e.length+r.e.length<=l9->
  Zu a (args vf) I [sg pb (bS lv fv ov dv o),X] (PP pb lv fv ov o (e++r.e) (uO Z r))
def WH(b o:Nat)(args:Value->Array Value)(h:aj)(r:Syn.aA):Prop:=
 ∀{I X:PH} {dv:Value} {a:Option Addr} {k:Nat} {e:List aI},iG I Z lv fv->du Z h->bW I (.agg #[sD a k h.cond,rD h.cond]) h.cond->bt I X dv e->e.length+r.e.length<=l9->
  Zu b (args (ij a k h)) I [sg pb (bS lv fv ov dv o),X] (PP pb lv fv ov o (e++r.e) (uO Z r))
def cW(a:Nat):Value:=.func (.func a) #[pt pb] #[]
def mG:Syn.Call->Syn.aA->Prop
 | .line k o f slot,r=>k<=5->o<=64->WF pb Z lv fv ov 144 o (fun vf=>#[pt pb,E k,vf,E slot]) f r
 | .unary o f slot,r=>o<=64->WF pb Z lv fv ov 220 o (fun vf=>#[pt pb,vf,E slot]) f r
 | .inside o f slot,r=>o<=64->WF pb Z lv fv ov 270 o (fun vf=>#[pt pb,vf,E slot]) f r
 | .listed par o f,r=>o<=64->WF pb Z lv fv ov 206 o (fun vf=>#[pt pb,vf,cW pb (if par then 207 else 83)]) f r
 | .behind typ o f sign slot,r=>o<=64->sign≠[]->WF pb Z lv fv ov 204 o (fun vf=>#[pt pb,vf,.string ⟨⟨sign⟩⟩,cW pb (if typ then 202 else 83),E slot]) f r
 | .vrb o f,r=>o<=64->WF pb Z lv fv ov 137 o (fun vf=>#[pt pb,vf]) f r
 | .function o f,r=>o<=64->WF pb Z lv fv ov 139 o (fun vf=>#[pt pb,vf]) f r
 | .block o f slot,r=>o<=64->WF pb Z lv fv ov 208 o (fun vf=>#[pt pb,vf,E slot]) f r
 | .stmt o h,r=>o<=64->WH pb Z lv fv ov 264 o (fun a=>#[pt pb,a]) h r
 | .branch o h slot,r=>o<=64->h.text≠[]->WH pb Z lv fv ov 292 o (fun a=>#[pt pb,a,E slot]) h r
 |_,_=>True
def jZ(n:Nat):Prop:=∀m,m<n->∀x r,run Z m x=some r->mG pb Z lv fv ov x r
end
section
variable {pb:Nat} {Z:Zs} {lv fv ov:Value}
variable{o:Nat}
def vP(kind slot:Nat)(f:ad):WF pb Z lv fv ov 201 o (fun vf=>#[pt pb,vf,.int .u8 kind,E slot]) f (named Z f kind slot):=by intro I X dv vf e h hf fn d hm;refine(Vf h hf fn d hm).mono ?_;rintro v k j _⟨a,i,b,e1,e2,g⟩;have:=vO h.ok fn kind slot;exact⟨a,i,b,e1,e2,g,nT h.ok fn kind slot,by have:=h.len;unfold ar;omega⟩
def Gj(slot:Nat)(f:ad):WF pb Z lv fv ov 202 o (fun vf=>#[pt pb,vf,E slot]) f (im Z f slot):=by intro I X dv vf e h hf fn d hm;refine(Yu h hf fn d hm).mono ?_;rintro v k j _⟨a,i,b,e1,e2,g⟩;have:=Yv h.ok fn slot;exact⟨a,i,b,e1,e2,g,Ck h.ok fn slot,by have:=h.len;unfold ar;omega⟩
def tF{slot:Nat}{f:ad}{r:Syn.aA}(g:mG pb Z lv fv ov (.line 0 o f slot) r)(j:o<=64):WF pb Z lv fv ov 83 o (fun vf=>#[pt pb,vf,E slot]) f r:=by
 intro I X dv vf e h hf fn k hm hd;refine aP 14 func83 fun w0=>?_
 try simp only[E,pt]
 refine ai ?_;refine av hd [0,1] [sg pb _,X] [] rfl Em rfl (g (aE _) j h hf fn k hm) ?_;rintro v u t b a⟨c,q,s,rfl,m,⟨A,B,d,vb,rfl,rfl,p,n⟩,l⟩;simp only[aU,aQ,Y]at b |-;refine ai ?_;exact az rfl b (r:=[d,vb]) rfl a ⟨c,q,[A,B],rfl,m,⟨A,B,d,vb,rfl,rfl,p,n⟩,l⟩
end
open Go Go.Sx Dg Syn
section
variable {pb:Nat} {Z:Zs} {lv fv ov:Value}
variable{r:Syn.aA}{n:Nat}
def fD{x:Syn.Call}(h:Syn.run Z n x=some r):∃m,n=m+1/\Syn.step Z (Syn.run Z m) x=some r:=by
 cases n with
 |zero=>cases h
 |succ m=>exact⟨m,rfl,h⟩
def cQ{α β:Type}{a:Option α}{f:α->Option β}{q:β}(h:(a >>= f)=some q):∃x,a=some x/\f x=some q:=by
 cases a with
 |none=>cases h
 |some x=>exact⟨x,rfl,h⟩
variable{typ:Bool}
def Wp{m o slot:Nat}{g:ad}{a:Syn.aA}(b:jZ pb Z lv fv ov n)(hm:m<n)(c:o<=64)(h:zZ Z (Syn.run Z m) typ o g slot=some a):WF pb Z lv fv ov (if typ then 202 else 83) o (fun vf=>#[pt pb,vf,E slot]) g a/\ay prog (if typ then 202 else 83):=by
 cases typ
 .exact⟨tF (b m hm _ _ h) c,tL⟩
 .cases h
  exact⟨Gj slot g,Es⟩
def z1(pb slot:Nat)(c a b:Value)(n:Nat)(x:Nat×Value):St:=⟨dn 52 [(0,.v (pt pb)),(3,.v c),(4,.v (E slot)),(13,.v a),(14,.v x.2),(27,.v b),(28,.v (E n)),(29,.v (E x.1))],[]⟩
def Jv(pb:Nat)(lv fv ov dv:Value)(o:Nat)(J:ad->aj->ad)(z:ad)(hs:List aj)(a:Zt)(b:PH)(x:Nat×Value)(H:PH):Prop:=
 ∃I A,H=U (I::sg pb (bS lv fv ov dv o)::A::a)/\Dj (I::sg pb (bS lv fv ov dv o)::A::a)/\b.le I/\x.1<=hs.length/\cV I A x.2 ((hs.take x.1).foldl J z)
theorem Oo(ih:jZ pb Z lv fv ov n){o:Nat}{f:ad}{sign:au}{slot:Nat}(hr:Syn.run Z n (.behind typ o f sign slot)=some r):mG pb Z lv fv ov (.behind typ o f sign slot) r:=by
 obtain⟨m,rfl,hs⟩:=fD hr;have u:Syn.behind Z (Syn.run Z m) typ o f sign slot=some r:=hs;unfold Syn.behind at u;obtain⟨yes,out,a7⟩:∃yes out,bP Z f (bq sign)=(yes,out):=⟨_,_,rfl⟩;rw[a7]at u;simp only at u;obtain⟨a,ha,e⟩:=cQ u;cases e
 clear u hs hr;intro ho a9 I X dv vf e h hf fn he hm hd;obtain⟨b4,b6⟩:=Wp ih (eF m) ho ha;have hl:=h.len;refine aP 52 func204 fun w0=>?_
 try simp only[E,pt,cW]
 refine ai ?_;refine av hd [0,1] [] [sg pb _,X] rfl nO rfl (oq (s:=sign)) ?_;rintro v I2 qs bx y⟨rfl,b1⟩;simp only[aU,aQ]at bx |-;obtain⟨fi,first,cap,rfl,gi,ci⟩:=id b1;refine ai ?_;refine av bx [0,1] [sg pb _] [X] rfl oN rfl (pj (h.le y) (bM.le hf y) fn b1) ?_;rintro v I3 qs bs aq⟨A,B,va,vb,rfl,rfl,hA,hB⟩;simp only[aU,aQ]at bs |-;have hY:=oh h.ok fn (is:=bq sign);have b0:=qU h.ok fn (bq sign);have S:=jx h.ok fn (bq sign);rw[a7]at hA hB hY b0 S;simp only at hA hB hY b0 S;obtain⟨ya,yc,rfl⟩:=hA.shape;obtain⟨ba,bc,rfl⟩:=hB.shape;refine ai ?_;refine ak bs [1,0,2,3] fun cb=>?_;refine aJ cb fun I4 ca w cA=>?_;have cf:fM I4 (.slice ya yes.length yc) yes:=i6 (R:=dM) (fun{I J c a} h k=>dM.le h k) hA w cA;refine de ca fun b8=>?_;refine ak b8 [1,0,2,3] fun b7=>?_;refine bV (fun x=>yes.length-x.1) (z1 pb slot (cW pb (if typ then 202 else 83)) (.slice ba out.length bc) (.slice ya yes.length yc) yes.length) (Jv pb lv fv ov dv o joinH1 [] yes [B,X] I4) (0,.slice none 0 0) (fE (by simp only[go_sem,Y,E,pt,cW])) (by simp only[go_sem,Y,z1]) ?_ ?_
 .exact⟨I4,PH.no,rfl,b7,aD _,aE _,Ow.nil _ _ _ _⟩
 rintro⟨i,vat⟩ H ⟨I5,A5,rfl,aS,q,hi,L⟩ ac;simp only at hi L;simp only[z1];have cl:fM I5 (.slice ya yes.length yc) yes:=cf.le q;have K:FN Z.length ((yes.take i).foldl joinH1 []):=AM (fun x W=>⟨(hY x (lL W)).1,xT a9 (hY x (lL W)).1 (hY x (lL W)).2⟩) (FN.nil _);have c3:=K.len;rcases aK i yes.length with bb|c2
 .have T:decide ((i:Int)<(yes.length:Int))=true:=by simp;omega
  have e1:=wrap64 (n:=i+1) O;have c1:IntKind.i64.wrap ((i:Int)+1)=((i+1:Nat):Int):=by rw[<-e1];congr 1
  obtain⟨x,W⟩:∃x,yes[i]?=some x:=⟨_,aY bb⟩;have a6:=hY x (db W);have b3:=xT a9 a6.1 a6.2;have e2:=wrap64 (n:=x.at'+1) O;have c0:IntKind.i64.wrap ((x.at':Int)+1)=((x.at'+1:Nat):Int):=by rw[<-e2];congr 1
  obtain⟨b,off,cs,rfl,cc,am⟩:=cl.load dM.len W;obtain⟨xa,xk,rfl,an⟩:=cc;have aa:=sd (g:=joinH1) (z:=[]) W;obtain⟨ta,tc,rfl⟩:=L.shape;apply RG;simp only[go_sem,T,E,pt,cW];refine⟨O,?_⟩;refine Zm (l:=[E x.at',sD xa xk x.cond,rD x.cond,.int .u8 x.kind,.string ⟨⟨x.text⟩⟩]) (v:=.agg #[E x.at',sD xa xk x.cond,rD x.cond,.int .u8 x.kind,.string ⟨⟨x.text⟩⟩]) rfl (cellsU aS (.head _) am) (.inl ⟨gv,rfl⟩) ?_;apply RG;simp only[go_sem,T,E,pt,sD,rD,c0];refine av aS [1,0,2,3] [A5] [sg pb _,B,X] rfl jK rfl (jL (a:=x.at'+1) L an K.ok.2 (fun t ht=>by have:=K.le t ht;omega) O O) ?_;rintro v I6 qs Q ap⟨A6,rfl,a4⟩;obtain⟨ta2,tc2,rfl⟩:=a4.shape;simp only[aU,aQ]at Q |-;refine dR c1 ?_;refine ak Q [1,0,2,3] fun F=>?_;rw[show Syn.join ((yes.take i).foldl joinH1 []) (x.at'+1) x.cond=(yes.take (i+1)).foldl joinH1 [] from aa.symm]at a4 |-;exact ac (i+1,.slice ta2 _ tc2) _ _ bi (fE (by simp only[go_sem,Y,E,pt,cW])) (by simp only[go_sem,Y,z1]) ⟨I6,A6,rfl,F,D q ap,bb,a4⟩
 .have b5:i=yes.length:=by omega
  subst b5;have T:decide ((yes.length:Int)<(yes.length:Int))=false:=ao;rw[dK]at L K;apply RG;simp only[go_sem,T,E,pt,cW];refine ak aS [1,0,2,3] fun Q=>?_;refine aJ Q fun I6 F p a5=>?_;have hG:bM I6 vat (yes.foldl joinH1 []):=i6 (R:=cK) (fun{I J c a} h k=>cK.le h k) L p a5;have G:=D y (D aq (D w (D q p)));refine dL ?_;refine av F [0,2,1] [sg pb _,X] [B] rfl b6 rfl (b4 (h.le G) hG K (he.le G) hm) ?_;rintro v I7 qs V C⟨dv2,D2,rs,rfl,cn,⟨A7,B7,vl,vg,rfl,rfl,cy,cx⟩,b2,cj⟩;simp only[aU,aQ]at V |-;refine dL ?_;refine ak V [3,0,1,2,4] fun a2=>?_;refine aJ a2 fun I8 a1 d a3=>?_;have cm:bM I8 vg a.f:=i6 (R:=cK) (fun{I J c a} h k=>cK.le h k) cx d a3;have cr:cV I8 B (.slice ba out.length bc) out:=(hB.le (D w (D q p))).le (D C d);refine av a1 [3,0,1,2] [B] [sg pb _,D2,A7] rfl j8 rfl (ke (N:=Z.length) O cr S cm b2) ?_;rintro v I9 qs U j⟨B9,rfl,cp⟩;simp only[aU,aQ]at U |-;refine dL ?_;refine ak U [1,2,3,0] fun a0=>?_;refine az rfl a0 (r:=[vl,v]) rfl (D G (D C (D d j))) ⟨dv2,D2,[A7,B9],rfl,cn.le (D d j),⟨A7,B9,vl,v,rfl,rfl,cy.le (D d j),cp⟩,S.joinAll b2,cj⟩
end
open Go Go.Sx Dg Syn
def QL:ay prog 207:=⟨_,func207,rfl,rfl⟩
def Iy:ay prog 137:=⟨_,func137,rfl,rfl⟩
def Qw:ay prog 139:=⟨_,func139,rfl,rfl⟩
def Et:ay prog 206:=⟨_,func206,rfl,rfl⟩
def xO:ay prog 208:=⟨_,func208,rfl,rfl⟩
section
variable {pb:Nat} {Z:Zs} {lv fv ov:Value}
def kI{l ks r:List M}(h:ix l ks=some r):∀n∈l,n.kids.length+ks.length<=ar:=by
 unfold ix at h;split at h
 .rename_i h2;intro n a;simpa using List.all_eq_true.1 h2 n a
 .cases h
def eK(l ks:List M):(give l ks).length=l.length:=by simp[give]
variable{v:Value}
def aw.sl{I J A:PH}{l:List M}(h:aw I A v l)(h1:I.le J)(h2:A.le J):bk J v l:=i6 (R:=ag) (fun{I J c a} h k=>ag.le h k) h h1 h2
def cV.sl{I J A:PH}{l:ad}(h:cV I A v l)(h1:I.le J)(h2:A.le J):bM J v l:=i6 (R:=cK) (fun{I J c a} h k=>cK.le h k) h h1 h2
def tj.sl{I J A:PH}{l:List aj}(h:tj I A v l)(h1:I.le J)(h2:A.le J):fM J v l:=i6 (R:=dM) (fun{I J c a} h k=>dM.le h k) h h1 h2
variable{r:Syn.aA}{o:Nat}
theorem VI{f:ad}(rec:Syn.fL)(hr:Syn.item Z rec true o f=some r):WF pb Z lv fv ov 207 o (fun vf=>#[pt pb,vf,E 0]) f r:=by
 unfold Syn.item at hr;simp only[cu]at hr;obtain⟨g,e1,ht⟩:∃g e1,Syn.take Z (named Z f 4 0).f dA=(g,e1):=⟨_,_,rfl⟩;rw[ht]at hr;simp only at hr;obtain⟨l,K,e⟩:=cQ hr;cases e
 have H:=fH K;have J:=kI K;subst H;clear K hr;intro I X dv vf e h hf fn he hm hd;have hl:=h.len;have t:dA≠[]:=by decide
 have nl:=vO h.ok fn 4 0;have nf:=nT h.ok fn 4 0;have tf:=iX h.ok nf t;rw[ht]at tf;simp only[aH]at hm;refine aP 30 func207 fun w0=>?_
 try simp only[E,pt]
 refine ai ?_;refine av hd [0,1] [sg pb _,X] [] rfl vm rfl (vP (kind:=4) (slot:=0) (f:=f) h hf fn he O) ?_;rintro v I2 G z j⟨dv2,D2,rs,rfl,aa,⟨A2,B2,va2,C,rfl,rfl,a1,ap⟩,_,_⟩;simp only[aU,aQ,Y]at z |-;refine ai ?_;refine ak z [3,0,1,2] fun R=>?_;refine aJ R fun I3 Q c an=>?_;have U:bM I3 C _:=ap.sl c an;have k3:=D j c;refine ai ?_;refine av Q [0,1,2] [sg pb _,D2] [A2] rfl oM rfl (pw (s:=dA) (h.le k3) U nf t (aa.le c) (by rw[ht];simp only[aH];omega)) ?_;rintro v I4 G y i⟨dv4,D4,rs,rfl,n,B4,rfl,p⟩;rw[ht]at n p;simp only at n p;simp only[aU,aQ,Y]at y |-;refine ai ?_;refine ak y [2,0,1,3] fun P=>?_;refine aJ P fun I5 N b am=>?_;have T:bM I5 v g:=p.sl b am;have k5:=D k3 (D i b);refine ai ?_;refine av N [0,1,2] [sg pb _,D4] [A2] rfl Es rfl (Gj (slot:=0) (f:=g) (h.le k5) T tf (n.le b) (by simp only[aH];omega)) ?_;rintro v I6 G x w⟨dv6,D6,rs,rfl,W,⟨A6,B6,F,q,rfl,rfl,a0,ac⟩,V,_⟩;simp only[aU,aQ,Y]at x |-;refine ai ?_;refine ak x [2,0,1,3,4] fun L=>?_;refine aJ L fun I7 B a aS=>?_;have S:bk I7 F _:=a0.sl a aS;have u:=D c (D i (D b (D w a)));refine ai ?_;refine av B [3,0,1,2] [A2] [sg pb _,D6,B6] rfl kL rfl (kK (a1.le u) S (by unfold ar;omega) J) ?_;rintro v I8 G k d⟨A8,rfl,aq⟩;simp only[aU,aQ,Y]at k |-;refine ai ?_;refine ak k [1,2,0,3] fun A=>?_;refine az rfl A (r:=[v,q]) rfl (D j (D u d)) ⟨dv6,D6,[A8,B6],rfl,?_,⟨A8,B6,v,q,rfl,rfl,aq,ac.le (D a d)⟩,V,by simp only[eK];unfold ar;omega⟩
 have:=W.le (D a d);simpa[cD]using this
theorem YN{n:Nat}(ih:jZ pb Z lv fv ov n){f:ad}(hr:Syn.run Z n (.vrb o f)=some r):mG pb Z lv fv ov (.vrb o f) r:=by
 obtain⟨m,rfl,hs⟩:=fD hr;have k:Syn.uu Z (Syn.run Z m) o f=some r:=hs;unfold Syn.uu at k;simp only at k;obtain⟨g1,e1,ht⟩:∃g e1,Syn.take Z (named Z f 2 0).f dA=(g,e1):=⟨_,_,rfl⟩;rw[ht]at k;simp only at k;obtain⟨c,hc,bc⟩:=cQ k;obtain⟨l1,P,bb⟩:=cQ bc;obtain⟨l2,N,K⟩:=cQ bb;obtain⟨g2,e2,z⟩:∃g e1,Syn.take Z c.f bT=(g,e1):=⟨_,_,rfl⟩;rw[z]at K;simp only at K;cases K
 have am:=kI P;have ac:=kI N;obtain rfl:=fH P;obtain rfl:=fH N;clear k bc bb hs hr P N;intro ho I X dv vf e h hf fn he hm hd;have hl:=h.len;have U:dA≠[]:=by decide
 have A:bT≠[]:=by decide
 have nl:=vO h.ok fn 2 0;have nf:=nT h.ok fn 2 0;have tf:=iX h.ok nf U;rw[ht]at tf;simp only[aH]at hm;refine aP 40 func137 fun w0=>?_
 try simp only[E,pt]
 refine ai ?_;refine av hd [0,1] [sg pb _,X] [] rfl vm rfl (vP (kind:=2) (slot:=0) (f:=f) h hf fn he O) ?_;rintro v I2 T b0 aa⟨dv2,D2,rs,rfl,cl,⟨A2,B2,va2,vb2,rfl,rfl,c1,cx⟩,_,_⟩;simp only[aU,aQ,Y]at b0 |-;refine ai ?_;refine ak b0 [3,0,1,2] fun b7=>?_;refine aJ b7 fun I3 b6 j cs=>?_;have cc:bM I3 vb2 _:=cx.sl j cs;have k3:=D aa j;refine ai ?_;refine av b6 [0,1,2] [sg pb _,D2] [A2] rfl oM rfl (pw (s:=dA) (h.le k3) cc nf U (cl.le j) (by rw[ht];simp only[aH];omega)) ?_;rintro v I4 T bx C⟨dv4,D4,rs,rfl,Q,B4,rfl,R⟩;rw[ht]at Q R;simp only at Q R;simp only[aU,aQ,Y]at bx |-;refine ai ?_;refine ak bx [2,0,1,3] fun b5=>?_;refine aJ b5 fun I5 b4 i cr=>?_;have cb:bM I5 v g1:=R.sl i cr;have k5:=D k3 (D C i);refine ai ?_;refine av b4 [0,1,2] [sg pb _,D4] [A2] rfl Es rfl (Gj (slot:=0) (f:=g1) (h.le k5) cb tf (Q.le i) (by simp only[aH];omega)) ?_;rintro v I6 T bs B⟨dv6,D6,rs,rfl,cj,⟨A6,B6,va6,vb6,rfl,rfl,c0,cp⟩,cf,_⟩;simp only[aU,aQ,Y]at bs |-;refine ai ?_;refine ak bs [2,0,1,3,4] fun b3=>?_;refine aJ b3 fun I7 a3 b cA=>?_;have b8:bk I7 va6 _:=c0.sl b cA;refine ak a3 [2,0,1,3] fun a2=>?_;refine aJ a2 fun I8 a1 a cn=>?_;have ca:bM I8 vb6 _:=cp.sl (D b a) cn;have k8:=D k5 (D B (D b a));refine ai ?_;refine av a1 [0,1,2] [sg pb _,D6] [A2] rfl IF rfl (ih m (eF m) _ _ hc ho af (h.le k8) ca cf (cj.le (D b a)) (by simp only[aH];omega)) ?_;rintro v I9 T J q⟨dv9,D9,rs,rfl,ci,⟨A9,B9,va9,vb9,rfl,rfl,cy,cm⟩,b1,_⟩
 simp only[aU,aQ,Y]at J |-;have b2:=D j (D C (D i (D B (D b (D a q)))));refine ai ?_;refine av J [4,0,1,2,3] [A2] [sg pb _,D9,A9,B9] rfl kL rfl (kK (c1.le b2) (bk.le b8 (D a q)) (by unfold ar;omega) am) ?_;rintro v c6 T H w⟨A10,rfl,ba⟩;simp only[aU,aQ,Y]at H |-;refine ai ?_;refine ak H [3,0,1,2,4] fun a0=>?_;refine aJ a0 fun c3 aS d a9=>?_;have a4:bk c3 va9 _:=cy.sl (D w d) a9;refine ai ?_;refine av aS [0,1,2,3] [A10] [sg pb _,D9,B9] rfl kL rfl (kK (ba.le d) a4 (by rw[eK];unfold ar;omega) ac) ?_;rintro v c5 T G L⟨S,rfl,a7⟩;simp only[aU,aQ,Y]at G |-;refine ai ?_;refine ak G [3,0,1,2] fun aq=>?_;refine aJ aq fun c2 ap u a6=>?_;have p:=D w (D d (D L u));have a5:bM c2 vb9 _:=cm.sl p a6;have W:=D k8 (D q p);refine ai ?_;refine av ap [1,2,0] [sg pb _,D9] [S] rfl oM rfl (pw (s:=bT) (h.le W) a5 b1 A (ci.le p) (by rw[z];simp only[aH];omega)) ?_;rintro v2 c4 T F t⟨dv14,D14,rs,rfl,x,B14,rfl,y⟩;rw[z]at x y;simp only at x y;simp only[aU,aQ,Y]at F |-;refine ai ?_;refine ak F [0,1,3,2] fun an=>?_;have V:=iX h.ok b1 A;rw[z]at V;refine az rfl an (r:=[v,v2]) rfl (D W t) ⟨dv14,D14,[S,B14],rfl,?_,⟨S,B14,v,v2,rfl,rfl,a7.le (D u t),y⟩,V,by simp only[eK];unfold ar;omega⟩;simpa[cD]using x
theorem Qo{n:Nat}(ih:jZ pb Z lv fv ov n){f:ad}(hr:Syn.run Z n (.function o f)=some r):mG pb Z lv fv ov (.function o f) r:=by
 obtain⟨m,rfl,hs⟩:=fD hr;have y:Syn.function Z (Syn.run Z m) o f=some r:=hs;unfold Syn.function at y;simp only at y;obtain⟨b,hb,b1⟩:=cQ y;obtain⟨c,hc,b0⟩:=cQ b1;obtain⟨d,b5,bx⟩:=cQ b0;obtain⟨l1,P,W⟩:=cQ bx;obtain⟨l2,N,V⟩:=cQ W;obtain⟨l3,L,b4⟩:=cQ V;cases b4
 have an:=kI P;have am:=kI N;have ac:=kI L;obtain rfl:=fH P;obtain rfl:=fH N;obtain rfl:=fH L;clear y b1 b0 bx W V hs hr P N L;intro ho I X dv vf e h hf fn he hm hd;have hl:=h.len;have nl:=vO h.ok fn 3 0;have nf:=nT h.ok fn 3 0;simp only[aH]at hm;refine aP 47 func139 fun w0=>?_
 try simp only[E,pt]
 refine ai ?_;refine av hd [0,1] [sg pb _,X] [] rfl vm rfl (vP (kind:=3) (slot:=0) (f:=f) h hf fn he O) ?_;rintro v I2 Q b3 aa⟨dv2,D2,rs,rfl,cx,⟨A2,B2,va2,vb2,rfl,rfl,c8,c3⟩,_,_⟩;simp only[aU,aQ,Y]at b3 |-;refine ai ?_;refine ak b3 [3,0,1,2] fun cc=>?_;refine aJ cc fun I3 cb s c2=>?_;have cm:bM I3 vb2 _:=c3.sl s c2;have k3:=D aa s;refine ai ?_;refine av cb [0,1,2] [sg pb _,D2] [A2] rfl Et rfl (ih m (eF m) _ _ hb ho (h.le k3) cm nf (cx.le s) (by simp only[aH];omega)) ?_;rintro v I4 Q b2 B⟨dv4,D4,rs,rfl,cs,⟨A4,B4,va4,vb4,rfl,rfl,c7,c1⟩,cp,_⟩;simp only[aU,aQ,Y]at b2 |-;refine ai ?_;refine ak b2 [2,0,1,3,4] fun ca=>?_;refine aJ ca fun I5 b8 l c6=>?_;have ci:bk I5 va4 _:=c7.sl l c6;refine ak b8 [2,0,1,3] fun b7=>?_;refine aJ b7 fun I6 b6 k c0=>?_;have cl:bM I6 vb4 _:=c1.sl (D l k) c0;have k6:=D k3 (D B (D l k));refine ai ?_;refine av b6 [0,1,2] [sg pb _,D4] [A2] rfl IF rfl (ih m (eF m) _ _ hc ho af (h.le k6) cl cp (cs.le (D l k)) (by simp only[aH];omega)) ?_;rintro v I7 Q J u⟨dv7,D7,rs,rfl,cr,⟨A7,B7,va7,vb7,rfl,rfl,c5,cA⟩,cn,_⟩;simp only[aU,aQ,Y]at J |-;refine ai ?_;refine ak J [2,0,1,3,4] fun a3=>?_;refine aJ a3 fun I8 a2 i c4=>?_;have cf:bk I8 va7 _:=c5.sl i c4;refine ak a2 [2,0,1,3] fun a1=>?_;refine aJ a1 fun I9 a0 g cy=>?_;have cj:bM I9 vb7 _:=cA.sl (D i g) cy;have k9:=D k6 (D u (D i g));refine ai ?_
 refine av a0 [0,1,2] [sg pb _,D7] [A2] rfl xO rfl (ih m (eF m) _ _ b5 ho (h.le k9) cj cn (cr.le (D i g)) (by simp only[aH];omega)) ?_;rintro v dk Q H j⟨dv10,z,rs,rfl,a6,⟨A10,x,R,A,rfl,rfl,bs,a7⟩,a5,_⟩;simp only[aU,aQ,Y]at H |-;refine ai ?_;refine ak H [2,0,1,3,4] fun aS=>?_;refine aJ aS fun c9 aq a bc=>?_;have a4:bk c9 R _:=bs.sl a bc;have U:=D s (D B (D l (D k (D u (D i (D g (D j a)))))));have T:=D k (D u (D i (D g (D j a))));have S:=D g (D j a);refine ai ?_;refine av aq [3,0,1,2] [A2] [sg pb _,z,x] rfl kL rfl (kK (c8.le U) (bk.le ci T) (by unfold ar;omega) an) ?_;rintro v dd Q G q⟨A12,rfl,bb⟩;simp only[aU,aQ,Y]at G |-;refine ai ?_;refine av G [0,1,2,3] [A12] [sg pb _,z,x] rfl kL rfl (kK bb (bk.le cf (D S q)) (by rw[eK];unfold ar;omega) am) ?_;rintro v dc Q F w⟨A13,rfl,ba⟩;simp only[aU,aQ,Y]at F |-;refine ai ?_;refine av F [0,1,2,3] [A13] [sg pb _,z,x] rfl kL rfl (kK ba (bk.le a4 (D q w)) (by rw[eK,eK];unfold ar;omega) ac) ?_;rintro v da Q C K⟨A14,rfl,a9⟩;simp only[aU,aQ,Y]at C |-;refine ai ?_;refine ak C [1,2,0,3] fun ap=>?_;have p:=D a (D q (D w K));refine az rfl ap (r:=[v,A]) rfl (D k9 (D j p)) ⟨dv10,z,[A14,x],rfl,?_,⟨A14,x,v,A,rfl,rfl,a9,a7.le p⟩,a5,by simp only[eK];unfold ar;omega⟩
 simpa[cD]using a6.le p
end
open Go Go.Sx Dg Syn
def Ez:ay prog 270:=⟨_,func270,rfl,rfl⟩
def yi(g:aj->Option Syn.aA)(r:Syn.aA)(h:aj):Option Syn.aA:=match g h with
 |some x=>if (r.l++x.l).length<=ar then some ⟨r.l++x.l,Syn.joinAll r.f x.f,r.e++x.e⟩else none
 |none=>none
theorem BA(Z:Zs)(f:ad)(g:aj->Option Syn.aA):iP Z f g=kG (yi g) ⟨[],[],[]⟩ (co Z f):=rfl
def yl{g:aj->Option Syn.aA}{r r':Syn.aA}{h:aj}(e:yi g r h=some r'):∃x,g h=some x/\(r.l++x.l).length<=ar/\r'=⟨r.l++x.l,Syn.joinAll r.f x.f,r.e++x.e⟩:=by
 unfold yi at e;split at e
 .rename_i x a;split at e
  .rename_i b;cases e
   exact⟨x,a,b,rfl⟩
  .cases e
 .cases e
def Ig{α β:Type}{g:α->β->Option α}{z r:α}{x:β}{l:List β}(e:kG g z (x::l)=some r):∃a,g z x=some a/\kG g a l=some r:=by
 unfold kG at e;split at e
 .rename_i b hb;exact⟨b,hb,e⟩
 .cases e
def Ax{α β:Type}{g:α->β->Option α}{z r:α}{l:List β}{i:Nat}{x:β}(b:l[i]?=some x)(e:kG g z (l.drop i)=some r):∃c,g z x=some c/\kG g c (l.drop (i+1))=some r:=by
 have a:i<l.length:=by
  rcases aK i l.length with h|h
  .exact h
  .rw[fp h]at b;cases b
 have hd:l.drop i=x::l.drop (i+1):=by rw[jz a];rw[aY a]at b;rw[cX b]
 rw[hd]at e;exact Ig e
def yj{g:aj->Option Syn.aA}:∀{l:List aj} {z r:Syn.aA},kG (yi g) z l=some r->z.e.length<=r.e.length
 | [],z,r,e=>by cases e;exact aR _
 |x::l,z,r,e=>by obtain⟨a,h1,h2⟩:=Ig e;obtain⟨y,_,_,rfl⟩:=yl h1;have:=yj h2;simp only[aH]at this;omega
def zi(o:Nat)(h:o<=64):IntKind.i64.wrap (((o+1:Nat):Int)-1)=(o:Int):=by have:=fF (a:=o+1) (b:=1) O O;rw[show ((1:Nat):Int)=1 from rfl]at this;rw[this];omega
section
variable {pb:Nat} {Z:Zs} {lv fv ov:Value}
def Bq(pb:Nat)(Z:Zs)(lv fv ov:Value)(o:Nat)(hs:List aj)(g:aj->Option Syn.aA)(r:Syn.aA)(e:List aI)(b:PH)(x:Nat×Value×Value×Value)(H:PH):Prop:=
 ∃I X A B a,H=U [I,sg pb (bS lv fv ov x.2.2.2 o),X,A,B]/\Dj [I,sg pb (bS lv fv ov x.2.2.2 o),X,A,B]/\b.le I/\x.1<=hs.length/\kG (yi g) a (hs.drop x.1)=some r/\bt I X x.2.2.2 (e++a.e)/\aw I A x.2.1 a.l/\cV I B x.2.2.1 a.f/\FN Z.length a.f/\a.l.length<=ar
def vB(pb slot:Nat)(a:Value)(n:Nat)(x:Nat×Value×Value×Value):St:=⟨dn 63 [(0,.v (pt pb)),(2,.v (E slot)),(8,.v x.2.1),(9,.v x.2.2.1),(16,.v a),(17,.v (E n)),(18,.v (E x.1))],[]⟩
theorem SM{n:Nat}(ih:jZ pb Z lv fv ov n){o:Nat}{f:ad}{slot:Nat}{r:Syn.aA}(hr:Syn.run Z n (.inside o f slot)=some r):mG pb Z lv fv ov (.inside o f slot) r:=by
 obtain⟨m,rfl,hs⟩:=fD hr;have cc:iP Z f (sr Z (Syn.run Z m) o slot)=some r:=hs;rw[BA]at cc;clear hs hr;intro ho I X dv vf e h hf fn he hm hd;have hl:=h.len;refine aP 63 func270 fun w0=>?_
 try simp only[E,pt]
 refine ai ?_;refine GH hd [0,1] rfl qm rfl (ps:=[sg pb _]) (F:=[X]) rfl (qr h hf fn) ?_;rintro v I2 qs ci G⟨rfl,hH⟩;obtain⟨ha,hc,rfl,_⟩:=id hH;simp only[aU,aQ]at ci |-;refine bJ ?_;have hN:∀x∈co Z f,du Z x:=fun x hx=>gx h.ok fn hx;have dw:=mQ h.ok fn;have c5:=hH;generalize co Z f=j at *;refine de ci fun c0=>?_;refine de c0 fun cA=>?_;refine ak cA [2,3,0,1] fun cy=>?_;refine bV (fun x=>j.length-x.1) (vB pb slot (.slice ha j.length hc) j.length) (Bq pb Z lv fv ov o j (sr Z (Syn.run Z m) o slot) r e I2) (0,.slice none 0 0,.slice none 0 0,dv) cN (by simp only[go_sem,Y,vB]) ?_ ?_
 .exact⟨I2,X,PH.no,PH.no,⟨[],[],[]⟩,rfl,cy,aD _,aE _,cc,by simpa using bt.le he G,Ow.nil _ _ _ _,Ow.nil _ _ _ _,FN.nil _,aE _⟩
 rintro⟨i,va,vb,dv⟩ H ⟨I3,D3,A3,B3,ri,rfl,U,p,cr,a1,hE,hA,hB,W,a2⟩ A;simp only at cr a1 hE hA hB;simp only[vB];have c4:fM I3 (.slice ha j.length hc) j:=c5.le p;rcases aK i j.length with a0|dx
 .have aq:decide ((i:Int)<(j.length:Int))=true:=by simp;omega
  have e1:=wrap64 (n:=i+1) O;have a3:IntKind.i64.wrap ((i:Int)+1)=((i+1:Nat):Int):=by rw[<-e1];congr 1
  obtain⟨x,hx⟩:∃x,j[i]?=some x:=⟨_,aY a0⟩;have cl:=db hx;have aS:=hN x cl;obtain⟨b,off,cs,rfl,c1,an⟩:=c4.load dM.len hx;obtain⟨xa,xk,rfl,R⟩:=c1;obtain⟨r',cm,L⟩:=Ax hx a1;have K:=yj L;obtain⟨y,hy,a5,rfl⟩:=yl cm;have h3:=h.le (D G p);simp only[aH]at K a5;refine eB aq ?_;refine⟨O,?_⟩;refine Zm (l:=[E x.at',sD xa xk x.cond,rD x.cond,.int .u8 x.kind,.string ⟨⟨x.text⟩⟩]) (v:=.agg #[E x.at',sD xa xk x.cond,rD x.cond,.int .u8 x.kind,.string ⟨⟨x.text⟩⟩]) rfl (cellsU U (.head _) an) (.inl ⟨gv,rfl⟩) ?_;unfold sr at hy;by_cases Q:x.text=cq
  .have cb:(x.text == [40])=true:=by rw[Q];decide
   rw[ab (by simp[Q])]at hy;apply RG;simp only[go_sem,aq,E,pt,sD,rD,cb,cL];by_cases S:o=64
   .rw[ah S]at hy;cases hy
    subst S;refine av U [0,1,2,3] [sg pb _,D3] [A3,B3] rfl oO rfl (xG h3 aS.le R hE (by simp[dh]at K |-;omega)) ?_;rintro v I4 qs z d⟨dv2,D4,rs,rfl,b6,rfl,rfl⟩;simp only[aU,aQ]at z |-;apply RG;simp only[go_sem,E,pt,sD,rD,a3,dg];exact A (i+1,va,vb,dv2) _ _ bi cN (by simp only[go_sem,Y,vB]) ⟨I4,D4,A3,B3,_,rfl,z,D p d,a0,L,by simp only;rw[<-cD];exact b6,by simpa using hA.le d,hB.le d,W,by simpa using a2⟩
   .rw[ab S]at hy;obtain⟨a,c2,a6⟩:=cQ hy;obtain⟨g,e2,ht⟩:∃g e1,Syn.take Z a.f dt=(g,e1):=⟨_,_,rfl⟩;rw[ht]at a6;simp only at a6;cases a6
    have a7:=aS.lt (.inl (by rw[Q];decide));have dd:=wrap64 (n:=x.at'+1) O;have e2'':IntKind.i64.wrap ((x.at':Int)+1)=((x.at'+1:Nat):Int):=by rw[<-dd];congr 1
    refine av U [0,1,2,3] [sg pb _] [D3,A3,B3] rfl oO rfl (xH (h:=x) (a:=xa) (k:=xk) O) ?_;rintro v I4 qs z d⟨rfl,rfl,rfl⟩;simp only[aU,aQ]at z |-;apply RG;simp only[go_sem,E,pt,sD,rD,a3,e2'',cL];refine cI z (by exact jw) rfl rfl rfl rfl rfl af fun nb I5 cx C cn=>?_;have c9:bM I5 (.slice (some ⟨nb,0,none⟩) 1 1) (bY x):=⟨_,_,rfl,.inr ⟨nb,0,[E (x.at'+1),sD xa xk x.cond,rD x.cond],rfl,bA cn (by simp[ax,Value.cells]) (by simp[ax,Value.cells,E,sD,rD]),.one ⟨_,_,rfl,R.le C⟩⟩⟩;refine aZ ?_;simp only[cD,aH]at K hm a5;refine av cx [0,1,2,3] [sg pb _,D3] [A3,B3] rfl tL rfl (tF (ih m (eF m) _ _ c2) O (h3.le C) c9 (eH aS a7) (hE.le C) (by simp only[aH];omega)) ?_;rintro v I6 qs cf a9⟨dv6,D6,rs,rfl,c7,⟨A6,B6,va6,vb6,rfl,rfl,dc,c8⟩,cj,dT⟩;simp only[aU,aQ]at cf |-;refine aZ ?_;refine ak cf [2,0,1,3,4,5] fun b4=>?_;refine aJ b4 fun I7 b3 w ca=>?_;have c3:bk I7 va6 a.l:=dc.sl w ca;refine ak b3 [3,0,1,2,4] fun b2=>?_;have a4:=D C (D a9 w);unfold ar at a5 a2;refine fk b2 (by exact dr) (hA.le a4) c3 (fun{I J c a} h k=>ag.le h k) (fun{I} c a h=>ag.len c a h) (fun{I} c a h=>ag.ones h) rfl rfl rfl rfl O (by unfold maxLen;omega) fun na nc I8 A8 b1 u da=>?_;refine aZ ?_;refine ak b1 [3,0,1,2,4] fun b0=>?_;refine aJ b0 fun I9 bx q b8=>?_;have c6:bM I9 vb6 a.f:=c8.sl (D w (D u q)) b8;have k9:=D G (D p (D a4 (D u q)))
    refine av bx [1,2,0,3] [sg pb _,D6] [A8,B3] rfl oM rfl (pw (s:=dt) (h.le k9) c6 cj af (c7.le (D w (D u q))) (by rw[ht];simp only[aH];omega)) ?_;rintro v d0 qs am T⟨dv10,D10,rs,rfl,aa,B10,rfl,ac⟩;rw[ht]at aa ac;have tf:=iX h.ok cj (s:=dt) af;rw[ht]at tf;simp only at aa ac tf;simp only[aU,aQ]at am |-;refine aZ ?_;refine ak am [2,0,1,3,4] fun bs=>?_;refine aJ bs fun ds bc t b7=>?_;have b5:bM ds v g:=ac.sl t b7;have k311:=D a4 (D u (D q (D T t)));refine av bc [3,0,1,2] [B3] [sg pb _,D10,A8] rfl j8 rfl (ke (N:=Z.length) O (hB.le k311) W b5 tf) ?_;rintro v dk qs V B⟨B12,rfl,ap⟩;simp only[aU,aQ]at V |-;refine aZ ?_;refine Zm (l:=[.int .i64 ((o+1:Nat):Int)]) rfl (cellsU V (.tail _ (.tail _ (.head _))) (dz (by simp[bS]) rfl)) (.inr ⟨eR,rfl⟩) ?_;apply RG;simp only[go_sem,E,pt,sD,rD,zi o ho];refine ak V [1,2,3,0] fun bb=>?_;refine k0 bb rfl rfl rfl rfl rfl (by exact sQ) ao fun ba=>?_;refine dR a3 ?_;obtain⟨ta,tc,rfl⟩:=ap.shape;exact A (i+1,.slice na (ri.l++a.l).length nc,.slice ta (Syn.joinAll ri.f g).length tc,dv10) _ _ bi cN (by simp only[go_sem,Y,vB]) ⟨dk,D10,A8,B12,_,rfl,ba,D p (D k311 B),a0,L,by simpa[cD]using aa.le (D t B),aw.le da (D q (D T (D t B))),ap,W.joinAll tf,by simp only[aH];unfold ar;omega⟩
  .have cb:(x.text == [40])=false:=by rw[i7];exact Q
   rw[ah Q]at hy;cases hy
   apply RG;simp only[go_sem,aq,E,pt,sD,rD,cb,dg];refine av U [0,1,2,3] [sg pb _,D3] [A3,B3] rfl ql rfl (qh h3 aS.le R hE (by simp[dh]at K |-;omega)) ?_;rintro v I4 qs z d⟨dv2,D4,rs,rfl,b6,rfl⟩;simp only[aU,aQ]at z |-;refine dR a3 ?_;exact A (i+1,va,vb,dv2) _ _ bi cN (by simp only[go_sem,Y,vB]) ⟨I4,D4,A3,B3,_,rfl,z,D p d,a0,L,by simp only;rw[<-cD];exact b6,by simpa using hA.le d,hB.le d,W,by simpa using a2⟩
 .have cp:i=j.length:=by omega
  subst cp;have aq:decide ((j.length:Int)<(j.length:Int))=false:=ao;rw[js]at a1;cases a1
  refine eB aq ?_;exact az rfl U (r:=[va,vb]) rfl (D G p) ⟨_,D3,[A3,B3],rfl,hE,⟨A3,B3,va,vb,rfl,rfl,hA,hB⟩,W,a2⟩
end
open Go Go.Sx Dg Syn
def El:ay prog 135:=⟨_,func135,rfl,rfl⟩
section
variable {pb:Nat} {Z:Zs} {lv fv ov:Value}
def C0(pb:Nat)(Z:Zs)(lv fv ov:Value)(n:Nat)(top:Bool)(o:Nat)(f:PH)(vr:Value):Prop:=
 ∃b first cap,vr=.func (.func b) first cap/\ay prog b/\∀m,m<n->∀(x:aj) a,wi (Syn.run Z m) top o x=some a->
  ∀{I X:PH} {dv:Value} {d:Option Addr} {c:Nat} {e:List aI},f.le I->iG I Z lv fv->du Z x->bW I (.agg #[sD d c x.cond,rD x.cond]) x.cond->bt I X dv e->e.length+a.e.length<=l9->
   Zu b (first++[ij d c x].toArray++cap) I [sg pb (bS lv fv ov dv o),X] (PP pb lv fv ov o (e++a.e) (uO Z a))
def CM(pb:Nat)(Z:Zs)(lv fv ov:Value)(o:Nat)(I:PH)(v:Value)(is:aj->Bool):Prop:=∃f first cap,v=.func (.func f) first cap/\ay prog f/\∀J,I.le J->iG J Z lv fv->∀(dv:Value) (h:aj) (a:Option Addr) (k:Nat),bW J (.agg #[sD a k h.cond,rD h.cond]) h.cond->
 Zu f (first++[ij a k h].toArray++cap) J [sg pb (bS lv fv ov dv o)] fun v c b=>b=[sg pb (bS lv fv ov dv o)]/\v=.bool (is h)
variable{o:Nat}
def mE.toP{I:PH}{v:Value}{is:aj->Bool}(h:mE I v is):CM pb Z lv fv ov o I v is:=by obtain⟨f,first,cap,rfl,g,c⟩:=h;refine⟨f,first,cap,rfl,g,fun J b _ dv x a k hr hd=>?_⟩;refine((c J b x a k hr).frame (F:=[sg pb (bS lv fv ov dv o)]) hd).mono fun v H2 ⟨j,l,e1,e2,i,e,d⟩=>?_;subst e;exact⟨j,_,e1,e2,i,rfl,d⟩
structure GS where
 m:Nat
 fl:Nat
 vf:Value
 vl:Value
 vo:Value
 dv:Value
def yR(pb:Nat)(vi vr:Value)(x:GS):St:=⟨dn 62 [(0,.v (pt pb)),(1,.v x.vf),(2,.v vi),(3,.v vr),(10,.v x.vl),(11,.v x.vo)],[]⟩
def Left(Z:Zs)(top:Bool)(o:Nat)(r:Syn.aA)(m:Nat)(f:ad)(l:List M)(out:ad)(ee:List aI):Prop:=
 ∃b,Syn.run Z m (.seqL top o f l out)=some b/\b.l=r.l/\b.f=r.f/\ee++b.e=r.e
def Xq(pb:Nat)(Z:Zs)(lv fv ov:Value)(top:Bool)(n o:Nat)(r:Syn.aA)(e:List aI)(a:PH)(x:GS)(H:PH):Prop:=
 ∃I X A B f l out ee,H=U [I,sg pb (bS lv fv ov x.dv o),X,A,B]/\Dj [I,sg pb (bS lv fv ov x.dv o),X,A,B]/\a.le I/\x.m<=n/\x.fl=f.length/\Left Z top o r x.m f l out ee/\
  bM I x.vf f/\FN Z.length f/\bt I X x.dv (e++ee)/\aw I A x.vl l/\cV I B x.vo out/\FN Z.length out/\l.length<=ar
def wr(pb:Nat)(vi vr:Value)(a:Value)(n:Nat)(x:Nat×Value×Value×Value×Value):St:=⟨dn 62 [(0,.v (pt pb)),(1,.v x.2.1),(2,.v vi),(3,.v vr),(10,.v x.2.2.1),(11,.v x.2.2.2.1),(23,.v a),(24,.v (E n)),(25,.v (E x.1))],[]⟩
def WX(pb:Nat)(Z:Zs)(lv fv ov:Value)(top:Bool)(m o:Nat)(r:Syn.aA)(e:List aI)(hs:List aj)(d:PH)(g:ad)(c:List M)(a:ad)(b:List aI)(x:Nat×Value×Value×Value×Value)(H:PH):Prop:=
 ∃I X A B C f l out ee,H=U [I,sg pb (bS lv fv ov x.2.2.2.2 o),X,A,B,C]/\Dj [I,sg pb (bS lv fv ov x.2.2.2.2 o),X,A,B,C]/\d.le I/\x.1<=hs.length/\
  cV I C x.2.1 f/\FN Z.length f/\bt I X x.2.2.2.2 (e++ee)/\aw I A x.2.2.1 l/\cV I B x.2.2.2.1 out/\FN Z.length out/\l.length<=ar/\
  ((x.1=0/\f=[]/\l=c/\out=a/\ee=b)\/(0<x.1/\Left Z top o r m ((hs.drop x.1).foldl joinH f) l out ee))
variable{ee:List aI}{l:List M}{out:ad}{r:Syn.aA}{top:Bool}
def Left.le{m:Nat}{f:ad}(h:Left Z top o r m f l out ee):ee.length<=r.e.length:=by obtain⟨b,_,_,_,h⟩:=h;rw[<-h];simp
def Pw{α:Type}{l:List α}{i:Nat}{x:α}(b:l[i]?=some x):l.drop i=x::l.drop (i+1):=by
 have a:i<l.length:=by
  rcases aK i l.length with h|h
  .exact h
  .rw[fp h]at b;cases b
 rw[jz a];rw[aY a]at b;rw[cX b]
def Uo{m:Nat}{f:ad}{x:aj}{hs:List aj}(h:Left Z top o r m f l out ee)(q:co Z f=x::hs):∃m',m=m'+1/\
  (n8 Z top x=true->Left Z top o r m' (hs.foldl joinH []) l (joinH out x) ee)/\
  (n8 Z top x=false->∃a,wi (Syn.run Z m') top o x=some a/\(l++a.l).length<=ar/\Left Z top o r m' (hs.foldl joinH (Syn.joinAll [] a.f)) (l++a.l) out (ee++a.e)):=by
 obtain⟨b,hb,h1,h2,h3⟩:=h;obtain⟨m',rfl,k⟩:=fD hb;have c:Syn.seqL Z (Syn.run Z m') top o f l out=some b:=k;unfold Syn.seqL at c;rw[q]at c;simp only at c;refine⟨m',rfl,fun d=>?_,fun d=>?_⟩
 .rw[d]at c;exact⟨b,c,h1,h2,h3⟩
 .rw[ab (by rw[d];simp)]at c;obtain⟨a,ha,j⟩:=cQ c;obtain⟨u,p,i⟩:=cQ j;obtain⟨b',n,g⟩:=cQ i;cases g
  exact⟨a,ha,u6 p,b',n,h1,h2,by rw[cD];exact h3⟩
def JK{m:Nat}{f:ad}(h:Left Z top o r m f l out ee)(d:co Z f=[]):l=r.l/\out=r.f/\ee=r.e/\∃m',m=m'+1:=by
 obtain⟨b,hb,h1,h2,h3⟩:=h;obtain⟨m',rfl,c⟩:=fD hb;have a:Syn.seqL Z (Syn.run Z m') top o f l out=some b:=c;unfold Syn.seqL at a;rw[d]at a;simp only at a;cases a
 exact⟨h1,h2,by simpa using h3,m',rfl⟩
theorem Fx{n:Nat}{f:ad}(hr:Syn.run Z n (.seqL top o f [] [])=some r){I X:PH}{dv vf vi vr:Value}{e:List aI}(hi:CM pb Z lv fv ov o I vi (n8 Z top))(hv:C0 pb Z lv fv ov n top o I vr)(h:iG I Z lv fv)(hf:bM I vf f)(fn:FN Z.length f)(he:bt I X dv e)(hm:e.length+r.e.length<=l9):
  Zu 135 #[pt pb,vf,vi,vr] I [sg pb (bS lv fv ov dv o),X] (PP pb lv fv ov o (e++r.e) (uO Z r)):=by
 intro hd;have hl:=h.len;obtain⟨fr,frst,fcap,rfl,gr,cr⟩:=id hv;obtain⟨fi,Q,icap,rfl,gi,ci⟩:=id hi;refine aP 62 func135 fun w0=>?_
 try simp only[E,pt]
 refine ai ?_;refine de hd fun da=>?_;refine de da fun c9=>?_;refine ak c9 [2,3,0,1] fun c8=>?_;refine bV (fun x=>2*x.m+min x.fl 1) (yR pb (.func (.func fi) Q icap) (.func (.func fr) frst fcap)) (Xq pb Z lv fv ov top n o r e I) ⟨n,f.length,vf,.slice none 0 0,.slice none 0 0,dv⟩ cN (by simp only[go_sem,Y,yR]) ?_ ?_
 .exact⟨I,X,PH.no,PH.no,f,[],[],[],rfl,c8,aD _,aR _,rfl,⟨r,hr,rfl,rfl,rfl⟩,hf,fn,by simpa using he,Ow.nil _ _ _ _,Ow.nil _ _ _ _,FN.nil _,aE _⟩
 rintro⟨m,fl,vf,vl,vo,dv⟩ H ⟨I3,D3,A3,B3,f,l,out,ee,rfl,cc,ac,b6,rfl,hL,a9,fn3,hE,hA,hB,cm,cj⟩ aa;simp only at b6 hL a9 hE hA hB;simp only[yR];obtain⟨fa,fc,rfl,_⟩:=id a9;have h3:=h.le ac;rcases jA f.length with h0|h0
 ·
  have c5:f=[]:=List.length_eq_zero_iff.1 h0;have b4:decide ((f.length:Int)>0)=false:=by simp;omega
  obtain⟨rfl,rfl,rfl,_⟩:=JK hL (by rw[c5];rfl);refine eB b4 ?_;exact az rfl cc (r:=[vl,vo]) rfl ac ⟨_,D3,[A3,B3],rfl,hE,⟨A3,B3,vl,vo,rfl,rfl,hA,hB⟩,cm,cj⟩
 .have b4:decide ((f.length:Int)>0)=true:=by simp;omega
  refine eB b4 ?_;refine av cc [0,1,2,3] [sg pb _] [D3,A3,B3] rfl qm rfl (qr h3 a9 fn3) ?_;rintro v I4 qs cb S⟨rfl,hH⟩;obtain⟨ha,hc,rfl,_⟩:=id hH;simp only[aU,aQ]at cb |-;refine dL ?_;have hN:∀x∈co Z f,du Z x:=fun x hx=>gx h.ok fn3 hx;have d5:=mQ h.ok fn3;refine de cb fun c7=>?_;refine ak c7 [1,2,3,4,0] fun c6=>?_;refine bV (fun x=>(co Z f).length-x.1) (wr pb (.func (.func fi) Q icap) (.func (.func fr) frst fcap) (.slice ha (co Z f).length hc) (co Z f).length) (WX pb Z lv fv ov top (m-1) o r e (co Z f) I4 f l out ee) (0,.slice none 0 0,vl,vo,dv) cN (by simp only[go_sem,Y,wr]) ?_ ?_
  .exact⟨I4,D3,A3,B3,PH.no,[],l,out,ee,rfl,c6,aD _,aE _,Ow.nil _ _ _ _,FN.nil _,hE.le S,hA.le S,hB.le S,cm,cj,.inl ⟨rfl,rfl,rfl,rfl,rfl⟩⟩
  rintro⟨i,v1,vl,vo,dv⟩ H ⟨I5,D5,A5,B5,C5,f5,l5,P,ee5,rfl,a4,z,c3,W,fn5,V,am,L,p,C,y⟩ s;simp only at c3 W V am L y;simp only[wr];have dk:fM I5 (.slice ha (co Z f).length hc) (co Z f):=hH.le z;have k5:=D ac (D S z);have h5:=h.le k5;have b7:∀q:Nat,q<=ar->(q+0)*96<=140737488355328:=fun q U=>by unfold ar at U;omega
  obtain⟨m',rfl⟩:∃m',m=m'+1:=by obtain⟨b,hb,_⟩:=hL;obtain⟨m',e,_⟩:=fD hb;exact⟨m',e⟩
  have cA:=fn5.len;have cy:=p.len;rcases aK i (co Z f).length with a3|d7
  .have aS:decide ((i:Int)<((co Z f).length:Int))=true:=by simp;omega
   have e1:=wrap64 (n:=i+1) O;have d0:IntKind.i64.wrap ((i:Int)+1)=((i+1:Nat):Int):=by rw[<-e1];congr 1
   obtain⟨x,hx⟩:∃x,(co Z f)[i]?=some x:=⟨_,aY a3⟩;have cx:=db hx;have a1:=hN x cx;have an:=a1.le;obtain⟨b,off,cs,rfl,dc,aq⟩:=dk.load dM.len hx;obtain⟨xa,xk,rfl,R⟩:=dc;have ca:=Pw hx;obtain⟨c1,c2,rfl⟩:=W.shape;refine eB aS ?_;refine⟨O,?_⟩;refine Zm (l:=[E x.at',sD xa xk x.cond,rD x.cond,.int .u8 x.kind,.string ⟨⟨x.text⟩⟩]) (v:=.agg #[E x.at',sD xa xk x.cond,rD x.cond,.int .u8 x.kind,.string ⟨⟨x.text⟩⟩]) rfl (cellsU a4 (.head _) aq) (.inl ⟨gv,rfl⟩) ?_;rcases jA i with b8|b8
   .subst b8;rcases y with ⟨_,rfl,rfl,rfl,rfl⟩|⟨a6,_⟩
    .obtain⟨m2,em,sy,sn⟩:=Uo hL ca;obtain rfl:m'=m2:=O;have e01:IntKind.i64.wrap ((0:Int)+1)=((1:Nat):Int):=by decide
     apply RG;simp only[go_sem,aS,E,pt,sD,rD,dP,gt_iff_lt,Int.lt_irrefl,decide_false];refine av a4 [0,1,2,3,4] [sg pb _] [D5,A5,B5,C5] rfl gi rfl (ci I5 k5 h5 dv x xa xk R) ?_;rintro v I6 qs B g⟨rfl,rfl⟩;simp only[aU,aQ]at B |-;cases a2:n8 Z top x
     .obtain⟨a,ha,cf,F⟩:=sn a2;have a7:=F.le;simp only[aH]at cf a7;refine dR a2 ?_;refine av B [0,1,2,3,4] [sg pb _,D5] [A5,B5,C5] rfl gr rfl (cr m' O x a ha (D k5 g) (h5.le g) a1 (R.le g) (V.le g) (by simp only[aH];omega)) ?_;rintro v I7 qs j d⟨dv7,D7,rs,rfl,ds,⟨A7,B7,va7,vb7,rfl,rfl,dx,a5⟩,cn,d9⟩;simp only[aU,aQ]at j |-;refine aZ ?_;refine ak j [2,0,1,3,4,5,6] fun A=>?_;refine aJ A fun I8 b0 w b3=>?_;have dd:bk I8 va7 a.l:=dx.sl w b3;refine ak b0 [3,0,1,2,4,5] fun bx=>?_;have b5:=D g (D d w);unfold ar at cf C;refine fk bx (by exact dr) (am.le b5) dd (fun{I J c a} h k=>ag.le h k) (fun{I} c a h=>ag.len c a h) (fun{I} c a h=>ag.ones h) rfl rfl rfl rfl O (by unfold maxLen;omega) fun na nc I9 A9 bs K dw=>?_;refine aZ ?_;refine ak bs [3,0,1,2,4,5] fun bc=>?_;refine aJ bc fun d4 bb u b2=>?_;have b1:bM d4 vb7 a.f:=a5.sl (D w (D K u)) b2;have k510:=D b5 (D K u);refine av bb [4,0,1,2,3] [C5] [A9,sg pb _,D7,B5] rfl j8 rfl (ke (N:=Z.length) O (W.le k510) (FN.nil _) b1 cn) ?_;rintro v d3 qs ap G⟨C11,rfl,T⟩;obtain⟨d1,d2,rfl⟩:=T.shape;simp only[aU,aQ]at ap |-;refine dR e01 ?_;refine ak ap [2,3,1,4,0] fun ba=>?_;have k511:=D k510 G
      exact s (0+1,.slice d1 (Syn.joinAll [] a.f).length d2,.slice na (l5++a.l).length nc,vo,dv7) _ _ bi cN (by simp only[go_sem,Y,wr]) ⟨d3,D7,A9,B5,C11,_,_,_,_,rfl,ba,D z k511,a3,T,(FN.nil _).joinAll cn,by rw[<-cD];exact ds.le (D w (D K (D u G))),aw.le dw (D u G),L.le k511,p,by simp only[aH];unfold ar;omega,.inr ⟨by simp only;omega,F⟩⟩
     .refine dR a2 ?_;obtain⟨o1,o2,rfl⟩:=L.shape;refine av B [3,0,1,2,4] [B5] [sg pb _,D5,A5,C5] rfl jK rfl (jL (a:=x.at') (L.le g) (R.le g) p.ok.2 (fun t ht=>by have:=p.le t ht;omega) O O) ?_;rintro v I7 qs j d⟨B7,rfl,a5⟩;obtain⟨p1,p2,rfl⟩:=a5.shape;simp only[aU,aQ]at j |-;refine dR e01 ?_;refine ak j [1,2,3,0,4] fun A=>?_;have a0:=D g d;exact s (0+1,.slice c1 ([]:ad).length c2,vl,.slice p1 (Syn.join P x.at' x.cond).length p2,dv) _ _ bi (fE (by simp only[go_sem,Y,E,pt,bg])) (by simp only[go_sem,Y,wr]) ⟨I7,D5,A5,B7,C5,_,_,_,_,rfl,A,D z a0,a3,W.le a0,FN.nil _,V.le a0,am.le a0,a5,p.join an a1.ok,C,.inr ⟨by simp only;omega,sy a2⟩⟩
    .omega
   .rcases y with ⟨a6,_⟩|⟨_,F⟩
    .omega
    .have dT:decide ((i:Int)>0)=true:=by simp;omega
     apply RG;simp only[go_sem,aS,E,pt,sD,rD,dT];refine av a4 [4,0,1,2,3] [C5] [sg pb _,D5,A5,B5] rfl jK rfl (jL (a:=x.at') W R fn5.ok.2 (fun t ht=>by have:=fn5.le t ht;omega) O O) ?_;rintro v I7 qs j d⟨C7,rfl,cp⟩;obtain⟨p1,p2,rfl⟩:=cp.shape;simp only[aU,aQ]at j |-;refine dR d0 ?_;refine ak j [1,2,3,4,0] fun A=>?_;rw[ca,g7]at F;exact s (i+1,.slice p1 (Syn.join f5 x.at' x.cond).length p2,vl,vo,dv) _ _ bi cN (by simp only[go_sem,Y,wr]) ⟨I7,D5,A5,B5,C7,_,_,_,_,rfl,A,D z d,a3,cp,fn5.join an a1.ok,V.le d,am.le d,L.le d,p,C,.inr ⟨by simp only;omega,F⟩⟩
  .have c0:i=(co Z f).length:=by omega
   subst c0;have aS:decide (((co Z f).length:Int)<((co Z f).length:Int))=false:=ao;refine eB aS ?_;refine ak a4 [4,0,1,2,3] fun B=>?_;refine aJ (c:=.st _) B fun I6 j d T=>?_;have cl:bM I6 v1 f5:=W.sl d T;rcases y with ⟨a6,rfl,rfl,rfl,rfl⟩|⟨a6,F⟩
   .have c4:co Z f=[]:=List.length_eq_zero_iff.1 a6;obtain⟨e2,e3,e4,_⟩:=JK hL c4;refine aa ⟨m'+1,0,v1,vl,vo,dv⟩ _ _ bi cN (by simp only[go_sem,Y,yR]) ⟨I6,D5,A5,B5,[],l5,P,ee5,rfl,j,D k5 d,b6,rfl,⟨⟨l5,P,[]⟩,rfl,e2,e3,by simpa using e4⟩,cl,FN.nil _,V.le d,am.le d,L.le d,p,C⟩
   .rw[js,List.foldl_nil]at F;refine aa ⟨m',f5.length,v1,vl,vo,dv⟩ _ _ bi cN (by simp only[go_sem,Y,yR]) ⟨I6,D5,A5,B5,f5,l5,P,ee5,rfl,j,D k5 d,by simp only;omega,rfl,F,cl,fn5,V.le d,am.le d,L.le d,p,C⟩
end
end Go.Proofs.YtfaclfkpnmcmlaaGreatDoor
namespace Go.Sx
open Go
section
variable {P:Program} {ol:Zq} {fr:cw} {str:cC} {K:St->PH->Prop}
def GT:∀(l m:Zp) {σ:St} {H:PH},VD P ol fr str K (l++m) σ H<->VD P ol fr str (VD P ol fr str K m) l σ H
 | [],m,σ,H=>Iff.rfl
 |i::l,m,σ,H=>by
  have e:VD P ol fr str K (l++m)=VD P ol fr str (VD P ol fr str K m) l:=by funext σ' H';exact propext (GT l m)
  simp only[aU,VD];cases ol[i]? with
  |none=>simp only[e]
  |some o=>simp only[e]
structure Inv(ops:Array Oper)(κ:Zp)(listed:Array Bool):Prop where
 size:listed.size=ops.size
 mem:∀i,i∈κ<->i<ops.size/\listed.getD i true=false
 closed:∀y o,ops.toList[y]?=some o->listed.getD y false=true->∀z∈j4 o,listed.getD z false=true
variable{listed:Array Bool}{κ:Zp}{ops:Array Oper}
def Inv.perm{κ':Zp}(h:Inv ops κ listed)(hp:∀i,i∈κ'<->i∈κ):Inv ops κ' listed:=⟨h.size,fun i=>(hp i).trans (h.mem i),h.closed⟩
theorem Inv.step{l1 l2:Zp}{i:Nat}(h:Inv ops (l1++i::l2) listed)(hi:i∉l1++l2){oi:Oper}(f:ops.toList[i]?=some oi)(hd:∀z∈j4 oi,listed.getD z false=true):Inv ops (l1++l2) (listed.setIfInBounds i true):=by
 have h1:=((h.mem i).1 (gD _ (.head _))).1;have r:=h.size;have a:∀(j:Nat) (d:Bool),(listed.setIfInBounds i true).getD j d=if i=j then (if i<listed.size then true else d)else listed.getD j d:=by
  intro j d;rw[jy,CH];by_cases e:i=j
  .subst e;by_cases c:i<listed.size<;>simp[c]
  .simp[e,jy]
 refine⟨by simp[h.size],fun j=>?_,fun y o g c z n=>?_⟩
 .rw[a];by_cases e:i=j
  .subst e;simp only[cu,ah (show i<listed.size by omega)];exact⟨fun l=>absurd l hi,fun s=>by cases s.2⟩
  .simp only[ab e];rw[<-h.mem j];constructor
   .intro b;rcases List.mem_append.1 b with b|b
    .exact gm _ b
    .exact gD _ (.tail _ b)
   .intro b;rcases List.mem_append.1 b with b|b
    .exact gm _ b
    .rcases List.mem_cons.1 b with rfl|b
     .exact absurd rfl e
     .exact gD _ b
 .rw[a]at c |-;have m:i<listed.size:=O;by_cases p:i=z
  .subst p;simp[m]
  .simp only[ab p];by_cases q:i=y
   .subst q;rw[f]at g;cases g;exact hd z n
   .simp only[ab q]at c;exact h.closed y o g c z n
def KZ(listed:Array Bool)(i:Nat):i∈Region.ready .any ops listed<->i<ops.size/\listed.getD i true=false/\∃o,ops[i]?=some o/\∀z∈j4 o,listed.getD z false=true:=by
 simp only[Region.ready,kw,List.mem_range,cZ,sX];constructor
 .rintro⟨h1,h2,h3⟩;refine⟨h1,h2,?_⟩;cases a:ops[i]? with
  |none=>rw[a]at h3;cases h3
  |some o=>rw[a]at h3;simp only[df,rh]at h3;refine⟨o,rfl,fun z c=>?_⟩;simp only[j4,my,kw]at c;obtain⟨e,⟨b,hb⟩,rfl⟩:=c;have:=Array.all_eq_true'.1 h3 e (by simpa using b);simpa[hb]using this
 .rintro⟨h1,h2,o,a,h3⟩;refine⟨h1,h2,?_⟩;rw[a];simp only[df,rh];refine Array.all_eq_true'.2 fun e b=>?_;cases hb:Region.binds .any e with
  |false=>rfl
  |true=>have:=h3 e.on (by simp only[j4,my,kw];exact⟨e,⟨by simpa using b,hb⟩,rfl⟩);simpa using this
variable{cl:List (Zp)}
def Vn(f:vR ops.toList cl=true)(h:Inv ops κ listed)(hr:Region.ready .any ops listed=[]):κ=[]:=by
 have m:=h.size;have d:ops.size=ops.toList.length:=(ot).symm;have a:∀i:Nat,ops[i]?=ops.toList[i]?:=fun i=>by simp
 have key:∀n i,i<n->i<ops.size->listed.getD i true=true:=by
  intro n
  induction n with
  |zero=>intro i h;omega
  |succ n g=>
   intro i hi c;cases o:listed.getD i true with
   |true=>rfl
   |false=>
    exfalso;have b:ops[i]?=some ops[i]:=sW c;have:i∈Region.ready .any ops listed:=(KZ listed i).2 ⟨c,o,ops[i],b,fun z j=>by have h1:=List.all_eq_true.1 f i (List.mem_range.2 O);rw[<-a i,b]at h1;simp only[cZ]at h1;have e:=List.all_eq_true.1 h1.1 z j;simp only[dE]at e;have:=g z O O;rw[jy]at this |-;rw[sW O]at this |-;simpa using this⟩
    rw[hr]at this;cases this
 cases κ with
 |nil=>rfl
 |cons i l=>exfalso;have:=(h.mem i).1 (.head _);rw[key (i+1) i O this.1]at this;exact Bool.noConfusion this.2
def rZ(ol:Zq)(b:List (Zp))(fr:cw)(str:cC)(i:Nat)(l:Zp):Bool:=
 l.all fun x=>(b.getD i []).contains x || match ol[x]?,ol[i]? with
  |some ox,some a=>ug ol (fr.at' x) (str.at' x) (str.at' i) ox a
  |_,_=>false
variable{w0:World}
def Ys{n0:Nat}{H0:PH}(hn:n0=w0.heap.size)(R:vR ops.toList cl=true){p q:Nat}{r1 r2:Zp}(bb:p≠q)
  (a3:r1.all (fun i=>(cl.getD i []).contains p || (cl.getD i []).contains q)=true) (hr:∀i,i∈r2<->i∈r1) :
  ∀(e9:Nat) (κ:Zp) (listed:Array Bool) {σ:St} {H:PH} {a:Act} {w:World},(κ++p::q::r1).length<=e9->(κ++q::p::r2).length<=e9->
   fR ops.toList cl fr str (κ++q::r1)=true->fR ops.toList cl fr str (κ++p::r2)=true->rZ ops.toList cl fr str p κ=true->rZ ops.toList cl fr str q κ=true->fR ops.toList cl fr str κ=true->p∉κ++q::r1->q∉κ++p::r2->
   Inv ops (κ++p::q::r1) listed->eX σ.bx->VD P ops.toList fr str (fun σ H=>VD P ops.toList fr str K (p::q::r1) σ H/\VD P ops.toList fr str K (q::p::r2) σ H) κ σ H->cP H0 w0 H w->G n0 σ H a w->wpAny P .any ops (QK n0 H0 w0 K) e9 listed a w:=by
 have S:∀i:Nat,ops[i]?=ops.toList[i]?:=fun i=>by simp
 have j:∀{listed:Array Bool} {x:Nat},listed.getD x false=true->listed.getD x true=false->False:=by
  intro listed x h1 h2;rw[jy]at h1 h2;cases hg:listed[x]? with
  |none=>rw[hg]at h1;cases h1
  |some b=>rw[hg]at h1 h2;simp only[rh]at h1 h2;rw[h1]at h2;cases h2
 intro e9
 induction e9 with
 |zero=>intro κ listed σ H a w d;simp at d
 |succ e9 ih=>
  intro κ listed σ H a w d m X V aS aq a4 N Z hI hs h st g;refine⟨fun hr=>?_,fun i hi=>?_⟩
  .have:=Vn R hI hr;simp at this
  .obtain⟨h1,h2,oi,J,f⟩:=(KZ listed i).1 hi;have c:ops.toList[i]?=some oi:=by rw[<-S];exact J
   have a7:i∈κ++p::q::r1:=(hI.mem i).2 ⟨h1,h2⟩;have A:=Do R (L:=fun x=>listed.getD x false=true) hI.closed (i+1) i O oi c f;have bub:∀(l:Zp),(∀x∈l,x∈κ)->rZ ops.toList cl fr str i l=true->∀x∈l,∃ox,ops.toList[x]?=some ox/\ug ops.toList (fr.at' x) (str.at' x) (str.at' i) ox oi=true:=by
    intro l hl hb x y;have:=List.all_eq_true.1 hb x y;simp only[sY]at this;rcases this with z|z
    .exact(j (A x (by simpa using z)) ((hI.mem x).1 (gm _ (hl x y))).2).elim
    .split at z
     .rename_i ox oy e1 e2;rw[c]at e2;cases e2;exact⟨ox,e1,z⟩
     .cases z
   have fin:∀(u v:Nat) (o:Zp),i=u->(∀x,x∈κ++u::v::o<->x∈κ++p::q::r1)->(κ++u::v::o).length<=e9+1->fR ops.toList cl fr str (κ++v::o)=true->rZ ops.toList cl fr str u κ=true->u∉κ++v::o->VD P ops.toList fr str (VD P ops.toList fr str K (u::v::o)) κ σ H->
     wpOp P ops (QK n0 H0 w0 K) i (wpAny P .any ops (QK n0 H0 w0 K) e9 (listed.setIfInBounds i true)) a w:=by
    intro u v o e ac d hp hb aa hv;subst e;have a9:=hI.perm ac;have a2:=(GT (K:=K) κ (i::v::o)).2 hv;have a0:=Ac (K:=K) (P:=P) c κ (v::o) hs (bub κ (fun _ h=>h) hb) a2;simp only[VD,c]at a0;have F:=(xq (K':=fun σ' H'=>eX σ'.bx/\VD P ops.toList fr str K (κ++v::o) σ' H') (fun σ' H' I h'=>⟨I,h'⟩) hs a0).toV;have n:=a9.step aa c f;refine zO J hn (fun σ' H' a' w' r B g'=>?_) F st g;exact Hf hn rfl R e9 (κ++v::o) _ (by simp at d |-;omega) n.size hp n.mem n.closed r.1 r.2 B g'
   have Q:∀x,x∈κ++q::p::r2<->x∈κ++p::q::r1:=fun x=>by
    simp only[jR,ku,hr];constructor
    .rintro(h|h|h|h)
     .exact .inl h
     .exact .inr (.inr (.inl h))
     .exact .inr (.inl h)
     .exact .inr (.inr (.inr h))
    .rintro(h|h|h|h)
     .exact .inl h
     .exact .inr (.inr (.inl h))
     .exact .inr (.inl h)
     .exact .inr (.inr (.inr h))
   rcases List.mem_append.1 a7 with r|r
   .obtain⟨t,s,rfl⟩:=List.append_of_mem r;have W:fR ops.toList cl fr str (t++i::(s++q::r1))=true:=by simpa using X
    have U:fR ops.toList cl fr str (t++i::(s++p::r2))=true:=by simpa using V
    obtain⟨_,pb,T⟩:=yt W;obtain⟨_,pb2,pc2⟩:=yt U;obtain⟨pk,pbk,pck⟩:=yt a4;have hb:=Ac (K:=fun σ H=>VD P ops.toList fr str K (p::q::r1) σ H/\VD P ops.toList fr str K (q::p::r2) σ H) (P:=P) c t s hs (fun x y=>by
     rcases pk x y with a1|⟨ox,oy,e1,e2,e3⟩
     .exact(j (A x a1) ((hI.mem x).1 (gm _ (gm _ y))).2).elim
     .rw[c]at e2;cases e2;exact⟨ox,e1,e3⟩) h
    simp only[VD,c]at hb;have F:=(xq (K':=fun σ' H'=>eX σ'.bx/\VD P ops.toList fr str (fun σ H=>VD P ops.toList fr str K (p::q::r1) σ H/\VD P ops.toList fr str K (q::p::r2) σ H) (t++s) σ' H') (fun σ' H' I h'=>⟨I,h'⟩) hs (by simpa only[VD]using hb)).toV;have a6:i≠p:=fun e=>by subst e;exact N ao
    have a5:i∉(t++s)++p::q::r1:=by
     intro hm;simp only[cD,jR,ku]at hm T;rcases hm with h|h|h|h|h
     .exact T (.inl h)
     .exact T (.inr (.inl h))
     .exact a6 h
     .exact T (.inr (.inr (.inl h)))
     .exact T (.inr (.inr (.inr h)))
    have ba:Inv ops (t++i::(s++p::q::r1)) listed:=hI.perm fun x=>by simp
    have n:=ba.step (by simpa using a5) c f;have an:rZ ops.toList cl fr str p (t++s)=true:=List.all_eq_true.2 fun x y=>List.all_eq_true.1 aS x (by
     rcases List.mem_append.1 y with h|h
     .exact gm _ h
     .exact gD _ (.tail _ h))
    have am:rZ ops.toList cl fr str q (t++s)=true:=List.all_eq_true.2 fun x y=>List.all_eq_true.1 aq x (by
     rcases List.mem_append.1 y with h|h
     .exact gm _ h
     .exact gD _ (.tail _ h))
    refine zO J hn (fun σ' H' a' w' ap B g'=>?_) F st g;refine ih (t++s) _ (by simp at d |-;omega) (by simp at m |-;omega) (by simpa using pb) (by simpa using pb2) an am pbk (fun hm=>N ?_) (fun hm=>Z ?_) (by simpa using n) ap.1 ap.2 B g'
    .simp only[cD,jR,ku]at hm |-;rcases hm with h|h|h|h
     .exact .inl h
     .exact .inr (.inl (.inr h))
     .exact .inr (.inr (.inl h))
     .exact .inr (.inr (.inr h))
    .simp only[cD,jR,ku]at hm |-;rcases hm with h|h|h|h
     .exact .inl h
     .exact .inr (.inl (.inr h))
     .exact .inr (.inr (.inl h))
     .exact .inr (.inr (.inr h))
   .rcases List.mem_cons.1 r with e|r
    .exact fin p q r1 e (fun x=>Iff.rfl) d X aS N (zN (fun σ' H' _ h=>h.1) κ hs h)
    .rcases List.mem_cons.1 r with e|r
     .exact fin q p r2 e Q m V aq Z (zN (fun σ' H' _ h=>h.2) κ hs h)
     .exfalso;have:=List.all_eq_true.1 a3 i r;simp only[sY]at this;rcases this with z|z
      .exact j (A p (by simpa using z)) ((hI.mem p).1 ao).2
      .exact j (A q (by simpa using z)) ((hI.mem q).1 ao).2
def qC(ol:Zq)(κ:Zp)(p q:Nat)(a b:Zp)(fr:cw)(str:cC):Bool:=
 vR ol (kC ol) && (List.range ol.length).all ((κ++p::q::a).contains ·) && decide (p≠q) && decide (p<ol.length) && decide (q<ol.length) &&
 a.all (fun i=>((kC ol).getD i []).contains p || ((kC ol).getD i []).contains q) && a.all (b.contains ·) && b.all (a.contains ·) &&
 fR ol (kC ol) fr str (κ++q::a) && fR ol (kC ol) fr str (κ++p::b) && rZ ol (kC ol) fr str p κ && rZ ol (kC ol) fr str q κ && fR ol (kC ol) fr str κ &&
 !(κ++q::a).contains p && !(κ++p::b).contains q
def HV{n0:Nat}{H0:PH}(S:n0=w0.heap.size)(hm:P.follows .mixedOrders=true){id:Nat}{p q:Nat}{r1 r2:Zp}(n:qC ops.toList κ p q r1 r2 fr str=true){σ:St}{H:PH}{a:Act}{w:World}
  (hs:eX σ.bx) (h:VD P ops.toList fr str (fun σ H=>VD P ops.toList fr str K (p::q::r1) σ H/\VD P ops.toList fr str K (q::p::r2) σ H) κ σ H) (st:cP H0 w0 H w) (g:G n0 σ H a w):(Code.region id ops true).wp P (QK n0 H0 w0 K) a w:=by
 simp only[qC,cZ,dE,sX]at n;obtain⟨⟨⟨⟨⟨⟨⟨⟨⟨⟨⟨⟨⟨⟨h1,h2⟩,z⟩,A⟩,v⟩,u⟩,t⟩,s⟩,b⟩,j⟩,N⟩,L⟩,B⟩,I⟩,F⟩:=n;have f:p∉κ++q::r1:=by simpa using I
 have e:q∉κ++p::r2:=by simpa using F
 have mem:∀(l:Zp),fR ops.toList (kC ops.toList) fr str l=true->∀i∈l,i<ops.size:=by
  intro l
  induction l with
  |nil=>intro _ i hi;cases hi
  |cons x l r=>
   intro hp i hi;simp only[fR,cZ,dE]at hp;rcases List.mem_cons.1 hi with rfl|hi
   .simpa using hp.1.1.1
   .exact r hp.2 i hi
 have len:∀(l:Zp),fR ops.toList (kC ops.toList) fr str l=true->l.Nodup:=by
  intro l
  induction l with
  |nil=>intro _;exact List.nodup_nil
  |cons x l r=>intro hp;simp only[fR,cZ]at hp;exact List.nodup_cons.2 ⟨by simpa using hp.1.1.2,r hp.2⟩
 have d:p<ops.size:=by simpa using A
 have c:q<ops.size:=by simpa using v
 have R:(κ++p::q::r1).length<=ops.size:=by
  have m:(p::(κ++q::r1)).Nodup:=List.nodup_cons.2 ⟨f,len _ b⟩;have:=Bn ops.size _ m fun i hi=>by
   rcases List.mem_cons.1 hi with rfl|hi
   .exact d
   .exact mem _ b i hi
  simp at this |-;omega
 have Q:(κ++q::p::r2).length<=ops.size:=by
  have m:(q::(κ++p::r2)).Nodup:=List.nodup_cons.2 ⟨e,len _ j⟩;have:=Bn ops.size _ m fun i hi=>by
   rcases List.mem_cons.1 hi with rfl|hi
   .exact c
   .exact mem _ j i hi
  simp at this |-;omega
 refine wp_region_any hm (Ys S h1 z u (fun i=>⟨fun hi=>by simpa using List.all_eq_true.1 s i hi,fun hi=>by simpa using List.all_eq_true.1 t i hi⟩) ops.size κ _ R Q b j N L B f e ⟨by simp,fun i=>?_,fun y o T J=>?_⟩ hs h (w:={ w with drawn:=w.drawn+1 }) ?_ ?_)
 .constructor
  .intro hi;have:i<ops.size:=by
    simp only[jR,ku]at hi;rcases hi with hi|rfl|rfl|hi
    .exact mem _ b i (gm _ hi)
    .exact d
    .exact c
    .exact mem _ b i (gD _ (.tail _ hi))
   exact⟨this,by simp[jy,this]⟩
  .rintro⟨hi,_⟩;have:=List.all_eq_true.1 h2 i (List.mem_range.2 (by simpa using hi));simpa using this
 .exfalso;rw[jy,Array.getElem?_replicate]at J;split at J<;>cases J
 .exact⟨st.sub,st.size,st.priv,st.dom,st.os,st.tape,st.out⟩
 .obtain⟨β,g⟩:=g;exact⟨β,g.defers,g.size,g.tm,g.bx,g.inj,g.lo,g.keys⟩
end
section
variable {C:Cx} {k:List Item} {σ:St} {H:PH}
def Gq{P:Program}{ol:Zq}{fr:cw}{str:cC}{K K':St->PH->Prop}(k:∀σ' H',K σ' H'->K' σ' H'):∀(l:List (Nat×Oper)) {σ:St} {H:PH},uR P ol fr str K l σ H->uR P ol fr str K' l σ H
 | [],σ,H,h=>k _ _ h
 |(i,o)::l,σ,H,h=>LY (fun σ' H' a=>Gq k l a) h
def oC(C:Cx)(ol:Zq)(fr:cw)(str:cC)(b a:List (Nat×Oper))(l:List (Nat×Oper))(k:List Item)(σ:St)(H:PH):Prop:=uR C.P ol fr str (fun σ H=>RD C ol fr str b k σ H/\RD C ol fr str a k σ H) l σ H
def G0{ol:Zq}{fr:cw}{str:cC}{r1 r2:List (Nat×Oper)}:∀(l:List (Nat×Oper)) (σ:St) (ps:List Prop),jT (ig C.P ol fr.k str.k fr.kp l σ ps).1->oC C ol fr str r1 r2 (ig C.P ol fr.k str.k fr.kp l σ ps).2.1 k (ig C.P ol fr.k str.k fr.kp l σ ps).2.2 H->jT ps/\oC C ol fr str r1 r2 l k σ H
 | [],σ,ps,hp,h=>⟨hp,h⟩
 |(i,o)::l,σ,ps,hp,h=>by
  unfold ig at hp h;cases ha:uU C.P ol (gJ fr.k i) (gJ str.k i) fr.kp o σ with
  |none=>rw[ha]at hp h;exact⟨hp,h⟩
  |some x=>obtain⟨φ,σ'⟩:=x;rw[ha]at hp h;obtain⟨⟨a,b⟩,c⟩:=G0 l _ _ hp h;exact⟨a,GZ (f:=fr.at' i) (s:=str.at' i) ha b c⟩
def GQ(C:Cx)(ol:Zq)(fr:cw)(str:cC)(b a:List (Nat×Oper))(k:List Item)(H:PH)(r:List Prop×List (Nat×Oper)×St):Prop:=jT r.1/\oC C ol fr str b a r.2.1 k r.2.2 H
theorem NL(C:Cx)(ol:Zq)(fr:cw)(str:cC)(b a:List (Nat×Oper))(k:List Item)(H:PH)(ps:List Prop)(l:List (Nat×Oper))(σ:St):GQ C ol fr str b a k H (ps,l,σ)=(jT ps/\oC C ol fr str b a l k σ H):=rfl
def nz{ol:Zq}{fr:cw}{str:cC}{r1 r2 l:List (Nat×Oper)}(h:GQ C ol fr str r1 r2 k H (ig C.P ol fr.k str.k fr.kp l σ [])):oC C ol fr str r1 r2 l k σ H:=(G0 l σ [] h.1 h.2).2
def xh{ol:Zq}{fr:cw}{str:cC}{r1 r2:List (Nat×Oper)}(h1:RD C ol fr str r1 k σ H)(h2:RD C ol fr str r2 k σ H):oC C ol fr str r1 r2 [] k σ H:=⟨h1,h2⟩
attribute [go_sem] NL
def yr{ol:Zq}{cl:List (Zp)}{fr:cw}{str:cC}:∀{l:Zp},fR ol cl fr str l=true->∀i∈l,i<ol.length
 | [],_,i,hi=>by cases hi
 |x::l,hp,i,hi=>by
  simp only[fR,cZ,dE]at hp;rcases List.mem_cons.1 hi with rfl|hi
  .exact hp.1.1.1
  .exact yr hp.2 i hi
def CX{id:Nat}{ops:Array Oper}(hm:C.P.follows .mixedOrders=true)(κ:Zp)(p q:Nat)(j f:Zp)(fr str:Zp)(a:qC ops.toList κ p q j f ⟨fr,[],PH.emp,[],[]⟩ ⟨str,[],[]⟩=true)(hs:pm σ.bx=true)
  (h:oC C ops.toList ⟨fr,[],PH.emp,[],[]⟩ ⟨str,[],[]⟩ (pick ops.toList (p::q::j)) (pick ops.toList (q::p::f)) (pick ops.toList κ) k σ H):RC C (.st (.code (.region id ops true)::k)) σ H:=by
 have l:=a;simp only[qC,cZ,dE,sX]at l;obtain⟨⟨⟨⟨⟨⟨⟨⟨⟨⟨⟨⟨⟨⟨h1,h2⟩,t⟩,c⟩,b⟩,r⟩,o⟩,n⟩,e⟩,d⟩,y⟩,x⟩,u⟩,w⟩,v⟩:=l;have e1:=yr e;have e2:=yr d;refine(show R C (.code (.region id ops true)::k) σ H from zK fun _ _ s g=>HV rfl hm a (FL hs) ?_ s g);refine rN κ (fun i hi=>e1 i (gm _ hi)) (Gq (fun σ' H' m=>⟨rN _ (fun i hi=>?_) m.1,rN _ (fun i hi=>?_) m.2⟩) _ h)
 .rcases List.mem_cons.1 hi with rfl|hi
  .exact c
  .exact e1 i (gD _ hi)
 .rcases List.mem_cons.1 hi with rfl|hi
  .exact b
  .exact e2 i (gD _ hi)
end
end Go.Sx
namespace Go.Proofs.YtfaclfkpnmcmlaaGreatDoor
open Go Go.Sx Dg Syn
def Q5:ay prog 264:=⟨_,func264,rfl,rfl⟩
section
variable {pb:Nat} {Z:Zs} {lv fv ov:Value}
def Lq:n8 Z false=bq iW:=by funext h;simp[n8,bq]
def LZ{n m o:Nat}(b:jZ pb Z lv fv ov n)(hm:m<n/\o<=64){I:PH}:C0 pb Z lv fv ov m false o I (.func (.func 264) #[pt pb] #[]):=
 ⟨264,#[pt pb],#[],rfl,Q5,fun m' d x a ha I X dv j i e _ h c hr g f=>b m' O (.stmt o x) a ha hm.2 h c hr g f⟩
def uZ(pb slot:Nat)(a:Value)(n:Nat)(x:Nat×Value×Value×Value):St:=⟨dn 72 [(0,.v (pt pb)),(2,.v (E slot)),(8,.v x.2.1),(9,.v x.2.2.1),(16,.v a),(17,.v (E n)),(18,.v (E x.1))],[]⟩
theorem Oz{n:Nat}(ih:jZ pb Z lv fv ov n){o:Nat}{f:ad}{slot:Nat}{r:Syn.aA}(hr:Syn.run Z n (.block o f slot)=some r):mG pb Z lv fv ov (.block o f slot) r:=by
 obtain⟨m,rfl,hs⟩:=fD hr;have c6:iP Z f (rW Z (Syn.run Z m) o slot)=some r:=hs;rw[BA]at c6;clear hs hr;intro ho I X dv vf e h hf fn he hm hd;have hl:=h.len;refine aP 72 func208 fun w0=>?_
 try simp only[E,pt]
 refine ai ?_;refine GH hd [0,1] rfl qm rfl (ps:=[sg pb _]) (F:=[X]) rfl (qr h hf fn) ?_;rintro v I2 qs c7 W⟨rfl,hH⟩;obtain⟨ha,hc,rfl,_⟩:=id hH;simp only[aU,aQ]at c7 |-;refine bJ ?_;have hN:∀x∈co Z f,du Z x:=fun x hx=>gx h.ok fn hx;have ef:=mQ h.ok fn;have d3:=hH;generalize co Z f=d at *;refine de c7 fun dT=>?_;refine de dT fun dx=>?_;refine ak dx [2,3,0,1] fun dw=>?_;refine bV (fun x=>d.length-x.1) (uZ pb slot (.slice ha d.length hc) d.length) (Bq pb Z lv fv ov o d (rW Z (Syn.run Z m) o slot) r e I2) (0,.slice none 0 0,.slice none 0 0,dv) cN (by simp only[go_sem,Y,uZ]) ?_ ?_
 .exact⟨I2,X,PH.no,PH.no,⟨[],[],[]⟩,rfl,dw,aD _,aE _,c6,by simpa using bt.le he W,Ow.nil _ _ _ _,Ow.nil _ _ _ _,FN.nil _,aE _⟩
 rintro⟨i,va,vb,dv⟩ H ⟨I3,D3,A3,Q,ri,rfl,a2,j,ds,b1,hE,hA,hB,a9,b2⟩ w;simp only at ds b1 hE hA hB;simp only[uZ];have d2:fM I3 (.slice ha d.length hc) d:=d3.le j;rcases aK i d.length with b0|eg
 .have bc:decide ((i:Int)<(d.length:Int))=true:=by simp;omega
  have e1:=wrap64 (n:=i+1) O;have b3:IntKind.i64.wrap ((i:Int)+1)=((i+1:Nat):Int):=by rw[<-e1];congr 1
  obtain⟨x,hx⟩:∃x,d[i]?=some x:=⟨_,aY b0⟩;have dc:=db hx;have U:=hN x dc;obtain⟨b,off,cs,rfl,d0,a5⟩:=d2.load dM.len hx;obtain⟨xa,xk,rfl,u⟩:=d0;obtain⟨r',dd,P⟩:=Ax hx b1;have L:=yj P;obtain⟨y,hy,bx,rfl⟩:=yl dd;have h3:=h.le (D W j);simp only[aH]at L bx;refine eB bc ?_;refine⟨O,?_⟩;refine Zm (l:=[E x.at',sD xa xk x.cond,rD x.cond,.int .u8 x.kind,.string ⟨⟨x.text⟩⟩]) (v:=.agg #[E x.at',sD xa xk x.cond,rD x.cond,.int .u8 x.kind,.string ⟨⟨x.text⟩⟩]) rfl (cellsU a2 (.head _) a5) (.inl ⟨gv,rfl⟩) ?_;unfold Syn.rW at hy;by_cases S:x.text=qY
  .have c5:(x.text == [123])=true:=by rw[S];decide
   rw[ab (by simp[S])]at hy;apply RG;simp only[go_sem,bc,E,pt,sD,rD,c5,cL];by_cases V:o=64
   .rw[ah V]at hy;cases hy
    subst V;refine av a2 [0,1,2,3] [sg pb _,D3] [A3,Q] rfl oO rfl (xG h3 U.le u hE (by simp[dh]at L |-;omega)) ?_;rintro v I4 qs q c⟨dv2,D4,rs,rfl,cA,rfl,rfl⟩;simp only[aU,aQ]at q |-;apply RG;simp only[go_sem,E,pt,sD,rD,b3,dg];exact w (i+1,va,vb,dv2) _ _ bi cN (by simp only[go_sem,Y,uZ]) ⟨I4,D4,A3,Q,_,rfl,q,D j c,b0,P,by simp only;rw[<-cD];exact cA,by simpa using hA.le c,hB.le c,a9,by simpa using b2⟩
   .rw[ab V]at hy;obtain⟨a,c8,b4⟩:=cQ hy;obtain⟨g,e2,ht⟩:∃g e1,Syn.take Z a.f iW=(g,e1):=⟨_,_,rfl⟩;rw[ht]at b4;simp only at b4;cases b4
    have a0:=U.lt (.inl (by rw[S];decide));have d9:=wrap64 (n:=x.at'+1) O;have e2'':IntKind.i64.wrap ((x.at':Int)+1)=((x.at'+1:Nat):Int):=by rw[<-d9];congr 1
    refine av a2 [0,1,2,3] [sg pb _] [D3,A3,Q] rfl oO rfl (xH (h:=x) (a:=xa) (k:=xk) O) ?_;rintro v I4 qs q c⟨rfl,rfl,rfl⟩;simp only[aU,aQ]at q |-;apply RG;simp only[go_sem,E,pt,sD,rD,b3,e2'',cL];refine CX mixed [0,1,2,3,4,5,6,9,10] 7 8 [11,12,13,14,15,16] [11,12,13,14,15,16] [] [] rfl rfl ?_;apply nz;simp only[go_sem,E,pt,sD,rD,e2''];simp only[cD,aH]at L hm bx;refine xh ?_ ?_;refine iu q (by exact jw) rfl rfl rfl rfl rfl af fun nb I5 b7 K b6=>?_;refine ft ?_;refine cH b7 [0,1,2,3] [] [sg pb _,D3,A3,Q] rfl nO rfl (oq (s:=iW)) ?_;rintro vi I6 qs a1 J⟨rfl,a7⟩;simp only[aU,aQ]at a1 |-;obtain⟨fi,first,cap,rfl,gi,ci⟩:=id a7;refine ft ?_;have kk:I4.le I6:=D K J;have c2:bM I6 (.slice (some ⟨nb,0,none⟩) 1 1) (bY x):=⟨_,_,rfl,.inr ⟨nb,0,[E (x.at'+1),sD xa xk x.cond,rD x.cond],rfl,(bA b6 (by simp[ax,Value.cells]) (by simp[ax,Value.cells,E,sD,rD])).le J,.one ⟨_,_,rfl,u.le kk⟩⟩⟩;refine cH a1 [0,1,2,3] [sg pb _,D3] [A3,Q] rfl El rfl (Fx (n:=m) c8 (vi:=.func (.func fi) first cap) (vr:=.func (.func 264) #[pt pb] #[]) (by rw[Lq];exact(mE.le a7 (aD _)).toP) (LZ ih O) (h3.le kk) c2 (eH U a0) (hE.le kk) (by simp only[aH];omega)) fun v I7 qs ap ac t=>?_
    rotate_left
    refine cH q [0,1,2,3] [] [sg pb _,D3,A3,Q] rfl nO rfl (oq (s:=iW)) ?_;rintro vi I6 qs a1 J⟨rfl,a7⟩;simp only[aU,aQ]at a1 |-;obtain⟨fi,first,cap,rfl,gi,ci⟩:=id a7;refine ft ?_;refine iu a1 (by exact jw) rfl rfl rfl rfl rfl af fun nb I5 b7 K b6=>?_;refine ft ?_;have kk:I4.le I5:=D J K;have c2:bM I5 (.slice (some ⟨nb,0,none⟩) 1 1) (bY x):=⟨_,_,rfl,.inr ⟨nb,0,[E (x.at'+1),sD xa xk x.cond,rD x.cond],rfl,(bA b6 (by simp[ax,Value.cells]) (by simp[ax,Value.cells,E,sD,rD])).le (aD _),.one ⟨_,_,rfl,u.le kk⟩⟩⟩;refine cH b7 [0,1,2,3] [sg pb _,D3] [A3,Q] rfl El rfl (Fx (n:=m) c8 (vi:=.func (.func fi) first cap) (vr:=.func (.func 264) #[pt pb] #[]) (by rw[Lq];exact(mE.le a7 K).toP) (LZ ih O) (h3.le kk) c2 (eH U a0) (hE.le kk) (by simp only[aH];omega)) fun v I7 qs ap ac t=>?_
    all_goals
     obtain⟨dv6,D6,rs,rfl,d4,⟨A6,B6,va6,vb6,rfl,rfl,c3,d5⟩,c9,eh⟩:=t;have a6:=c3.capN ag.len;obtain⟨ka,kc,rfl⟩:=c3.shape;simp only[aU,aQ]at ap |-;refine ft ?_;apply aN;refine aZ ?_;refine ak ap [2,0,1,3,4,5] fun cp=>?_;refine aJ cp fun I8 cn G c4=>?_;have d1:bk I8 (.slice ka a.l.length kc) a.l:=c3.sl G c4;refine cI cn (by exact dr) rfl rfl rfl rfl rfl af fun nb2 I9 cm C b5=>?_;refine aZ ?_;refine ak cm [3,0,1,2,4] fun a4=>?_;have da:=D kk (D ac (D G C));obtain⟨bs,am,cr⟩:=hA;obtain⟨xsa,xsc,rfl⟩:=am.slice;unfold ar at bx b2;refine oB (m:=1) a4 (by exact dr) am rfl rfl rfl rfl (cellsU a4 (.head _) (bA (l:=[.int .u8 6,.string ⟨#[]⟩,.int .i64 x.at',.int .i64 slot,.slice ka a.l.length kc,.slice xa (T.subs x.cond).length xk,E (T.plc (T.subs x.cond) x.cond)]) b5 (by simp[ax,Value.cells]) (by simp[ax,Value.cells,E]))) rfl rfl O (by unfold maxLen;omega) fun v' ee A10 cl B bb=>?_;obtain⟨na,nc,rfl⟩:=bb.slice;have R:=D da B;have d7:aw ee A10 (.slice na (ri.l.length+1) nc) (ri.l++[⟨6,[],x.at',slot,a.l,x.cond⟩]):=by refine⟨_,by rw[aH];exact bb,LR.app (cr.mono fun _ _ h=>ag.le h R) (.one (ag.mk (n:=⟨6,[],x.at',slot,a.l,x.cond⟩) (u.le R) (d1.le (D C B)) a6))⟩
     refine aZ ?_;refine ak cl [3,0,1,2,4] fun cj=>?_;refine aJ cj fun ed cf A c1=>?_;have k711:=D G (D C (D B A));have cy:bM ed vb6 a.f:=d5.sl k711 c1;have k411:=D R A;refine av cf [1,2,0,3] [sg pb _,D6] [A10,Q] rfl oM rfl (pw (s:=iW) (h3.le k411) cy c9 af (d4.le k711) (by rw[ht];simp only[aH];omega)) ?_;rintro v ei qs a3 aa⟨dv10,D10,rs,rfl,aq,B10,rfl,aS⟩;rw[ht]at aq aS;have tf:=iX h.ok c9 (s:=iW) af;rw[ht]at tf;simp only at aq aS tf;simp only[aU,aQ]at a3 |-;refine aZ ?_;refine ak a3 [2,0,1,3,4] fun cc=>?_;refine aJ cc fun ec cb p c0=>?_;have cx:bM ec v g:=aS.sl p c0;have k413:=D k411 (D aa p);refine av cb [3,0,1,2] [Q] [sg pb _,D10,A10] rfl j8 rfl (ke (N:=Z.length) O (hB.le k413) a9 cx tf) ?_;rintro v ea qs an z⟨B14,rfl,ba⟩;simp only[aU,aQ]at an |-;refine aZ ?_;refine Zm (l:=[.int .i64 ((o+1:Nat):Int)]) rfl (cellsU an (.tail _ (.tail _ (.head _))) (dz (by simp[bS]) rfl)) (.inr ⟨eR,rfl⟩) ?_;apply RG;simp only[go_sem,E,pt,sD,rD,zi o ho];refine ak an [1,2,3,0] fun ca=>?_;refine k0 ca rfl rfl rfl rfl rfl (by exact sQ) ao fun b8=>?_;refine dR b3 ?_;obtain⟨ta,tc,rfl⟩:=ba.shape;refine w (i+1,.slice na (ri.l.length+1) nc,.slice ta (Syn.joinAll ri.f g).length tc,dv10) _ _ bi cN (by simp only[go_sem,Y,uZ]) ⟨ea,D10,A10,B14,_,rfl,b8,D j (D k413 z),b0,P,by simpa[cD]using aq.le (D p z),aw.le d7 (D A (D aa (D p z))),ba,a9.joinAll tf,by simp only[aH];unfold ar;exact bx⟩
  .have c5:(x.text == [123])=false:=by rw[i7];exact S
   rw[ah S]at hy;cases hy
   apply RG;simp only[go_sem,bc,E,pt,sD,rD,c5,dg];refine av a2 [0,1,2,3] [sg pb _,D3] [A3,Q] rfl ql rfl (qh h3 U.le u hE (by simp[dh]at L |-;omega)) ?_;rintro v I4 qs q c⟨dv2,D4,rs,rfl,cA,rfl⟩;simp only[aU,aQ]at q |-;refine dR b3 ?_;exact w (i+1,va,vb,dv2) _ _ bi cN (by simp only[go_sem,Y,uZ]) ⟨I4,D4,A3,Q,_,rfl,q,D j c,b0,P,by simp only;rw[<-cD];exact cA,by simpa using hA.le c,hB.le c,a9,by simpa using b2⟩
 .have dk:i=d.length:=by omega
  subst dk;have bc:decide ((d.length:Int)<(d.length:Int))=false:=ao;rw[js]at b1;cases b1
  refine eB bc ?_;exact az rfl a2 (r:=[va,vb]) rfl (D W j) ⟨_,D3,[A3,Q],rfl,hE,⟨A3,Q,va,vb,rfl,rfl,hA,hB⟩,a9,b2⟩
end
open Go Go.Sx Dg Syn
section
variable {pb:Nat} {Z:Zs} {lv fv ov:Value}
def te(Z:Zs)(par:Bool)(o:Nat)(a:Syn.aA)(m:Nat)(l:List M)(g fin:ad)(ee:List aI):Prop:=
 ∃b,Syn.run Z m (.listL par o l g fin)=some b/\b.l=a.l/\b.f=a.f/\ee++b.e=a.e
variable{ee:List aI}{fin:ad}{l:List M}{a:Syn.aA}{o m:Nat}{par:Bool}
def JJ(h:te Z par o a m l [] fin ee):l=a.l/\fin=a.f/\ee=a.e:=by
 obtain⟨b,hb,h1,h2,h3⟩:=h;obtain⟨m',rfl,d⟩:=fD hb;have c:Syn.listL Z (Syn.run Z m') par o l [] fin=some b:=d;unfold Syn.listL at c;simp only at c;cases c
 exact⟨h1,h2,by simpa using h3⟩
variable{g:ad}{s:Nat×T}
def JY{b:Syn.aA}(hb:Syn.run Z m (.listL par o l (s::g) fin)=some b):∃m' c b',m=m'+2/\
  Syn.item Z (Syn.run Z m') par o [s]=some c/\(l++c.l).length<=ar/\Syn.run Z (m'+1) (.listL par o (l++c.l) ((bP Z c.f (bq eV)).1.foldl joinH1 g) (Syn.joinAll fin (bP Z c.f (bq eV)).2))=some b'/\b=⟨b'.l,b'.f,c.e++b'.e⟩:=by
 obtain⟨m',rfl,n⟩:=fD hb;have d:Syn.listL Z (Syn.run Z m') par o l (s::g) fin=some b:=n;unfold Syn.listL at d;simp only at d;obtain⟨c,r,k⟩:=cQ d;obtain⟨u,q,a⟩:=cQ k;obtain⟨more,dn,h⟩:∃yes g,bP Z c.f (bq eV)=(yes,g):=⟨_,_,rfl⟩;rw[h]at a;simp only at a;obtain⟨b',p,j⟩:=cQ a;cases j
 obtain⟨i,rfl,hi⟩:=fD r;refine⟨i,c,b',rfl,hi,u6 q,?_,rfl⟩;rw[h];exact p
def Ul(h:te Z par o a m l (s::g) fin ee):∃m' c,m=m'+2/\Syn.item Z (Syn.run Z m') par o [s]=some c/\(l++c.l).length<=ar/\
  te Z par o a (m'+1) (l++c.l) ((bP Z c.f (bq eV)).1.foldl joinH1 g) (Syn.joinAll fin (bP Z c.f (bq eV)).2) (ee++c.e):=by
 obtain⟨b,hb,h1,h2,h3⟩:=h;obtain⟨m',c,b',rfl,hi,i,d,rfl⟩:=JY hb;exact⟨m',c,rfl,hi,i,b',d,h1,h2,by rw[cD];exact h3⟩
def JZ:∀(n m:Nat),m<=n->∀{par:Bool} {o:Nat} {b:Syn.aA} {l:List M} {g fin:ad},Syn.run Z m (.listL par o l g fin)=some b->l.length<=b.l.length
 |0,m,hm,par,o,b,l,g,fin,h=>by obtain⟨m',rfl,_⟩:=fD h;omega
 |n+1,m,hm,par,o,b,l,g,fin,h=>by
  cases g with
  |nil=>have:=JJ (Z:=Z) (a:=b) (ee:=[]) ⟨b,h,rfl,rfl,rfl⟩;rw[this.1];exact aR _
  |cons s g=>obtain⟨m',c,b',rfl,_,_,d,rfl⟩:=JY h;have:=JZ n (m'+1) O d;simp only[aH]at this |-;omega
def te.len(h:te Z par o a m l g fin ee):l.length<=a.l.length/\ee.length<=a.e.length:=by obtain⟨b,hb,h1,h2,h3⟩:=h;have:=JZ m m (aR _) hb;rw[<-h1,<-h3];exact⟨this,by simp⟩
def SX{n:Nat}(b:jZ pb Z lv fv ov n)(hm:m<n)(c:o<=64)(h:Syn.item Z (Syn.run Z m) par o g=some a):WF pb Z lv fv ov (if par then 207 else 83) o (fun vf=>#[pt pb,vf,E 0]) g a/\ay prog (if par then 207 else 83):=by
 cases par
 .exact⟨tF (b m hm (.line 0 o g 0) _ h) c,tL⟩
 .exact⟨VI _ h,QL⟩
def AQ(pb:Nat)(d c vb v14 b:Value)(n i:Nat)(a:Value)(e:Nat)(x:Nat×Value):St:=⟨dn 126 [(0,.v (pt pb)),(2,.v d),(8,.v c),(9,.v vb),(12,.v x.2),(14,.v v14),(26,.v b),(27,.v (E n)),(28,.v (E i)),(55,.v a),(56,.v (E e)),(57,.v (E x.1))],[]⟩
def Sl.tail{α:Type}{R:PH->Zo->α->Prop}{size:Nat}(i:∀{I} c a,R I c a->c.length=size){I:PH}{b off n c:Nat}{s:α}{l:List α}(h:Sl R I (.slice (some ⟨b,off,none⟩) n c) (s::l))(g:n<=c):Sl R I (.slice (fZ (some ⟨b,off,none⟩) size 1 c) (n-1) (c-1)) l:=by
 obtain⟨a,c',e,h⟩:=h;cases e
 simp only[bl]at g;refine⟨fZ (some ⟨b,off,none⟩) size 1 c,c-1,by simp,?_⟩;rcases h with h|⟨b',f,xs,e1,e2,j⟩
 .cases h
 .cases e1
  rcases jA l.length with h0|h0
  .exact .inl (List.length_eq_zero_iff.1 h0)
  .obtain⟨cs,ys,rfl,h1,h2⟩:=j;have d:=i cs s h1;refine .inr ⟨b,off+size,ys,?_,?_,h2⟩
   .unfold fZ;rw[ab O];simp[nE]
   .have:=e2.sub size ys.length (by simp;omega);rw[List.drop_left' d,dK]at this;exact this
def AR(pb:Nat)(d v8 vb v12 b c:Value)(n i:Nat)(a:Value)(e:Nat)(x:Nat×Value):St:=⟨dn 126 [(0,.v (pt pb)),(2,.v d),(8,.v v8),(9,.v vb),(12,.v v12),(14,.v x.2),(21,.v b),(26,.v c),(27,.v (E n)),(28,.v (E i)),(93,.v a),(94,.v (E e)),(95,.v (E x.1))],[]⟩
def T8(a:Zt)(more:List aj)(g:ad)(b:PH)(x:Nat×Value)(H:PH):Prop:=
 ∃I,H=U (I::a)/\Dj (I::a)/\b.le I/\x.1<=more.length/\bM I x.2 ((more.take x.1).foldl joinH1 g)/\zz x.2
structure GD where
 m:Nat
 v8:Value
 v12:Value
 v14:Value
 dv:Value
def AV(pb:Nat)(b vb a:Value)(n i:Nat)(x:GD):St:=⟨dn 126 [(0,.v (pt pb)),(2,.v b),(8,.v x.v8),(9,.v vb),(12,.v x.v12),(14,.v x.v14),(26,.v a),(27,.v (E n)),(28,.v (E i))],[]⟩
def Uz(pb:Nat)(Z:Zs)(lv fv ov:Value)(par:Bool)(o X:Nat)(a b:Syn.aA)(e:List aI)(B:PH)(c:PH)(x:GD)(H:PH):Prop:=
 ∃I W A C l g fin ee,H=U [I,sg pb (bS lv fv ov x.dv o),W,A,B,C]/\Dj [I,sg pb (bS lv fv ov x.dv o),W,A,B,C]/\c.le I/\x.m<=X/\te Z par o a x.m l g fin ee/\
  bM I x.v14 g/\zz x.v14/\FN Z.length g/\cV I C x.v12 fin/\FN Z.length fin/\aw I A x.v8 (b.l++l)/\bt I W x.dv (e++(b.e++ee))
def vG(pb:Nat)(b a:Value)(n:Nat)(x:Nat×Value×Value×Value):St:=⟨dn 126 [(0,.v (pt pb)),(2,.v b),(8,.v x.2.1),(9,.v x.2.2.1),(26,.v a),(27,.v (E n)),(28,.v (E x.1))],[]⟩
theorem UI{n:Nat}(ih:jZ pb Z lv fv ov n){f:ad}{r:Syn.aA}(hr:Syn.run Z n (.listed par o f)=some r):mG pb Z lv fv ov (.listed par o f) r:=by
 obtain⟨m,rfl,hs⟩:=fD hr;have hX:iP Z f (sx Z (Syn.run Z m) par o)=some r:=hs;rw[BA]at hX;clear hs hr;intro ho I X dv vf e h hf fn he hm hd;have hl:=h.len;refine aP 126 func206 fun w0=>?_
 try simp only[E,pt,cW]
 refine ai ?_;refine GH hd [0,1] rfl qm rfl (ps:=[sg pb _]) (F:=[X]) rfl (qr h hf fn) ?_;rintro v I2 qs h1 c0⟨rfl,hH⟩;obtain⟨ha,hc,rfl,_⟩:=id hH;simp only[aU,aQ]at h1 |-;refine bJ ?_;have hN:∀x∈co Z f,du Z x:=fun x hx=>gx h.ok fn hx;have k7:=mQ h.ok fn;have kO:=hH;generalize co Z f=d at *;refine de h1 fun kd=>?_;refine de kd fun kc=>?_;refine ak kc [2,3,0,1] fun ka=>?_;refine bV (fun x=>d.length-x.1) (vG pb (cW pb (if par then 207 else 83)) (.slice ha d.length hc) d.length) (Bq pb Z lv fv ov o d (sx Z (Syn.run Z m) par o) r e I2) (0,.slice none 0 0,.slice none 0 0,dv) (fE (by simp only[go_sem,Y,E,pt,cW])) (by simp only[go_sem,Y,vG]) ?_ ?_
 .exact⟨I2,X,PH.no,PH.no,⟨[],[],[]⟩,rfl,ka,aD _,aE _,hX,by simpa using bt.le he c0,Ow.nil _ _ _ _,Ow.nil _ _ _ _,FN.nil _,aE _⟩
 rintro⟨i,va,vb,dv⟩ H ⟨I3,D3,A3,L,ri,rfl,ec,P,j5,ez,hE,hA,hB,er,gq⟩ ap;simp only at j5 ez hE hA hB;simp only[vG];have kx:fM I3 (.slice ha d.length hc) d:=kO.le P;rcases aK i d.length with ey|la
 .have et:decide ((i:Int)<(d.length:Int))=true:=by simp;omega
  have e1:=wrap64 (n:=i+1) O;have fa:IntKind.i64.wrap ((i:Int)+1)=((i+1:Nat):Int):=by rw[<-e1];congr 1
  obtain⟨x,hx⟩:∃x,d[i]?=some x:=⟨_,aY ey⟩;have i4:=db hx;have d3:=hN x i4;obtain⟨b,off,cs,rfl,ki,eg⟩:=kx.load dM.len hx;obtain⟨xa,xk,rfl,a4⟩:=ki;obtain⟨r',i5,a9⟩:=Ax hx ez;have a7:=yj a9;obtain⟨y,u,ex,rfl⟩:=yl i5;have h3:=h.le (D c0 P);simp only[aH]at a7 ex;apply RG;simp only[go_sem,et,E,pt,cW];refine⟨O,?_⟩;refine Zm (l:=[E x.at',sD xa xk x.cond,rD x.cond,.int .u8 x.kind,.string ⟨⟨x.text⟩⟩]) (v:=.agg #[E x.at',sD xa xk x.cond,rD x.cond,.int .u8 x.kind,.string ⟨⟨x.text⟩⟩]) rfl (cellsU ec (.head _) eg) (.inl ⟨gv,rfl⟩) ?_;unfold Syn.sx at u;by_cases d1:x.text=cq
  .have hO:(x.text == [40])=true:=by rw[d1];decide
   rw[ab (by simp[d1])]at u;apply RG;simp only[go_sem,et,E,pt,sD,rD,hO,cL];by_cases cr:o=64
   .rw[ah cr]at u;cases u
    subst cr;refine av ec [0,1,2,3] [sg pb _,D3] [A3,L] rfl oO rfl (xG h3 d3.le a4 hE (by simp[dh]at a7 |-;omega)) ?_;rintro v I4 qs W G⟨dv2,D4,rs,rfl,g5,rfl,rfl⟩;simp only[aU,aQ]at W |-;apply RG;simp only[go_sem,E,pt,sD,rD,fa,dg];exact ap (i+1,va,vb,dv2) _ _ bi (fE (by simp only[go_sem,Y,E,pt,cW])) (by simp only[go_sem,Y,vG]) ⟨I4,D4,A3,L,_,rfl,W,D P G,ey,a9,by simp only;rw[<-cD];exact g5,by simpa using hA.le G,hB.le G,er,by simpa using gq⟩
   .rw[ab cr]at u;obtain⟨yes,g,hW⟩:∃yes g,bP Z (bY x) (bq dt)=(yes,g):=⟨_,_,rfl⟩;rw[hW]at u;simp only at u;obtain⟨a,kn,fc⟩:=cQ u;obtain⟨gt,e2,ht⟩:∃g e1,Syn.take Z a.f dt=(g,e1):=⟨_,_,rfl⟩;rw[ht]at fc;simp only at fc;cases fc
    have d2:=d3.lt (.inl (by rw[d1];decide));have k4:=wrap64 (n:=x.at'+1) O;have e2'':IntKind.i64.wrap ((x.at':Int)+1)=((x.at'+1:Nat):Int):=by rw[<-k4];congr 1
    refine av ec [0,1,2,3] [sg pb _] [D3,A3,L] rfl oO rfl (xH (h:=x) (a:=xa) (k:=xk) O) ?_;rintro v I4 qs W G⟨rfl,rfl,rfl⟩;simp only[aU,aQ]at W |-;apply RG;simp only[go_sem,E,pt,cW,sD,rD,fa,e2'',cL];refine CX mixed [0,1,2,3,4,5,6] 7 8 [9,10,11,12,13,14] [9,10,11,12,13,14] [] [] rfl rfl ?_;apply nz;simp only[go_sem,E,pt,cW,sD,rD,e2''];simp only[cD,aH]at a7 hm ex;refine xh ?_ ?_;refine iu W (by exact jw) rfl rfl rfl rfl rfl af fun nb I5 f0 a6 fz=>?_;apply bo;simp only[go_sem,E,pt,cW,sD,rD];refine cH f0 [0,1,2,3] [] [sg pb _,D3,A3,L] rfl nO rfl (oq (s:=dt)) ?_;rintro vi I6 qs ea a5⟨rfl,ej⟩;simp only[aU,aQ]at ea |-;obtain⟨fi,first,cap,rfl,gi,ci⟩:=id ej;apply bo;simp only[go_sem,E,pt,cW,sD,rD];have kk:I4.le I6:=D a6 a5;have hz:bM I6 (.slice (some ⟨nb,0,none⟩) 1 1) (bY x):=⟨_,_,rfl,.inr ⟨nb,0,[E (x.at'+1),sD xa xk x.cond,rD x.cond],rfl,(bA fz (by simp[ax,Value.cells]) (by simp[ax,Value.cells,E,sD,rD])).le a5,.one ⟨_,_,rfl,a4.le kk⟩⟩⟩;have afn:=eH d3 d2;refine cH ea [0,1,2,3] [sg pb _] [D3,A3,L] rfl oN rfl (pj (h3.le kk) hz afn (mE.le ej (aD _))) fun v I7 qs c9 cl q=>?_
    rotate_left
    refine cH W [0,1,2,3] [] [sg pb _,D3,A3,L] rfl nO rfl (oq (s:=dt)) ?_;rintro vi I6 qs ea a5⟨rfl,ej⟩;simp only[aU,aQ]at ea |-;obtain⟨fi,first,cap,rfl,gi,ci⟩:=id ej;apply bo;simp only[go_sem,E,pt,cW,sD,rD];refine iu ea (by exact jw) rfl rfl rfl rfl rfl af fun nb I5 f0 a6 fz=>?_;apply bo;simp only[go_sem,E,pt,cW,sD,rD];have kk:I4.le I5:=D a5 a6;have hz:bM I5 (.slice (some ⟨nb,0,none⟩) 1 1) (bY x):=⟨_,_,rfl,.inr ⟨nb,0,[E (x.at'+1),sD xa xk x.cond,rD x.cond],rfl,(bA fz (by simp[ax,Value.cells]) (by simp[ax,Value.cells,E,sD,rD])).le (aD _),.one ⟨_,_,rfl,a4.le kk⟩⟩⟩;have afn:=eH d3 d2;refine cH f0 [0,1,2,3] [sg pb _] [D3,A3,L] rfl oN rfl (pj (h3.le kk) hz afn (mE.le ej a6)) fun v I7 qs c9 cl q=>?_
    all_goals
     obtain⟨A6,B6,va6,vb6,rfl,rfl,e6,e5⟩:=q;have hY:=oh h.ok afn (is:=bq dt);have h5:=qU h.ok afn (bq dt);have gs:=jx h.ok afn (bq dt);rw[hW]at e6 e5 hY h5 gs;simp only at e6 e5 hY h5 gs;obtain⟨ya,yc,rfl⟩:=e6.shape;simp only[aU,aQ]at c9 |-;apply bo;simp only[go_sem,E,pt,cW,sD,rD];apply aN;apply RG;simp only[go_sem,E,pt,cW,sD,rD];refine ak c9 [1,0,2,3,4,5] fun gl=>?_;refine aJ (c:=.st _) gl fun I8 gf a0 hL=>?_;have kp:fM I8 (.slice ya yes.length yc) yes:=e6.sl a0 hL;refine ak gf [1,0,2,3,4] fun f7=>?_;refine aJ (c:=.st _) f7 fun I9 f6 aS hw=>?_;have k2:bM I9 vb6 g:=e5.sl (D a0 aS) hw;have k1:zz vb6:=e5.cap cK.len;refine de (c:=.st _) f6 fun f5=>?_;refine ak f5 [1,0,2,3,4] fun f4=>?_;have i1:=D kk (D cl (D a0 aS));refine bV (fun x=>yes.length-x.1) (AQ pb (cW pb (if par then 207 else 83)) va vb vb6 (.slice (some ⟨b,off,none⟩) d.length hc) d.length i (.slice ya yes.length yc) yes.length) (Jv pb lv fv ov dv (o+1) joinH [] yes [D3,A3,L] I9) (0,.slice none 0 0) (fE (by simp only[go_sem,Y,E,pt,cW])) (by simp only[go_sem,Y,AQ]) ?_ ?_
     .exact⟨I9,PH.no,rfl,f4,aD _,aE _,Ow.nil _ _ _ _⟩
     rintro⟨j,v12⟩ H ⟨i0,C10,rfl,c8,V,hj,a3⟩ cA;simp only at hj a3;simp only[AQ];have h4:∀y∈yes,du Z y:=fun y u=>(hY y u).1;have eq:FN Z.length ((yes.take j).foldl joinH []):=vD (fun y u=>h4 y (lL u)) (FN.nil _);have g3:=eq.len;rcases aK j yes.length with h0|k8
     .have e8:decide ((j:Int)<(yes.length:Int))=true:=by simp;omega
      have e3:=wrap64 (n:=j+1) O;have hP:IntKind.i64.wrap ((j:Int)+1)=((j+1:Nat):Int):=by rw[<-e3];congr 1
      obtain⟨y,u⟩:∃y,yes[j]?=some y:=⟨_,aY h0⟩;have fb:=h4 y (db u);have i3:=fb.le;obtain⟨b2,off2,cs2,rfl,da,aa⟩:=(fM.le kp (D aS V)).load dM.len u;obtain⟨ua,uk,rfl,an⟩:=da;have am:=sd (g:=joinH) (z:=[]) u;obtain⟨ta,tc,rfl⟩:=a3.shape;apply RG;simp only[go_sem,e8,E,pt,cW];refine⟨O,?_⟩;refine Zm (l:=[E y.at',sD ua uk y.cond,rD y.cond,.int .u8 y.kind,.string ⟨⟨y.text⟩⟩]) (v:=.agg #[E y.at',sD ua uk y.cond,rD y.cond,.int .u8 y.kind,.string ⟨⟨y.text⟩⟩]) rfl (cellsU c8 (.head _) aa) (.inl ⟨gv,rfl⟩) ?_;apply RG;simp only[go_sem,e8,E,pt,cW,sD,rD];refine av c8 [1,0,2,3,4] [C10] [sg pb _,D3,A3,L] rfl jK rfl (jL (a:=y.at') a3 an eq.ok.2 (fun t ht=>by have:=eq.le t ht;omega) O O) ?_;rintro v hV qs b0 d7⟨C11,rfl,dw⟩;obtain⟨ta2,tc2,rfl⟩:=dw.shape;simp only[aU,aQ]at b0 |-;apply RG;simp only[go_sem,E,pt,cW,sD,rD,hP];refine ak b0 [1,0,2,3,4] fun a2=>?_;rw[show Syn.join ((yes.take j).foldl joinH []) y.at' y.cond=(yes.take (j+1)).foldl joinH [] from am.symm]at dw |-;exact cA (j+1,.slice ta2 _ tc2) _ _ bi (fE (by simp only[go_sem,Y,E,pt,cW])) (by simp only[go_sem,Y,AQ]) ⟨hV,C11,rfl,a2,D V d7,h0,dw⟩
     .have fA:j=yes.length:=by omega
      subst fA;have e8:decide ((yes.length:Int)<(yes.length:Int))=false:=ao;rw[dK]at a3 eq g3;apply RG;simp only[go_sem,e8,E,pt,cW];refine ak c8 [0,2,3,4,1] fun b0=>?_;have k410:=D i1 V;have kv:te Z par (o+1) a m [] g (yes.foldl joinH []) []:=⟨a,kn,rfl,rfl,rfl⟩;refine bV (fun x=>x.m) (AV pb (cW pb (if par then 207 else 83)) vb (.slice (some ⟨b,off,none⟩) d.length hc) d.length i) (Uz pb Z lv fv ov par (o+1) m a ri e L i0) ⟨m,va,v12,vb6,dv⟩ (fE (by simp only[go_sem,Y,E,pt,cW])) (by simp only[go_sem,Y,AV]) ?_ ?_
      .exact⟨i0,D3,A3,C10,[],g,_,[],rfl,b0,aD _,aR _,kv,bM.le k2 V,k1,gs,a3,eq,by simpa using hA.le k410,by simpa using hE.le k410⟩
      rintro⟨mm,v8,v12,v14,dv⟩ H ⟨hV,D11,A11,C11,l,gg,fin,ee,rfl,a2,cj,i9,eA,hG,ek,b3,hC,ac,d0,dk⟩ cy;simp only at i9 eA hG ek hC d0 dk;simp only[AV];have k411:=D k410 cj;obtain⟨ga,gc,rfl,lb⟩:=id hG;have ja:=eA.len;obtain fr|⟨s,gg',cm⟩:gg=[]\/∃s t,gg=s::t:=by
       cases gg with
       |nil=>exact .inl rfl
       |cons s t=>exact .inr ⟨s,t,rfl⟩
      .subst fr;obtain⟨rfl,rfl,rfl⟩:=JJ eA;apply RG;simp only[go_sem,E,pt,cW,bg,dP,gt_iff_lt,Int.lt_irrefl,decide_false];refine ak a2 [4,0,1,2,3] fun c7=>?_;refine aJ c7 fun hT bx p hn=>?_;have g1:bM hT v12 a.f:=hC.sl p hn;refine av bx [0,1,2,3] [sg pb _,D11] [A11,L] rfl oM rfl (pw (s:=dt) (h3.le (D k411 p)) g1 ac af (dk.le p) (by rw[ht];simp only[aH];omega)) ?_;rintro v k6 qs bs d5⟨dv10,D10,rs,rfl,ds,B10,rfl,dT⟩;rw[ht]at ds dT;have tf:=iX h.ok ac (s:=dt) af;rw[ht]at tf;simp only at ds dT tf;simp only[aU,aQ]at bs |-;apply RG;simp only[go_sem,E,pt,cW,sD,rD];refine ak bs [2,0,1,3,4] fun c6=>?_;refine aJ c6 fun hS c5 aq hv=>?_;have dc:bM hS v gt:=dT.sl aq hv;have k1114:=D p (D d5 aq);have k414:=D k411 k1114;refine av c5 [3,0,1,2] [L] [sg pb _,D10,A11] rfl j8 rfl (ke (N:=Z.length) O (hB.le k414) er dc tf) ?_;rintro v ie qs a1 B⟨B14,rfl,cp⟩;simp only[aU,aQ]at a1 |-;apply RG;simp only[go_sem,E,pt,cW,sD,rD];refine Zm (l:=[.int .i64 ((o+1:Nat):Int)]) rfl (cellsU a1 (.tail _ (.tail _ (.head _))) (dz (by simp[bS]) rfl)) (.inr ⟨eR,rfl⟩) ?_;apply RG;simp only[go_sem,E,pt,cW,sD,rD,zi o ho];refine ak a1 [1,2,3,0] fun c4=>?_;refine k0 c4 rfl rfl rfl rfl rfl (by exact sQ) ao fun c3=>?_;apply RG;simp only[go_sem,E,pt,cW,sD,rD,fa];obtain⟨ta,tc,rfl⟩:=cp.shape
       exact ap (i+1,v8,.slice ta (Syn.joinAll ri.f gt).length tc,dv10) _ _ bi (fE (by simp only[go_sem,Y,E,pt,cW])) (by simp only[go_sem,Y,vG]) ⟨ie,D10,A11,B14,_,rfl,c3,D P (D k414 B),ey,a9,by simpa[cD]using ds.le (D aq B),d0.le (D k1114 B),cp,er.joinAll tf,by simp only[aH];unfold ar;unfold ar at ex;omega⟩
      .have eh:=eA;rw[cm]at eh;obtain⟨m2,cc,rfl,kj,lc,b1⟩:=Ul eh;have b7:=b1.len;have k9:gg.length=gg'.length+1:=by rw[cm];rfl
       have gn:gg.length<=gc:=ek;have k3:decide ((gg.length:Int)>0)=true:=by simp;omega
       have j7:gg[0]?=some s:=by rw[cm];rfl
       obtain⟨gb,goff,gcs,rfl,fC,c1⟩:=hG.load cK.len j7;obtain⟨za,zk,rfl,d4⟩:=fC.shape;apply RG;simp only[go_sem,E,pt,cW,k3];refine⟨O,?_⟩;refine Zm (l:=[E s.1,.slice za (T.subs s.2).length zk,E (T.plc (T.subs s.2) s.2)]) (v:=.agg #[E s.1,.slice za (T.subs s.2).length zk,E (T.plc (T.subs s.2) s.2)]) rfl (by simpa using cellsU a2 (.head _) c1) (.inl ⟨rS,rfl⟩) ?_;apply RG;simp only[go_sem,E,pt,cW];refine cI a2 (by exact jw) rfl rfl rfl rfl rfl af fun nb3 hT c7 C fs=>?_;apply RG;simp only[go_sem,E,pt,cW];refine⟨O,?_⟩;have dc:bM hV (.slice (fZ (some ⟨gb,goff,none⟩) 3 1 gc) (gg.length-1) (gc-1)) gg':=Sl.tail (R:=cK) (fun{I} c a h=>cK.len c a h) (by rw[<-cm];exact hG) gn;have fl:bM hT (.slice (some ⟨nb3,0,none⟩) 1 1) [s]:=⟨_,_,rfl,.inr ⟨nb3,0,[E s.1,.slice za (T.subs s.2).length zk,E (T.plc (T.subs s.2) s.2)],rfl,bA fs (by simp[ax,Value.cells]) (by simp[ax,Value.cells,E]),.one ⟨_,_,rfl,d4.le C⟩⟩⟩;have fns:FN Z.length [s]:=⟨aC.head (by rw[<-cm];exact b3.ok),fun t ht=>by simp at ht;subst ht;exact b3.le t (by rw[cm];exact .head _)⟩;have fng:FN Z.length gg':=⟨aC.tail (by rw[<-cm];exact b3.ok),fun t ht=>b3.le t (by rw[cm];exact .tail _ ht)⟩;obtain⟨j2,j9⟩:=SX ih O O kj;refine av c7 [0,1,2,3,4] [sg pb _,D11] [A11,L,C11] rfl j9 rfl (j2 (h3.le (D k411 C)) fl fns (dk.le C) (by simp only[aH]at b7 |-;omega)) ?_;rintro v k6 qs bx p⟨dv13,D13,rs,rfl,hg,⟨A13,B13,va13,vb13,rfl,rfl,hK,hy⟩,b5,kt⟩;simp only[aU,aQ]at bx |-;apply RG;simp only[go_sem,E,pt,cW];refine ak bx [2,0,1,3,4,5,6] fun bs=>?_;refine aJ bs fun hS c6 U hF=>?_;have gr:bk hS va13 cc.l:=hK.sl U hF
       refine ak c6 [3,0,1,2,4,5] fun c5=>?_;have k1214:=D C (D p U);have jf:=b7.1;simp only[aH]at jf;unfold ar at ex;refine fk c5 (by exact dr) (d0.le k1214) gr (fun{I J c a} h k=>ag.le h k) (fun{I} c a h=>ag.len c a h) (fun{I} c a h=>ag.ones h) rfl rfl rfl rfl (by simp only[aH];omega) (by simp only[aH];unfold maxLen;omega) fun na nc ie A15 a1 B hJ=>?_;apply RG;simp only[go_sem,E,pt,cW];refine ak a1 [3,0,1,2,4,5] fun c4=>?_;refine aJ c4 fun k5 c3 cf hu=>?_;have k1416:=D U (D B cf);have g0:bM k5 vb13 cc.f:=hy.sl k1416 hu;refine av c3 [0,1,2,3,4] [] [A15,sg pb _,D13,L,C11] rfl nO rfl (oq (s:=eV)) ?_;rintro v2 lj qs ef S⟨rfl,ei⟩;simp only[aU,aQ]at ef |-;obtain⟨fi2,first2,cap2,rfl,gi2,ci2⟩:=id ei;apply RG;simp only[go_sem,E,pt,cW];have k417:=D k411 (D C (D p (D k1416 S)));refine av ef [1,0,2,3,4] [sg pb _] [A15,D13,L,C11] rfl oN rfl (pj (h3.le k417) (g0.le S) b5 ei) ?_;rintro v li qs ed cb⟨A17,B17,va17,vb17,rfl,rfl,b6,dx⟩;have hM:=oh h.ok b5 (is:=bq eV);have h7:=qU h.ok b5 (bq eV);have e0:=jx h.ok b5 (bq eV);obtain⟨more,dne,fh⟩:∃yes g,bP Z cc.f (bq eV)=(yes,g):=⟨_,_,rfl⟩;rw[fh]at b6 dx hM h7 e0 b1;simp only at b6 dx hM h7 e0 b1;obtain⟨ma,mc,rfl⟩:=b6.shape;simp only[aU,aQ]at ed |-;apply RG;simp only[go_sem,E,pt,cW];refine ak ed [1,0,2,3,4,5,6] fun f3=>?_;refine aJ (c:=.st _) f3 fun hR f2 Q hD=>?_;have kq:fM hR (.slice ma more.length mc) more:=b6.sl Q hD
       have k1219:=D C (D p (D k1416 (D S (D cb Q))));refine bV (fun x=>more.length-x.1) (AR pb (cW pb (if par then 207 else 83)) (.slice na (ri.l++l++cc.l).length nc) vb v12 vb17 (.slice (some ⟨b,off,none⟩) d.length hc) d.length i (.slice ma more.length mc) more.length) (T8 [sg pb (bS lv fv ov dv13 (o+1)),B17,A15,D13,L,C11] more gg' hR) (0,.slice (fZ (some ⟨gb,goff,none⟩) 3 1 gc) (gg.length-1) (gc-1)) (fE (by simp only[go_sem,Y,E,pt,cW])) (by simp only[go_sem,Y,AR]) ?_ ?_
       .exact⟨hR,rfl,f2,aD _,aE _,dc.le k1219,show gg.length-1<=gc-1 by omega⟩
       rintro⟨j,v14⟩ H ⟨ld,rfl,c2,K,j1,b4,cn⟩ cx;simp only at j1 b4 cn;simp only[AR];have h6:∀y∈more,du Z y/\y.at'<Z.length:=fun y u=>⟨(hM y u).1,xT af (hM y u).1 (hM y u).2⟩;have em:FN Z.length ((more.take j).foldl joinH1 gg'):=AM (fun y u=>h6 y (lL u)) fng;have g2:=em.len;rcases aK j more.length with d9|jo
       .have e7:decide ((j:Int)<(more.length:Int))=true:=by simp;omega
        have e3:=wrap64 (n:=j+1) O;have hP:IntKind.i64.wrap ((j:Int)+1)=((j+1:Nat):Int):=by rw[<-e3];congr 1
        obtain⟨y,u⟩:∃y,more[j]?=some y:=⟨_,aY d9⟩;have fb:=h6 y (db u);have i2:=fb.2;have e4:=wrap64 (n:=y.at'+1) O;have h8:IntKind.i64.wrap ((y.at':Int)+1)=((y.at'+1:Nat):Int):=by rw[<-e4];congr 1
        obtain⟨b2,off2,cs2,rfl,da,aa⟩:=(fM.le kq K).load dM.len u;obtain⟨ua,uk,rfl,an⟩:=da;have am:=sd (g:=joinH1) (z:=gg') u;apply RG;simp only[go_sem,e7,E,pt,cW];refine⟨O,?_⟩;refine Zm (l:=[E y.at',sD ua uk y.cond,rD y.cond,.int .u8 y.kind,.string ⟨⟨y.text⟩⟩]) (v:=.agg #[E y.at',sD ua uk y.cond,rD y.cond,.int .u8 y.kind,.string ⟨⟨y.text⟩⟩]) rfl (cellsU c2 (.head _) aa) (.inl ⟨gv,rfl⟩) ?_;apply RG;simp only[go_sem,e7,E,pt,cW,sD,rD];refine bG [0,2,3,4,5,6,1,7,8] [] [] ?_;apply bo;simp only[go_sem,E,pt,cW,sD,rD,h8];refine cH c2 [0,1,2,3,4,5] [] [sg pb _,B17,A15,D13,L,C11] rfl Q4 rfl (O7 b4 O) ?_;rintro v ic qs bc b8⟨E21,rfl,es⟩;obtain⟨ca,ck,rfl⟩:=es.shape;simp only[aU,aQ]at bc |-;apply bo;simp only[go_sem,E,pt,cW,sD,rD,h8];refine cH bc [0,1,2,3,4,5,6] [E21] [sg pb _,B17,A15,D13,L,C11] rfl jK rfl (jL (a:=y.at'+1) es (an.le b8) em.ok.2 (fun t ht=>by have:=em.le t ht;omega) O O) ?_;rintro v ia qs bb A⟨E22,rfl,dd⟩;have h2:=dd.cap cK.len;simp only[aU,aQ]at bb |-;apply bo;simp only[go_sem,E,pt,cW,sD,rD];apply aN;refine aJ (c:=.st _) bb fun h9 ba w hb=>?_;have el:bM h9 v _:=dd.sl w hb;obtain⟨wa,wc,rfl⟩:=dd.shape;apply RG;simp only[go_sem,E,pt,cW,sD,rD,hP];rw[show Syn.join ((more.take j).foldl joinH1 gg') (y.at'+1) y.cond=(more.take (j+1)).foldl joinH1 gg' from am.symm]at el h2 |-;exact cx (j+1,.slice wa _ wc) _ _ bi (fE (by simp only[go_sem,Y,E,pt,cW])) (by simp only[go_sem,Y,AR]) ⟨h9,rfl,ba,D K (D b8 (D A w)),d9,el,h2⟩
       .have fA:j=more.length:=by omega
        subst fA;have e7:decide ((more.length:Int)<(more.length:Int))=false:=ao;rw[dK]at b4 em g2;apply RG;simp only[go_sem,e7,E,pt,cW];refine ak c2 [1,0,2,3,4,5] fun bc=>?_;refine aJ bc fun ic bb A hq=>?_;have hh:bM ic vb17 dne:=dx.sl (D Q (D K A)) hq;have k1221:=D k1219 (D K A);refine av bb [4,0,1,2,3] [C11] [sg pb _,A15,D13,L] rfl j8 rfl (ke (N:=Z.length) O (hC.le k1221) ac hh e0) ?_;rintro v ia qs ba w⟨C22,rfl,hk⟩;simp only[aU,aQ]at ba |-;apply RG;simp only[go_sem,E,pt,cW];refine ak ba [1,3,2,4,0] fun f1=>?_;have k1522:=D cf (D S (D cb (D Q (D K (D A w)))));refine cy ⟨m2+1,.slice na (ri.l++l++cc.l).length nc,v,v14,dv13⟩ _ _ bi (fE (by simp only[go_sem,Y,E,pt,cW])) (by simp only[go_sem,Y,AV]) ⟨ia,D13,A15,C22,_,_,_,_,rfl,f1,D cj (D k1221 w),by simp only;omega,b1,b4.le (D A w),cn,em,hk,ac.joinAll e0,by rw[<-cD];exact aw.le hJ k1522,?_⟩;have:=hg.le (D U (D B k1522));simpa[cD]using this
  .have hO:(x.text == [40])=false:=by rw[i7];exact d1
   rw[ah d1]at u;cases u
   apply RG;simp only[go_sem,et,E,pt,sD,rD,hO,dg];refine av ec [0,1,2,3] [sg pb _,D3] [A3,L] rfl ql rfl (qh h3 d3.le a4 hE (by simp[dh]at a7 |-;omega)) ?_;rintro v I4 qs W G⟨dv2,D4,rs,rfl,g5,rfl⟩;simp only[aU,aQ]at W |-;refine dR fa ?_;exact ap (i+1,va,vb,dv2) _ _ bi (fE (by simp only[go_sem,Y,E,pt,cW])) (by simp only[go_sem,Y,vG]) ⟨I4,D4,A3,L,_,rfl,W,D P G,ey,a9,by simp only;rw[<-cD];exact g5,by simpa using hA.le G,hB.le G,er,by simpa using gq⟩
 .have j3:i=d.length:=by omega
  subst j3;have et:decide ((d.length:Int)<(d.length:Int))=false:=ao;rw[js]at ez;cases ez
  refine eB et ?_;exact az rfl ec (r:=[va,vb]) rfl (D c0 P) ⟨_,D3,[A3,L],rfl,hE,⟨A3,L,va,vb,rfl,rfl,hA,hB⟩,er,gq⟩
end
open Go Go.Sx Dg Syn
def Ry:ay prog 77:=⟨_,func77,rfl,rfl⟩
def Qu:ay prog 134:=⟨_,func134,rfl,rfl⟩
def Qv:ay prog 136:=⟨_,func136,rfl,rfl⟩
section
variable {pb:Nat} {Z:Zs} {lv fv ov:Value}
variable{dv:Value}
def X3{J:PH}{o bb:Nat}{h:aj}{a:Option Addr}{k:Nat}(hp:iG J Z lv fv)(hb:a8 J bb 0 [pt pb]):
  Zu 134 #[ij a k h,pt bb] J [sg pb (bS lv fv ov dv o)] fun v d b=>b=[sg pb (bS lv fv ov dv o)]/\v=.bool (n8 Z true h):=by
 intro hd;obtain⟨la,c,rfl,_⟩:=id hp.tok;refine aP 12 func134 fun w0=>?_
 try simp only[ij,E,pt,sD,rD]
 refine ai ?_;refine bG [0,1,2,3,4,5,6,7,8] [2,5] [] ?_;refine lh ?_;refine Zn (l:=[pt pb]) rfl (cellsU hd (.head _) hb) (.inr ⟨uV,rfl⟩) ?_;refine lh ?_;refine Zn (l:=[_]) rfl (cellsU hd (.tail _ (.head _)) (dz (by simp[bS]) rfl)) (.inr ⟨lU,rfl⟩) ?_;refine lh ?_;apply aN;refine ai ?_;refine az rfl hd (r:=[.bool ((h.at':Int) == (Z.length:Int))]) rfl (aD _) ⟨rfl,?_⟩;show Value.bool _=Value.bool (decide (h.at'=Z.length));congr 1;by_cases e:h.at'=Z.length
 .rw[e];simp
 .simp[e];omega
def X4{n o bb:Nat}(ih:jZ pb Z lv fv ov n)(ho:o<=64){I0:PH}(R:a8 I0 bb 0 [pt pb]):C0 pb Z lv fv ov n true o I0 (.func (.func 136) #[] #[pt bb]):=by
 refine⟨136,#[],#[pt bb],rfl,Qv,fun m hm x a ha I X dv xa xk e K h z hr N L=>?_⟩;have hb:=R.le K;have c:Syn.wy (Syn.run Z m) o x=some a:=ha;unfold Syn.wy at c;have ac:=h.len;have aa:=z.le;show Zu 136 #[ij xa xk x,pt bb] I [sg pb (bS lv fv ov dv o),X] _;intro hd;refine aP 26 func136 fun w0=>?_
 try simp only[ij,E,pt,sD,rD]
 cases h1:(x.text == [118,97,114])
 .have n1:x.text≠nq:=fun e=>by rw[e]at h1;exact absurd h1 af
  rw[ab n1]at c;cases h2:(x.text == [102,110])
  .have n2:x.text≠ul:=fun e=>by rw[e]at h2;exact absurd h2 af
   rw[ab n2]at c;cases c
   refine lR h1 h2 ?_;refine Zm (l:=[pt pb]) rfl (cellsU hd (.head _) hb) (.inr ⟨uV,rfl⟩) ?_;refine dL ?_;refine av hd [0,1] [sg pb _,X] [] rfl ql rfl (qh h z.le hr N (by simpa[dh]using L)) ?_;rintro v I4 J B A⟨U,D4,W,rfl,S,rfl⟩;simp only[aU,aQ,Y]at B |-;refine dL ?_;refine de B fun Q=>?_;refine de Q fun P=>?_;refine ak P [2,3,0,1] fun C=>?_;exact az rfl C (r:=[.slice none 0 0,.slice none 0 0]) rfl A ⟨U,D4,[PH.no,PH.no],rfl,S,⟨PH.no,PH.no,_,_,rfl,rfl,Ow.nil _ _ _ _,Ow.nil _ _ _ _⟩,FN.nil _,aE _⟩
  .rw[ah (show x.text=ul from eq_of_beq h2)]at c;have g:=z.lt (.inl (by rw[show x.text=ul from eq_of_beq h2];decide));refine lR h1 h2 ?_;refine rK mixed [0,1,2,3,4,5,6,7] [] [] [0] [2] I rfl rfl ?_;refine lh ?_;refine rI (l:=[pt pb]) rfl (iL hd) rfl rfl rfl hb (.inr ⟨uV,rfl⟩) ?_;refine lh ?_;refine GL hd [0,1] rfl (fun _=>aD _) rfl nN (by rfl) (ps:=[]) (F:=[sg pb _,X]) rfl (nG (h:=x) O hr) ?_;rintro v I2 J k b⟨rfl,T⟩;simp only[aU,aQ]at k |-;refine lh ?_;refine cH k [0,1] [sg pb _,X] [] rfl Qw rfl (ih m hm (.function o (bY x)) a c ho (h.le b) T (eH z g) (N.le b) L) ?_;rintro v I3 J j i⟨y,V,W,rfl,t,⟨H,G,f,d,rfl,rfl,w,u⟩,s,q⟩;simp only[aU,aQ,Y]at j |-;refine lh ?_;apply aN;refine dL ?_;exact az rfl j (r:=[f,d]) rfl (D b i) ⟨y,V,[H,G],rfl,t,⟨H,G,f,d,rfl,rfl,w,u⟩,s,q⟩
 .rw[ah (show x.text=nq from eq_of_beq h1)]at c;have g:=z.lt (.inl (by rw[show x.text=nq from eq_of_beq h1];decide));refine dB h1 ?_;refine rK mixed [0,1,2,3,4,5,6,7] [] [] [0] [2] I rfl rfl ?_;refine lh ?_;refine rI (l:=[pt pb]) rfl (iL hd) rfl rfl rfl hb (.inr ⟨uV,rfl⟩) ?_;refine lh ?_;refine GL hd [0,1] rfl (fun _=>aD _) rfl nN (by rfl) (ps:=[]) (F:=[sg pb _,X]) rfl (nG (h:=x) O hr) ?_;rintro v I2 J k b⟨rfl,T⟩;simp only[aU,aQ]at k |-;refine lh ?_;refine cH k [0,1] [sg pb _,X] [] rfl Iy rfl (ih m hm (.vrb o (bY x)) a c ho (h.le b) T (eH z g) (N.le b) L) ?_;rintro v I3 J j i⟨y,V,W,rfl,t,⟨H,G,f,d,rfl,rfl,w,u⟩,s,q⟩;simp only[aU,aQ,Y]at j |-;refine lh ?_;apply aN;refine dL ?_;exact az rfl j (r:=[f,d]) rfl (D b i) ⟨y,V,[H,G],rfl,t,⟨H,G,f,d,rfl,rfl,w,u⟩,s,q⟩
def Wc{n o:Nat}(R:jZ pb Z lv fv ov n)(U:o<=64){d:T}{r:Syn.aA}(hr:Syn.run Z n (.seqL true o [(0,d)] [] [])=some r){I X:PH}{da:Option Addr}{dk:Nat}{e:List aI}(h:iG I Z lv fv)(q:bW I (.agg #[sD da dk d,rD d]) d)(u:d≠ff)(V:bt I X dv e)(hm:e.length+r.e.length<=l9):
  Zu 77 #[pt pb,.agg #[sD da dk d,rD d]] I [sg pb (bS lv fv ov dv o),X] (PP pb lv fv ov o (e++r.e) (uO Z r)):=by
 intro hd;refine aP 17 func77 fun w0=>?_
 try simp only[E,pt,sD,rD]
 apply cE 6;simp only[go_sem];refine jW 2 hd rfl fun t z=>?_;refine aJ (c:=.st _) z fun I2 p f A=>?_;have hb:a8 I2 t 0 [pt pb]:=(dz ao rfl:a8 (sg t (.cells [pt pb].toArray 152 (0,0))) t 0 [pt pb]).le A;apply RG;simp only[go_sem,iR,List.map,pt];refine Zm (l:=[pt pb]) rfl (cellsU p (.head _) hb) (.inr ⟨uV,rfl⟩) ?_;refine rJ ?_;refine cI p (by exact jw) rfl rfl rfl rfl rfl af fun nb N y b w=>?_;have hf:bM N (.slice (some ⟨nb,0,none⟩) 1 1) [(0,d)]:=⟨_,_,rfl,.inr ⟨nb,0,[E 0,sD da dk d,rD d],rfl,bA w (by simp[ax,Value.cells]) (by simp[ax,Value.cells,E,sD,rD]),.one ⟨_,_,rfl,q.le (D f b)⟩⟩⟩;have fn:FN Z.length [(0,d)]:=⟨⟨fun s hs=>by simp at hs;subst hs;exact⟨q.1,u⟩,by simp⟩,fun s hs=>by simp at hs;subst hs;exact aE _⟩;refine rJ ?_;have C:CM pb Z lv fv ov o N (.func (.func 134) #[] #[pt t]) (n8 Z true):=⟨134,#[],#[pt t],rfl,Qu,fun J W hp dv x a k _=>X3 hp (hb.le (D b W))⟩;refine av y [0,1] [sg pb _,X] [] rfl El rfl (Fx hr C (X4 R U (hb.le b)) (h.le (D f b)) hf fn (V.le (D f b)) hm) ?_;rintro v I4 qs m j⟨L,D4,rs,rfl,G,⟨Q,P,i,g,rfl,rfl,K,H⟩,F,B⟩;simp only[aU,aQ,Y]at m |-;refine rJ ?_;exact az rfl m (r:=[i,g]) rfl (D f (D b j)) ⟨L,D4,[Q,P],rfl,G,⟨Q,P,i,g,rfl,rfl,K,H⟩,F,B⟩
end
end Go.Proofs.YtfaclfkpnmcmlaaGreatDoor
