import Derived.Test.YtfaclfkpnmcmlaaGreatDoorG04
import Derived.Test.YtfaclfkpnmcmlaaGreatDoorG10
import Derived.Test.YtfaclfkpnmcmlaaGreatDoorG13
import Derived.Test.YtfaclfkpnmcmlaaGreatDoorG14
import Derived.Test.YtfaclfkpnmcmlaaGreatDoorG16
import Derived.Test.YtfaclfkpnmcmlaaGreatDoorG17
import Derived.Laws.StructEq
set_option maxHeartbeats 8000000
set_option linter.all false
open Go.Proofs.Tryz
namespace Go.Proofs.YtfaclfkpnmcmlaaGreatDoor
open Go Go.Sx Dg Syn
variable{i:Nat}{v:Value}{I:PH}
def Ow.part{α:Type}{R:PH->List Value->α->Prop}{e:TypeId}{size:Nat}{A:PH}{l:List α}(h:Ow R e size I A v l)(j:∀{I} c a,R I c a->c.length=size)(n:∀{I J c a},R I c a->I.le J->R J c a){x:α}(hi:l[i]?=some x)(k m:Nat)(u:k+m<=size):
  ∃g cap cur c,v=.slice (some ⟨g,0,none⟩) l.length cap/\A=sg g (.cells cur e (0,0))/\l.length*size<=cur.size/\R I c x/\c.length=size/\aX A g (i*size+k) ((c.drop k).take m)/\
   ∀J cs y,I.le J->k+cs.length<=size->R J (bi c k cs) y->Ow R e size J (sg g (.cells (bi cur.toList (i*size+k) cs).toArray e (0,0))) v (l.set i y):=by
 have b:=(List.getElem?_eq_some_iff.1 hi).1;obtain⟨g,cap,cur,xs,ev,rfl,r,c2,c3,c4,c5,d⟩:=h.open' O fun c a k=>j c a k;have t:l.length*size<=cap*size:=bS _ r;have o:(i+1)*size<=l.length*size:=bS _ b;rw[fm,lQ]at o;have q:=d.get (fun c a k=>j c a k) hi;have f:=j _ _ q;have w:=qu (k:=k) (m:=m) (e:=e) (g:=g) (cur:=cur) (fun c a k=>j c a k) d b O c4 rfl u;refine⟨g,cap,cur,_,ev,rfl,O,q,f,w,?_⟩;intro J cs y z p s;refine⟨bi xs (i*size+k) cs,?_,?_⟩
 .rw[ev,kD];exact ti c5 r c2 c3 c4 O
 .exact qJ (fun c a k=>j c a k) (d.mono fun _ _ h=>n h z) b rfl p s
def sR(a:Value)(n i:Nat)(b:Value):St:=⟨dn 50 [(3,.v b),(12,.v a),(13,.v (E n)),(14,.v (E i))],[]⟩
def SP{l:List aN}(hS:Sl aY I v l)(hl:l.length<=bF)(a6:pF l):aI prog 95 #[v] I [] fun r I2 qs=>∃A,qs=[A]/\bL I2 A r (cK l):=by
 intro hd;have b2:=hl;unfold bF at b2;obtain⟨va,vc,rfl,_⟩:=id hS;refine aG 50 func95 fun w0=>?_;refine af ?_;refine dq hd rfl O8 (Ng hS hl) ?_;rintro v1 I1 qs b5 am⟨K,rfl,hK⟩;refine af ?_;refine ce b5 [0] [K] [] rfl O7 rfl (NG hK hl) ?_;rintro v2 I2 qs ba b0⟨A,rfl,rfl,hA⟩;simp only[Z3]at ba |-;refine af ?_;have cm:(ko l).length<=l.length:=List.length_filter_le ..;have ci:bL I2 A v2 (ko l).toArray.toList:=hA;refine ce ba [0] [A] [] rfl O9 rfl (UY ci Nl (by simp;unfold bF;omega)) ?_;rintro v3 I3 qs a9 al⟨A3,e3,rfl,P,cb,b8⟩;simp only[Z3]at a9 |-;obtain⟨F,a4⟩:=Jx cb b8;have P:bL I3 A3 v2 e3.toList:=P;have F:e3.toList.Perm (ko l):=F;generalize e3.toList=Z at P F a4;have hE:=F.length_eq;have a0:∀d∈Z,d.cond.ok 0:=fun d hd=>a6 d (List.mem_filter.1 (F.mem_iff.1 hd)).1;have cc:∀d,d∈Z<->d∈l/\d.cond≠ff:=fun d=>by rw[F.mem_iff];simp[ko]
 obtain⟨ea,ec,rfl⟩:=P.shape;refine af ?_;refine dR a9 fun b4=>?_;refine bq b4 [1,0] fun b3=>?_;refine bz (fun x=>Z.length-x.1) (fun x=>sR (.slice ea Z.length ec) Z.length x.1 x.2) (fun(x:Nat×Value) H=>∃I5 A5 B o,H=U [I5,A5,B]/\Dj [I5,A5,B]/\I3.le I5/\x.1<=Z.length/\bL I5 A5 (.slice ea Z.length ec) Z/\bL I5 B x.2 o/\o.length<=x.1/\o=(Z.take x.1).foldl lF []) (0,.slice none 0 0) ae (by simp only[go_sem,ab,sR]) ?_ ?_
 .exact⟨I3,A3,PH.no,[],rfl,b3,ax _,bg _,P,Ow.nil _ _ _ _,aW _,rfl⟩
 rintro⟨i,vo⟩ H ⟨I5,A5,B,o,rfl,M,z,hi,T,hB,bs,ho⟩ s;simp only at hi hB bs ho;simp only[sR];obtain⟨oa,oc,rfl⟩:=hB.shape;rcases aB i Z.length with Q|cn
 .have a3:=Z5 i Z.length;have e1:=Z7 i;have wm:=ja (k:=o.length) O;obtain⟨d,a7⟩:∃d,Z[i]?=some d:=⟨_,aL Q⟩;obtain⟨g,cap,cur,c,ev,rfl,c1,c2,hc,cp,aa,_⟩:=T.elem (fun{I} c a h=>aY.len c a h) (fun{I J c a} h k=>aY.le h k) a7;cases ev
  obtain⟨ca,ck,rfl,b6⟩:=id hc;have m:(Z.take (i+1)).foldl lF []=lF o d:=by rw[iL a7,lP,<-ho];rfl
  refine dr a3 ?_;refine⟨O,?_⟩;refine Xb (l:=[.int .u8 d.code,.int .i64 d.tok,sD ca ck d.cond,rD d.cond]) (v:=.agg #[.int .u8 d.code,.int .i64 d.tok,sD ca ck d.cond,rD d.cond]) rfl (by simpa using cellsU M (.tail _ (.head _)) aa) (.inl ⟨fQ,rfl⟩) ?_;refine dr wm ?_;have bc:∀{J},I5.le J->aY J [.int .u8 d.code,.int .i64 d.tok,sD ca ck d.cond,rD d.cond] d:=fun h=>aY.le hc h;rcases g9 o.length with h0|h0
  .have bx:o=[]:=List.length_eq_zero_iff.1 h0;have a2:decide ((o.length:Int)-1>=0)=false:=aS O;refine aV [0,1,2,3,4,5,6,7,8,9,10] [6] [] ?_;refine jG a2 ?_;apply an;refine cz ?_;refine cd M (by exact lh) rfl rfl rfl rfl rfl aR fun nb I7 L b ag=>?_;have aq:Sl aY I7 (.slice (some ⟨nb,0,none⟩) 1 1) [d]:=⟨_,_,rfl,.inr ⟨nb,0,_,rfl,bD ag (by simp[aD,Value.cells]) (by simp[aD,Value.cells,E,sD,rD]),.one (bc b)⟩⟩;refine cz ?_;refine bq L [1,0] fun G=>?_;refine dX (R:=aY) (xs:=o) (ys:=[d]) G (by exact lh) (bL.le hB b) aq (fun{I J c a} h k=>aY.le h k) (fun{I} c a h=>aY.len c a h) (fun{I} c a h=>aY.ones h) rfl rfl rfl rfl (by simp only[bf,bA];omega) (by simp only[bf,bA];unfold maxLen;omega) fun ua uc I8 B8 f u a1=>?_;refine dr e1 ?_;refine bq f [1,0] fun j=>?_;refine s (i+1,.slice ua (o++[d]).length uc) _ _ bC ae (by simp only[go_sem,ab,sR]) ⟨I8,_,B8,o++[d],rfl,j,Y z (Y b u),Q,bL.le T (Y b u),a1,by simp;omega,?_⟩;simp only;rw[m,bx];rfl
  .obtain⟨q,D⟩:∃q,o.length=q+1:=⟨o.length-1,O⟩;have eq1:(o.length:Int)-1=(q:Int):=O;have a2:decide ((q:Int)>=0)=true:=ar O;obtain⟨x,hx⟩:∃x,o[q]?=some x:=⟨_,aL O⟩;have t:o.getLast?=some x:=by rw[List.getLast?_eq_getElem?,D];exact hx
   obtain⟨g2,cap2,cur2,c',ev2,rfl,b1,bb,b7,S,bo⟩:=hB.part (fun{I} c a h=>aY.len c a h) (fun{I J c a} h k=>aY.le h k) hx 0 4 O;obtain⟨g3,cap3,cur3,c3,ev3,eA,_,ap,_,C,X⟩:=hB.part (fun{I} c a h=>aY.len c a h) (fun{I J c a} h k=>aY.le h k) hx 2 2 O;cases ev2
   simp only[Value.slice.injEq,bv,Addr.mk.injEq,dm,dP]at ev3;obtain⟨eg3,_⟩:=ev3;subst eg3;have ecur:cur2=cur3:=by have:=congrFun eA g2;simp only[sg,cY,bv,Obj.cells.injEq,dm,dP]at this;exact this
   subst ecur;clear eA;obtain⟨xa,xk,rfl,cj⟩:=id bb;obtain⟨ya,yk,rfl,bd⟩:=id ap;simp only[wW,jU,rE,od]at C;have cl:(q+1)*4<=o.length*4:=bS _ O;rw[eq1];refine aV [0,1,2,3,4,5,6,7,8,9,10] [6] [] ?_;refine jG a2 ?_;refine⟨O,?_⟩;refine Xc (l:=[.int .u8 x.code,.int .i64 x.tok,sD xa xk x.cond,rD x.cond]) (v:=.agg #[.int .u8 x.code,.int .i64 x.tok,sD xa xk x.cond,rD x.cond]) rfl (by simpa using cellsU M (.tail _ (.tail _ (.head _))) S) (.inl ⟨fQ,rfl⟩) ?_;refine bV ?_;refine cv M [0,1] [] [_,_] rfl CK rfl (BM (x:=x) (y:=d) bb hc) ?_;rintro v I6 qs L e⟨rfl,rfl⟩;simp only[Z3]at L |-;have hz:=NK x d;cases hk:decide (x.key=d.key)
   .rw[hk]at hz;have p:lF o d=o++[d]:=by unfold lF;rw[t];simp only;rw[ad (rH hk)]
    refine jG hz ?_;apply an;refine dr hz ?_;refine cd L (by exact lh) rfl rfl rfl rfl rfl aR fun nb I7 G b ag=>?_;have aq:Sl aY I7 (.slice (some ⟨nb,0,none⟩) 1 1) [d]:=⟨_,_,rfl,.inr ⟨nb,0,_,rfl,bD ag (by simp[aD,Value.cells]) (by simp[aD,Value.cells,E,sD,rD]),.one (bc (Y e b))⟩⟩;refine cz ?_;refine bq G [1,0] fun f=>?_;refine dX (R:=aY) (xs:=o) (ys:=[d]) f (by exact lh) (bL.le hB (Y e b)) aq (fun{I J c a} h k=>aY.le h k) (fun{I} c a h=>aY.len c a h) (fun{I} c a h=>aY.ones h) rfl rfl rfl rfl (by simp only[bf,bA];omega) (by simp only[bf,bA];unfold maxLen;omega) fun ua uc I8 B8 j u a1=>?_;refine dr e1 ?_;refine bq j [1,0] fun N=>?_;have k8:=Y e (Y b u);refine s (i+1,.slice ua (o++[d]).length uc) _ _ bC ae (by simp only[go_sem,ab,sR]) ⟨I8,_,B8,o++[d],rfl,N,Y z k8,Q,bL.le T k8,a1,by simp;omega,?_⟩;simp only;rw[m,p]
   .rw[hk]at hz;have p:lF o d=o.dropLast++[{ x with cond:=x.cond.or d.cond }]:=by unfold lF;rw[t];simp only;rw[ak (eF hk)]
    have ac:o.set q { x with cond:=x.cond.or d.cond }=o.dropLast++[{ x with cond:=x.cond.or d.cond }]:=by
     obtain⟨w,rfl⟩:=List.getLast?_eq_some_iff.1 t;have:w.length=q:=by simp at D;exact D
     rw[List.dropLast_concat,List.set_append_right _ _ O,this];simp
    refine jG hz ?_;apply an;refine dr hz ?_;refine aV [0,1,2,3,4,5,6,7,8,9,10,11,12] [6] [] ?_;refine bV ?_;refine⟨O,?_⟩;refine Xc (l:=[sD ya yk x.cond,rD x.cond]) (v:=.agg #[sD ya yk x.cond,rD x.cond]) rfl (by simpa using cellsU L (.tail _ (.tail _ (.head _))) C) (.inl ⟨nr,rfl⟩) ?_;refine bV ?_;refine cv L [0,1] [] [_,_] rfl pi rfl (pH (bd.le e) (b6.le e)) ?_;rintro v I7 qs G b⟨rfl,a5⟩;obtain⟨za,zk,rfl⟩:=a5.shape2;simp only[Z3]at G |-;refine bV ?_;refine⟨O,?_⟩;refine gw G [1,0] fun f=>?_;refine cg f rfl rfl rfl rfl rfl rfl (by exact Ac) (by simp;omega) fun j=>?_;refine bV ?_;apply an;refine dr e1 ?_;refine bq j [1,0] fun N=>?_;have cf:=X I7 [sD za zk (x.cond.or d.cond),rD (x.cond.or d.cond)] { x with cond:=x.cond.or d.cond } (Y e b) ai ⟨za,zk,by simp[bi,sD,rD],a5⟩;have k8:=Y e b;refine s (i+1,.slice (some ⟨g2,0,none⟩) o.length oc) _ _ bC ae (by simp only[go_sem,ab,sR]) ⟨I7,_,_,_,rfl,N,Y z k8,Q,bL.le T k8,cf,by simp;omega,?_⟩;simp only;rw[m,p,ac]
 .have:i=Z.length:=by omega
  subst this;have a3:decide (((Z.length:Nat):Int)<(Z.length:Int))=false:=ai;rw[cB]at ho;have W:=(jY.all Z [] [] jY.nil a0 (by simpa[bP]using a4)).eq (by simpa using cc) a6;rw[<-ho]at W;refine bq M [0,1] fun f=>?_;refine bH (c:=.st _) f fun I9 f V cr=>?_;refine aj a3 ?_;exact ao rfl f (r:=[_]) rfl (Y am (Y al (Y z V))) ⟨B,rfl,by rw[<-W];exact bL.le hB V⟩
def PV:ay prog 38:=⟨_,func38,rfl,rfl⟩
def fx(I:PH)(c:List Value)(t:Tr):Prop:=∃a vd,c=[a,vd]/\de I a t.kids/\jB a/\Sl aY I vd t.diags/\jB vd
variable{c:List Value}{J:PH}
def fx.le{t:Tr}(h:fx I c t)(k:I.le J):fx J c t:=by obtain⟨a,vd,e,h1,h2,h3,b⟩:=h;exact⟨a,vd,e,de.le h1 k,h2,SlE.le h3 k,b⟩
def fx.len(c:List Value)(t:Tr)(h:fx I c t):c.length=2:=by obtain⟨a,vd,e,_⟩:=h;rw[e];rfl
def yY(a:Value)(n:Nat)(x:Nat×Value×Value):St:=⟨dn 32 [(2,.p 2 0),(3,.p 3 0),(6,.v a),(7,.v (E n)),(8,.v (E x.1))],[⟨2,36,[.slice none 0 0,.slice none 0 0]⟩,⟨3,36,[x.2.1,x.2.2]⟩]⟩
def S3(l:List Tr)(a:PH)(x:Nat×Value×Value)(H:PH):Prop:=∃I A B,H=U [I,A,B]/\Dj [I,A,B]/\a.le I/\x.1<=l.length/\aT I A x.2.1 ((l.take x.1).flatMap (·.kids))/\bL I B x.2.2 ((l.take x.1).flatMap (·.diags))
def Ce{α β:Type}(f:α->List β)(i:Nat)(l:List α):((l.take i).flatMap f).length<=(l.flatMap f).length:=by
 conv=>rhs;rw[<-fl i l]
 rw[pU,dG];omega
def SM{l:List Tr}(hS:Sl fx I v l)(hl:l.length<=1000)(hk:ii (l.flatMap (·.kids)))(hf:iY (l.flatMap (·.kids)))(hz:aw (l.flatMap (·.kids))<=bF)(he:pF (l.flatMap (·.diags)))(T:(l.flatMap (·.diags)).length<=bF):
  aI prog 38 #[v] I [] fun r I2 qs=>qs=[]/\gh I2 r (vB l):=by
 obtain⟨va,vc,rfl,_⟩:=id hS;have a3:=fJ (l.flatMap (·.kids));have al:=hz;have S:=T;unfold bF at al S;intro hd;refine aG 32 func38 fun w0=>?_;refine af ?_;refine dR hd fun aq=>?_;refine dR aq fun U=>?_;refine bz (fun x=>l.length-x.1) (yY (.slice va l.length vc) l.length) (S3 l I) (0,.slice none 0 0,.slice none 0 0) ae (by simp only[go_sem,ab,yY]) ?_ ?_
 .exact⟨I,_,_,rfl,U,ax _,bg _,Ow.nil _ _ _ _,Ow.nil _ _ _ _⟩
 rintro⟨i,vk,vd⟩ H ⟨I1,A1,B1,rfl,C,m,hi,M,X⟩ y;simp only at hi M X;simp only[yY];obtain⟨aa,ac,rfl⟩:=M.shape;obtain⟨ba,bc,rfl⟩:=X.shape;rcases aB i l.length with Q|a4
 .have h9:=Z5 i l.length;have e1:=Z7 i;obtain⟨t,ht⟩:∃t,l[i]?=some t:=⟨_,aL Q⟩;obtain⟨b,off,cs,rfl,a0,D⟩:=Sl.load (fun{I} c a h=>fx.len c a h) (Sl.le (R:=fx) (fun{I J c a} h k=>fx.le h k) hS m) ht;obtain⟨wk,wd,rfl,N,am,P,ap⟩:=a0;obtain⟨ka,kc,rfl,_⟩:=id N;obtain⟨da,dc,rfl,_⟩:=id P;have ek:(l.take (i+1)).flatMap (·.kids)=(l.take i).flatMap (·.kids)++t.kids:=by rw[iL ht,pU];simp
  have ed:(l.take (i+1)).flatMap (·.diags)=(l.take i).flatMap (·.diags)++t.diags:=by rw[iL ht,pU];simp
  have lk:=Ce (fun t:Tr=>t.kids) (i+1) l;have ld:=Ce (fun t:Tr=>t.diags) (i+1) l;rw[ek,dG]at lk;rw[ed,dG]at ld;refine aj h9 ?_
  try refine⟨O,?_⟩
  refine Xb (l:=[.slice ka t.kids.length kc,.slice da t.diags.length dc]) (v:=.agg #[.slice ka t.kids.length kc,.slice da t.diags.length dc]) rfl (cellsU C (.head _) D) (.inl ⟨Fg,rfl⟩) ?_;refine av ?_;refine dX (R:=az) (xs:=(l.take i).flatMap (·.kids)) (ys:=t.kids) C (by exact lJ) M N (fun{I J c a} h k=>az.le h k) (fun{I} c a h=>az.len c a h) (fun{I} c a h=>az.ones h) rfl rfl rfl rfl O (by unfold maxLen;omega) fun ua uc I3 A3 p f L=>?_;refine av ?_;refine bq p [1,0] fun o=>?_;refine dX (R:=aY) (xs:=(l.take i).flatMap (·.diags)) (ys:=t.diags) o (by exact lh) (bL.le X f) (SlE.le P f) (fun{I J c a} h k=>aY.le h k) (fun{I} c a h=>aY.len c a h) (fun{I} c a h=>aY.ones h) rfl rfl rfl rfl O (by unfold maxLen;omega) fun wa wc I4 B4 B d G=>?_;refine aj e1 ?_;refine bq B [1,0] fun q=>?_;exact y (i+1,.slice ua ((l.take i).flatMap (·.kids)++t.kids).length uc,.slice wa ((l.take i).flatMap (·.diags)++t.diags).length wc) _ _ bC ae (by simp only[go_sem,ab,yY]) ⟨I4,A3,B4,rfl,q,Y m (Y f d),Q,by simp only;rw[ek];exact aT.le L d,by simp only;rw[ed];exact G⟩
 .have:i=l.length:=by omega
  subst this;have h9:decide (((l.length:Nat):Int)<(l.length:Int))=false:=ai;have ag:=M.capN az.len;rw[cB]at M X ag |-;refine bq C [0,1] fun p=>?_;refine bH (c:=.st _) p fun I3 p f L=>?_;refine bq p [0] fun o=>?_;refine bH (c:=.st _) o fun I4 o d G=>?_;have hK:=aT.sl (J:=I4) M (Y f d) (Y L d);have hE:=bL.sl (bL.le X f) d G;have k4:=Y m (Y f d);refine aj h9 ?_;refine aV [0,1,3,4,2,5,6,7] [] [] ?_;refine aC ?_;refine cP o rfl He (SQ (eO (l.flatMap (·.kids))+1) (iO _) hK ag hk hf hz) ?_;rintro v5 I5 qs B w⟨K,rfl,s⟩;obtain⟨qa,qc,rfl⟩:=s.shape;have V:=s.capN az.len;refine aC ?_;refine cv B [0] [] [K] rfl Qc rfl (SP (SlE.le hE w) T he) ?_;rintro v6 I6 qs q u⟨Z,rfl,F⟩;simp only[Z3]at q |-;obtain⟨ra,rc,rfl⟩:=F.shape;have W:=Ow.capN (R:=aY) F (fun c a h=>aY.len c a h);refine aC ?_;apply an;refine bq q [0,1] fun A=>?_;refine bH (c:=.st _) A fun I7 A j a2=>?_;refine bq A [0] fun z=>?_;refine bH (c:=.st _) z fun I8 z g a1=>?_;refine af ?_;refine ao rfl z (r:=[.agg #[.slice qa (dj (eO (l.flatMap (·.kids))+1) (l.flatMap (·.kids))).length qc,.slice ra (cK (l.flatMap (·.diags))).length rc]]) (by simp only[results38,go_sem,E]) (Y k4 (Y w (Y u (Y j g)))) ⟨rfl,_,_,rfl,?_,V,?_,W⟩
  .have e:dj (eO (l.flatMap (·.kids))+1) (l.flatMap (·.kids))=(vB l).kids:=Dd (aW _) (Nat.le_succ _);rw[e]at s |-;exact aT.sl (aT.le s (Y u j)) g a1
  .exact SlE.le (bL.sl F j a2) g
def Jc{K:Type}[DecidableEq K](lt:K->K->Bool)(k:K):∀l:List K,(k9 lt k l).length<=l.length+1
 | []=>aW _
 |y::l=>by
  have:=Jc lt k l;simp only[k9];split
  .simp
  .split
   .simp only[bf];omega
   .simp
def Je{K:Type}[DecidableEq K](lt:K->K->Bool):∀l:List K,(pM lt l).length<=l.length
 | []=>aW _
 |y::l=>by have h1:=Je lt l;have h2:=Jc lt y (pM lt l);show (k9 lt y (pM lt l)).length<=_;simp only[bf];omega
def HT(e:List aN):(cK e).length<=e.length:=by unfold cK ew;rw[dW];refine cO (Je _ _) ?_;rw[dW];exact List.length_filter_le ..
def oK(t:Tr):Prop:=aw t.kids<=bF/\t.diags.length<=bF
theorem oK.prj{t:Tr}(c:Nat)(h:oK t):oK (prj (co c) t):=⟨cO (Ae _ _) h.1,by
 have h2:((t.diags.filter fun d=>d.cond.at' (co c)).map fun d=>{ d with cond:=tt }).length<=t.diags.length:=by rw[dW];exact List.length_filter_le ..
 exact cO h2 h.2⟩
def cG(_:PH)(c:List Value)(x:Nat):Prop:=c=[.int .u32 x]/\x<2^32
def cG.len(c:List Value)(x:Nat)(h:cG I c x):c.length=1:=by rw[h.1];rfl
abbrev it(I A:PH)(v:Value)(l:List Nat):Prop:=Ow cG 23 1 I A v l
abbrev dh(I:PH)(v:Value)(l:List Nat):Prop:=Sl cG I v l
variable{l:List Nat}
def it.le{A:PH}(h:it I A v l)(k:I.le J):it J A v l:=Ow.le (R:=cG) (fun{I J c a} h k=>h) h k
def dh.le(h:dh I v l)(k:I.le J):dh J v l:=Sl.le (R:=cG) (fun{I J c a} h k=>h) h k
def uC(u:Nat)(x:Nat×Value):St:=⟨dn 35 [(0,.v (.int .u32 u)),(3,.v x.2),(4,.v (E x.1))],[]⟩
def MO(u:Nat)(a:PH)(x:Nat×Value)(H:PH):Prop:=∃I A l,H=U [I,A]/\Dj [I,A]/\a.le I/\x.1<=32/\it I A x.2 l/\l=cI u x.1
def xN(u i n:Nat)(x:Nat×Value):St:=⟨dn 35 [(0,.v (.int .u32 u)),(3,.v x.2),(4,.v (E i)),(5,.v (E n)),(6,.v (E x.1))],[]⟩
def MN(a:List Nat)(b:Nat)(c:PH)(x:Nat×Value)(H:PH):Prop:=∃I A l,H=U [I,A]/\Dj [I,A]/\c.le I/\x.1<=a.length/\it I A x.2 l/\l=a++(a.take x.1).map (fun x=>x|||2^b)
def sB(u:Nat):∀i,(cI u i).length=2^bM u i
 |0=>rfl
 |i+1=>by
  have a:=sB u i;have hp:bM u (i+1)=bM u i+(u.testBit i).toNat:=rfl;unfold cI;by_cases h:u.testBit i=true
  .rw[ak h,hp,h,dG,dW,a,show (true:Bool).toNat=1 from rfl,og];omega
  .have b:u.testBit i=false:=by simpa using h
   rw[ad h,hp,b,a];rfl
variable{u:Nat}
def BG(hu:u<2^32)(hp:bM u 32<=8):aI prog 21 #[.int .u32 u] I [] fun r I2 qs=>qs=[]/\dh I2 r (cI u 32):=by
 intro hd;refine aG 35 func21 fun w0=>?_;refine af ?_;refine tV hd (by exact ik) rfl rfl rfl rfl rfl aR fun b0 A0 V F=>?_;have ag:it I A0 (.slice (some ⟨b0,0,none⟩) 1 1) [0]:=⟨_,F,⟨[.int .u32 0],[],by simp[aD,Value.cells],⟨rfl,by decide⟩,rfl⟩⟩;refine af ?_;refine bz (fun x=>32-x.1) (uC u) (MO u I) (0,.slice (some ⟨b0,0,none⟩) 1 1) ae (by simp only[go_sem,ab,uC]) ?_ ?_
 .exact⟨I,A0,[0],rfl,V,ax _,bg _,ag,rfl⟩
 rintro⟨i,vo⟩ H ⟨I1,A1,l,rfl,B,f,hi,N,o⟩ d;simp only at hi N o;have A:l.length=2^bM u i:=by rw[o];exact sB u i
 simp only[uC];obtain⟨oa,oc,rfl⟩:=N.shape;rcases aB i 32 with s|aq
 .have h9:decide ((i:Int)<32)=true:=ar O;have e1:=Z7 i;have a1:=Ft hu (i:=i) O;have al:=cO (TN u (i:=i+1) (j:=32) O) hp;have G:bM u (i+1)=bM u i+(u.testBit i).toNat:=rfl;have M:l.length<=256:=by rw[A];exact cO (iP O (show bM u i<=8 by omega)) aR
  cases hb:u.testBit i
  .rw[hb]at a1 G;apply RG;simp only[go_sem,E,h9,fN,a1,Bool.toNat_false,bG,e1];exact d (i+1,.slice oa l.length oc) _ _ bC ae (by simp only[go_sem,ab,uC]) ⟨I1,A1,l,rfl,B,f,s,N,by simp only;rw[o,cI,ad (by rw[hb];decide)]⟩
  .rw[hb]at a1 G;have am:(true:Bool).toNat=1:=rfl;have W:l.length<=128:=by rw[A];exact cO (iP O (show bM u i<=7 by omega)) aR
   apply RG;simp only[go_sem,E,h9,fN,a1,Bool.toNat_true,bG];refine bz (fun x=>l.length-x.1) (xN u i l.length) (MN l i I1) (0,.slice oa l.length oc) ae (by simp only[go_sem,ab,xN]) ?_ ?_
   .exact⟨I1,A1,l,rfl,B,ax _,bg _,N,by simp⟩
   rintro⟨k,vq⟩ H ⟨I2,A2,m,rfl,b,y,hk,p,e⟩ q;simp only at hk p e;have ap:m.length=l.length+k:=by rw[e,dG,dW,eE];omega
   simp only[xN];obtain⟨qa,qc,rfl⟩:=p.shape;rcases aB k l.length with z|aa
   .have D:=Z5 k l.length;have e2:=Z7 k;obtain⟨x,hx⟩:∃x,m[k]?=some x:=⟨_,aL O⟩;obtain⟨g,cap,cur,c,ev,rfl,c1,c2,hc,a0,C,_⟩:=p.elem (fun{I} c a h=>cG.len (I:=I) c a h) (fun{I J c a} h k=>h) hx;cases ev
    obtain⟨rfl,t⟩:=hc;have S:l[k]?=some x:=by rw[<-hx,e,mU z]
    have K:2^i<2^32:=Nat.pow_lt_pow_right O s;have q1:sY .u32 (x:Int) (mC .u32 1 (i:Int))=((x|||2^i:Nat):Int):=by rw[Jo s];exact pG t K
    have Q:x|||2^i<2^32:=Nat.or_lt_two_pow t K;refine aj D ?_;refine aV [0,1,2,3,4,5,6,7,8,9,10] [4] [] ?_;refine aC ?_
    try refine⟨O,?_⟩
    refine Xc (l:=[.int .u32 x]) rfl (by simpa using cellsU b (.tail _ (.head _)) C) (.inr ⟨dz,rfl⟩) ?_;apply bp;simp only[go_sem,E,fN,q1];refine lV b (by exact ik) rfl rfl rfl rfl rfl aR fun nb I4 U v P=>?_;have X:Sl cG I4 (.slice (some ⟨nb,0,none⟩) 1 1) [x|||2^i]:=⟨_,_,rfl,.inr ⟨nb,0,_,rfl,bD P (by simp[aD,Value.cells]) (by simp[aD,Value.cells]),.one ⟨rfl,Q⟩⟩⟩;refine aC ?_;refine oD (R:=cG) (xs:=m) (ys:=[x|||2^i]) U (by exact ik) (it.le p v) X (fun{I J c a} h k=>h) (fun{I} c a h=>cG.len (I:=I) c a h) (fun{I} c a h=>by rw[h.1];rfl) rfl rfl rfl rfl rfl rfl (by simp only[bf,bA];omega) (by simp only[bf,bA];unfold maxLen;omega) fun ua uc I5 A5 T L Z=>?_;refine aC ?_;apply an;refine aj e2 ?_;exact q (k+1,.slice ua (m++[x|||2^i]).length uc) _ _ bC ae (by simp only[go_sem,ab,xN]) ⟨I5,A5,m++[x|||2^i],rfl,T,Y y (Y v L),z,Z,by simp only;rw[cw S,jV,<-eD,<-e];rfl⟩
   .have:k=l.length:=by omega
    subst this;have D:decide ((l.length:Int)<(l.length:Int))=false:=ai;refine bW D e1 ?_;exact d (i+1,.slice qa m.length qc) _ _ bC ae (by simp only[go_sem,ab,uC]) ⟨I2,A2,m,rfl,b,Y f y,s,p,by simp only;rw[e,cB,cI,ak hb,<-o]⟩
 .have:i=32:=by omega
  subst this;have M:l.length<=256:=by rw[A];exact cO (iP O hp) aR
  refine bq B [0] fun b=>?_;refine bH (c:=.st _) b fun I3 b w ac=>?_;apply RG;simp only[go_sem,E,bG];exact ao rfl b (r:=[_]) rfl (Y f w) ⟨rfl,by rw[<-o];exact fZ (R:=cG) (fun{I J c a} h k=>h) N w ac⟩
def wL(v:Value)(vc:Value)(x:Nat×Value):St:=⟨dn 30 [(0,.v v),(5,.v x.2),(6,.v vc),(7,.v (E x.1))],[]⟩
def VG(m:List Nat)(cl:List (Nat×Nat))(a:PH)(x:Nat×Value)(H:PH):Prop:=∃I A l,H=U [I,A]/\Dj [I,A]/\a.le I/\x.1<=m.length/\it I A x.2 l/\l=(m.take x.1).filter (jh cl)
def Ek{l:List (Nat×Nat)}(T:gd I v l)(hl:l.length<2^60)(hu:u<2^32)(hp:bM u 32<=8):aI prog 25 #[v,.int .u32 u] I [] fun r I2 qs=>qs=[]/\dh I2 r (mL l u):=by
 obtain⟨X,vc,rfl,_⟩:=id T;intro hd;refine aG 30 func25 fun w0=>?_;refine af ?_;refine dq hd rfl Cw (BG hu hp) ?_;rintro v1 W qs M s⟨rfl,hm⟩;have G:(cI u 32).length<=256:=by rw[sB];exact cO (iP O hp) aR
 have t:mL l u=(cI u 32).filter (jh l):=rfl;rw[t];clear t;generalize cI u 32=m at hm G |-;obtain⟨ma,mc,rfl,_⟩:=id hm;refine af ?_;refine dR M fun L=>?_;refine bz (fun x=>m.length-x.1) (wL (.slice X l.length vc) (.slice ma m.length mc)) (VG m l W) (0,.slice none 0 0) ae (by simp only[go_sem,ab,wL]) ?_ ?_
 .exact⟨W,_,[],rfl,L,ax _,bg _,Ow.nil _ _ _ _,by simp⟩
 rintro⟨i,vo⟩ H ⟨I2,A2,o,rfl,g,e,hi,C,f⟩ j;simp only at hi C f;have aa:o.length<=i:=by rw[f];exact cO (List.length_filter_le _ _) (by rw[eE];omega)
 simp only[wL];obtain⟨oa,oc,rfl⟩:=C.shape;rcases aB i m.length with w|ac
 .have y:=Z5 i m.length;have U:=Z7 i;obtain⟨x,D⟩:∃x,m[i]?=some x:=⟨_,aL w⟩;obtain⟨b,off,cs,rfl,⟨rfl,z⟩,q⟩:=Sl.load (fun{I} c a h=>cG.len (I:=I) c a h) (dh.le hm e) D;refine aj y ?_
  try refine⟨O,?_⟩
  refine Xb (l:=[.int .u32 x]) rfl (cellsU g (.head _) (by simpa using q)) (.inr ⟨dz,rfl⟩) ?_;refine av ?_;refine Xa rfl PT (QJ (gd.le T (Y s (Y e (eP g)))) hl z) ?_;rintro v H2⟨rfl,rfl⟩;cases B:jh l x
  .refine aj U ?_;exact j (i+1,.slice oa o.length oc) _ _ bC ae (by simp only[go_sem,ab,wL]) ⟨I2,A2,o,rfl,g,e,w,C,by simp only;rw[cw D,List.filter_append,<-f];simp[B]⟩
  .refine av ?_
   try refine⟨O,?_⟩
   refine Xb (l:=[.int .u32 x]) rfl (cellsU g (.head _) (by simpa using q)) (.inr ⟨dz,rfl⟩) ?_;refine av ?_;refine cd g (by exact ik) rfl rfl rfl rfl rfl aR fun S V p d F=>?_;have N:Sl cG V (.slice (some ⟨S,0,none⟩) 1 1) [x]:=⟨_,_,rfl,.inr ⟨S,0,_,rfl,bD F (by simp[aD,Value.cells]) (by simp[aD,Value.cells]),.one ⟨rfl,z⟩⟩⟩;refine av ?_;refine dX (R:=cG) (xs:=o) (ys:=[x]) p (by exact ik) (it.le C d) N (fun{I J c a} h k=>h) (fun{I} c a h=>cG.len (I:=I) c a h) (fun{I} c a h=>by rw[h.1];rfl) rfl rfl rfl rfl (by simp only[bf,bA];omega) (by simp only[bf,bA];unfold maxLen;omega) fun ua Z I5 A5 K A P=>?_;refine aj U ?_;exact j (i+1,.slice ua (o++[x]).length Z) _ _ bC ae (by simp only[go_sem,ab,wL]) ⟨I5,A5,o++[x],rfl,K,Y e (Y d A),w,P,by simp only;rw[cw D,List.filter_append,<-f];simp[B]⟩
 .have:i=m.length:=by omega
  subst this;have y:decide ((m.length:Int)<(m.length:Int))=false:=ai;refine bq g [0] fun p=>?_;refine bH (c:=.st _) p fun V p d Q=>?_;refine aj y ?_;exact ao rfl p (r:=[_]) rfl (Y s (Y e d)) ⟨rfl,by rw[cB]at f;rw[<-f];exact fZ (R:=cG) (fun{I J c a} h k=>h) C d Q⟩
def CH:ay prog 51:=⟨_,func51,rfl,rfl⟩
def Pb:ay prog 170:=⟨_,func170,rfl,rfl⟩
def Pd:ay prog 172:=⟨_,func172,rfl,rfl⟩
def Pv:ay prog 238:=⟨_,func238,rfl,rfl⟩
def Pa:ay prog 169:=⟨_,func169,rfl,rfl⟩
def Pu:ay prog 237:=⟨_,func237,rfl,rfl⟩
variable{a:T}
def C9{va vb:Value}{b:T}(ha:bO I va a)(hb:bO I vb b):aI prog 51 #[va,vb] I [] fun r I2 qs=>qs=[]/\r=.bool (!decide (a.and b=.lf false)):=by
 obtain⟨k,j,rfl⟩:=ha.shape2;obtain⟨i,h,rfl⟩:=hb.shape2;intro hd;refine aG 10 func51 fun w0=>?_
 try simp only[sD,rD,E]
 refine cz ?_;refine dq hd rfl yu (xA ha hb) ?_;rintro l m qs d c⟨rfl,hr⟩;obtain⟨g,f,rfl⟩:=hr.shape2;refine cz ?_;refine Xa rfl nC (ny hr) ?_;rintro v H2⟨rfl,rfl⟩;refine cz ?_;exact ao rfl d (r:=[_]) rfl c ⟨rfl,rfl⟩
def WJ{va vb:Value}{b:T}(ha:bO I va a)(hb:bO I vb b):aI prog 170 #[va,vb] I [] fun r I2 qs=>qs=[]/\r=.bool (decide (a.and b.not=.lf false)):=by
 obtain⟨p,o,rfl⟩:=ha.shape2;obtain⟨n,m,rfl⟩:=hb.shape2;intro hd;refine aG 10 func170 fun w0=>?_
 try simp only[sD,rD,E]
 refine cz ?_;refine aV [0,1,2,3,4,5] [] [] ?_;refine bV ?_;refine cP hd rfl Hb (Ip hb) ?_;rintro q v qs j c⟨rfl,hr⟩;obtain⟨l,k,rfl⟩:=hr.shape2;refine bV ?_;refine cP j rfl yu (xA (ha.le c) hr) ?_;rintro v2 I2 qs i g⟨rfl,d⟩;obtain⟨t,s,rfl⟩:=d.shape2;refine bV ?_;refine cP i rfl nC (aJ.keep (ny d)) ?_;rintro v3 u qs h f⟨rfl,rfl⟩;refine bV ?_;apply an;refine af ?_;exact ao rfl h (r:=[_]) rfl (Y c (Y g f)) ⟨rfl,rfl⟩
def qe(_:PH)(c:List Value)(k:Nat):Prop:=c=[.int .u8 k]
def qe.len(c:List Value)(k:Nat)(h:qe I c k):c.length=1:=by rw[show c=_ from h];rfl
abbrev fw(I:PH)(v:Value)(l:List Nat):Prop:=Sl qe I v l
def fw.le(h:fw I v l)(k:I.le J):fw J v l:=Sl.le (R:=qe) (fun{I J c a} h k=>h) h k
def pw(v:Value)(k n i:Nat):St:=⟨dn 19 [(0,.v v),(1,.v (.int .u8 k)),(4,.v (E 0)),(7,.v (E n)),(8,.v (E i))],[]⟩
variable{H:PH}
def R2{k:Nat}(h:fw H v l)(y:l.length<2^40)(s:k∈l):aJ prog 238 #[v,.int .u8 k] H fun r H2=>(∃i:Nat,r=E i)/\H2=H:=by
 obtain⟨q,vc,rfl,_⟩:=id h;refine aG 19 func238 fun w0=>?_
 try simp only[E]
 refine af ?_;refine bz (fun i=>l.length-i) (pw (.slice q l.length vc) k l.length) (fun i H2=>H2=H/\i<=l.length/\k∉l.take i) 0 ae (by simp only[go_sem,ab,pw,E]) ⟨rfl,bg _,by simp⟩ ?_;rintro i H2 ⟨rfl,hi,j⟩ d;simp only[pw];rcases aB i l.length with g|m
 .have u:=Z5 i l.length;have w:=Z7 i;obtain⟨x,p⟩:∃x,l[i]?=some x:=⟨_,aL g⟩;obtain⟨b,off,cs,rfl,t,f⟩:=Sl.load (fun{I} c a h=>qe.len (I:=I) c a h) h p;cases t
  refine aj u ?_;refine⟨O,?_⟩;refine Xb (l:=[.int .u8 x]) rfl (by simpa using f) (.inr ⟨qq,rfl⟩) ?_;cases o:((k:Int) == (x:Int))
  .refine bW o w ?_;refine d (i+1) _ _ O ae (by simp only[go_sem,ab,pw,E]) ⟨rfl,g,?_⟩;rw[cw p,gS,List.mem_singleton];have:¬k=x:=fun e=>by subst e;simp at o
   exact fun h=>h.elim j this
  .refine aj o ?_;exact au (r:=[_]) rfl ⟨⟨i,rfl⟩,rfl⟩
 .rw[tM m]at j;exact absurd s j
def FB(k:Nat)(x:aE):Prop:=iD k x=true
def Pc:ay prog 171:=⟨_,func171,rfl,rfl⟩
def lX(I:PH)(c:List Value)(r:Nat×List Nat):Prop:=∃a,c=[.int .u8 r.1,a]/\fw I a r.2
def lX.len(c:List Value)(r:Nat×List Nat)(h:lX I c r):c.length=2:=by obtain⟨a,e,_⟩:=h;rw[e];rfl
def lX.le{r:Nat×List Nat}(h:lX I c r)(k:I.le J):lX J c r:=by obtain⟨a,e,h⟩:=h;exact⟨a,e,h.le k⟩
abbrev gg(I:PH)(v:Value)(l:List (Nat×List Nat)):Prop:=Sl lX I v l
def gg.le{l:List (Nat×List Nat)}(h:gg I v l)(k:I.le J):gg J v l:=Sl.le (R:=lX) (fun{I J c a} h k=>lX.le h k) h k
def Hw{I:PH}:∀l:List Nat,LR (qe I) (l.map fun k=>.int .u8 (k:Nat)) l
 | []=>rfl
 |_::l=>⟨_,_,rfl,rfl,Hw l⟩
variable{b n:Nat}
def lK(h:aX I b 0 (l.map fun k=>.int .u8 (k:Nat)))(a:l.length=n):fw I (.slice (some ⟨b,0,none⟩) n n) l:=⟨_,_,by rw[a],.inr ⟨b,0,_,rfl,h,Hw l⟩⟩
variable{K:List Nat}
def nX{h:Nat}(c:aX I b 0 [.int .u8 h,v])(a:fw I v K):gg I (.slice (some ⟨b,0,none⟩) 1 1) [(h,K)]:=
 ⟨_,_,rfl,.inr ⟨b,0,_,rfl,c,_,_,rfl,⟨_,rfl,a⟩,rfl⟩⟩
def DM{h h':Nat}{v':Value}{K':List Nat}(c:aX I b 0 [.int .u8 h,v,.int .u8 h',v'])(a:fw I v K)(d:fw I v' K'):gg I (.slice (some ⟨b,0,none⟩) 2 2) [(h,K),(h',K')]:=
 ⟨_,_,rfl,.inr ⟨b,0,_,rfl,c,_,_,rfl,⟨_,rfl,a⟩,_,_,rfl,⟨_,rfl,d⟩,rfl⟩⟩
def IX{h h' h2:Nat}{v' v2:Value}{K' K2:List Nat}(c:aX I b 0 [.int .u8 h,v,.int .u8 h',v',.int .u8 h2,v2])(a:fw I v K)(d:fw I v' K')(a2:fw I v2 K2):gg I (.slice (some ⟨b,0,none⟩) 3 3) [(h,K),(h',K'),(h2,K2)]:=
 ⟨_,_,rfl,.inr ⟨b,0,_,rfl,c,_,_,rfl,⟨_,rfl,a⟩,_,_,rfl,⟨_,rfl,d⟩,_,_,rfl,⟨_,rfl,a2⟩,rfl⟩⟩
def Um{k:Nat}(hk:1<=k/\k<=19):aI prog 171 #[.int .u8 k] I [] fun r I2 qs=>qs=[]/\gg I2 r (rl k):=by
 intro cr;refine aG 68 func171 fun w0=>?_;refine af ?_;refine cd cr (by exact lI) rfl rfl rfl rfl rfl aR fun b6 I1 cp S cx=>?_;refine af ?_;refine cd cp (by exact lI) rfl rfl rfl rfl rfl aR fun b7 I2 cn R ct=>?_;refine af ?_;refine cd cn (by exact lI) rfl rfl rfl rfl rfl aR fun b8 I3 cm Q cs=>?_;refine af ?_;refine cd cm (by exact jT) rfl rfl rfl rfl rfl aR fun b10 I4 cl P cb=>?_;refine af ?_;refine cd cl (by exact lI) rfl rfl rfl rfl rfl aR fun b11 I5 ck N ca=>?_;refine af ?_;refine cd ck (by exact jT) rfl rfl rfl rfl rfl aR fun b15 I6 cj M b5=>?_;refine af ?_;refine cd cj (by exact lI) rfl rfl rfl rfl rfl aR fun b16 I7 ci L b4=>?_;refine af ?_;refine cd ci (by exact lI) rfl rfl rfl rfl rfl aR fun b18 I8 cf K b3=>?_;refine af ?_;refine cd cf (by exact lI) rfl rfl rfl rfl rfl aR fun b20 I9 cc J b2=>?_;refine af ?_;refine cd cc (by exact jT) rfl rfl rfl rfl rfl aR fun b22 du a1 v b1=>?_;refine af ?_;refine cd a1 (by exact lI) rfl rfl rfl rfl rfl aR fun b23 ds a0 u b0=>?_;refine af ?_;refine cd a0 (by exact jT) rfl rfl rfl rfl rfl aR fun b25 dl aq t bx=>?_;refine af ?_;refine cd aq (by exact jT) rfl rfl rfl rfl rfl aR fun b28 dd ap s bs=>?_;refine af ?_;refine cd ap (by exact jT) rfl rfl rfl rfl rfl aR fun b31 dc am q bo=>?_;refine af ?_;refine cd am (by exact lI) rfl rfl rfl rfl rfl aR fun b34 da al p bd=>?_;refine af ?_;refine cd al (by exact lI) rfl rfl rfl rfl rfl aR fun b36 c9 ag o bc=>?_;refine af ?_;refine cd ag (by exact jT) rfl rfl rfl rfl rfl aR fun b38 c6 ac n bb=>?_;refine af ?_;refine cd ac (by exact lI) rfl rfl rfl rfl rfl aR fun b41 c5 aa m ba=>?_;refine af ?_;refine cd aa (by exact jT) rfl rfl rfl rfl rfl aR fun b43 c4 Z l a9=>?_;refine af ?_
 refine cd Z (by exact jT) rfl rfl rfl rfl rfl aR fun b46 c3 X j a7=>?_;refine af ?_;refine cd X (by exact jT) rfl rfl rfl rfl rfl aR fun b49 c2 W i a6=>?_;refine af ?_;refine cd W (by exact jT) rfl rfl rfl rfl rfl aR fun b52 c1 V h a5=>?_;refine af ?_;refine cd V (by exact jT) rfl rfl rfl rfl rfl aR fun b57 c0 U g a4=>?_;refine af ?_;refine cd U (by exact jT) rfl rfl rfl rfl rfl aR fun b60 cy T f a3=>?_;refine af ?_;refine cd T (by exact jT) rfl rfl rfl rfl rfl aR fun b63 a b e a2=>?_;have w:=ax a;have x:=Y e w;have y:=Y f x;have z:=Y g y;have A:=Y h z;have B:=Y i A;have m19:=Y j B;have m18:=Y l m19;have m17:=Y m m18;have m16:=Y n m17;have m15:=Y o m16;have C:=Y p m15;have D:=Y q C;have F:=Y s D;have G:=Y t F;have H:=Y u G;have m9:=Y v H;have m8:=Y J m9;have m7:=Y K m8;have m6:=Y L m7;have m5:=Y M m6;have m4:=Y N m5;have m3:=Y P m4;have m2:=Y Q m3;have m1:=Y R m2;have c:=Y S m1;have d:fw a (.slice (some ⟨b6,0,none⟩) 7 7) bR:=lK ((bD cx (by simp[aD,Value.cells,bR,dx]) (by simp[aD,Value.cells,bR,dx])).le m1) rfl;have K7:fw a (.slice (some ⟨b7,0,none⟩) 9 9) dx:=lK ((bD ct (by simp[aD,Value.cells,bR,dx]) (by simp[aD,Value.cells,bR,dx])).le m2) rfl;have K8:fw a (.slice (some ⟨b8,0,none⟩) 2 2) [2,3]:=lK ((bD cs (by simp[aD,Value.cells,bR,dx]) (by simp[aD,Value.cells,bR,dx])).le m3) rfl;have K11:fw a (.slice (some ⟨b11,0,none⟩) 1 1) [5]:=lK ((bD ca (by simp[aD,Value.cells,bR,dx]) (by simp[aD,Value.cells,bR,dx])).le m5) rfl
 have K16:fw a (.slice (some ⟨b16,0,none⟩) 1 1) [4]:=lK ((bD b4 (by simp[aD,Value.cells,bR,dx]) (by simp[aD,Value.cells,bR,dx])).le m7) rfl;have K18:fw a (.slice (some ⟨b18,0,none⟩) 1 1) [5]:=lK ((bD b3 (by simp[aD,Value.cells,bR,dx]) (by simp[aD,Value.cells,bR,dx])).le m8) rfl;have K20:fw a (.slice (some ⟨b20,0,none⟩) 1 1) [6]:=lK ((bD b2 (by simp[aD,Value.cells,bR,dx]) (by simp[aD,Value.cells,bR,dx])).le m9) rfl;have K23:fw a (.slice (some ⟨b23,0,none⟩) 1 1) [5]:=lK ((bD b0 (by simp[aD,Value.cells,bR,dx]) (by simp[aD,Value.cells,bR,dx])).le G) rfl;have K34:fw a (.slice (some ⟨b34,0,none⟩) 1 1) [6]:=lK ((bD bd (by simp[aD,Value.cells,bR,dx]) (by simp[aD,Value.cells,bR,dx])).le m15) rfl;have K36:fw a (.slice (some ⟨b36,0,none⟩) 2 2) [6,8]:=lK ((bD bc (by simp[aD,Value.cells,bR,dx]) (by simp[aD,Value.cells,bR,dx])).le m16) rfl;have K41:fw a (.slice (some ⟨b41,0,none⟩) 1 1) [6]:=lK ((bD ba (by simp[aD,Value.cells,bR,dx]) (by simp[aD,Value.cells,bR,dx])).le m18) rfl;have R10:gg a (.slice (some ⟨b10,0,none⟩) 1 1) [(2,[2,3])]:=nX ((bD cb (by simp[aD,Value.cells]) (by simp[aD,Value.cells])).le m4) K8;have R15:gg a (.slice (some ⟨b15,0,none⟩) 2 2) [(0,[5]),(1,bR)]:=DM ((bD b5 (by simp[aD,Value.cells]) (by simp[aD,Value.cells])).le m6) K11 d;have R22:gg a (.slice (some ⟨b22,0,none⟩) 3 3) [(2,[4]),(1,[5]),(0,[6])]:=IX ((bD b1 (by simp[aD,Value.cells]) (by simp[aD,Value.cells])).le H) K16 K18 K20;have R25:gg a (.slice (some ⟨b25,0,none⟩) 1 1) [(0,[5])]:=nX ((bD bx (by simp[aD,Value.cells]) (by simp[aD,Value.cells])).le F) K23;have R28:gg a (.slice (some ⟨b28,0,none⟩) 1 1) [(2,dx)]:=nX ((bD bs (by simp[aD,Value.cells]) (by simp[aD,Value.cells])).le D) K7
 have R31:gg a (.slice (some ⟨b31,0,none⟩) 1 1) [(0,bR)]:=nX ((bD bo (by simp[aD,Value.cells]) (by simp[aD,Value.cells])).le C) d;have R38:gg a (.slice (some ⟨b38,0,none⟩) 3 3) [(0,bR),(0,[6]),(1,[6,8])]:=IX ((bD bb (by simp[aD,Value.cells]) (by simp[aD,Value.cells])).le m17) d K34 K36;have R43:gg a (.slice (some ⟨b43,0,none⟩) 2 2) [(0,bR),(0,[6])]:=DM ((bD a9 (by simp[aD,Value.cells]) (by simp[aD,Value.cells])).le m19) d K41;have R46:gg a (.slice (some ⟨b46,0,none⟩) 1 1) [(1,bR)]:=nX ((bD a7 (by simp[aD,Value.cells]) (by simp[aD,Value.cells])).le B) d;have R49:gg a (.slice (some ⟨b49,0,none⟩) 1 1) [(0,bR)]:=nX ((bD a6 (by simp[aD,Value.cells]) (by simp[aD,Value.cells])).le A) d;have R52:gg a (.slice (some ⟨b52,0,none⟩) 1 1) [(0,bR)]:=nX ((bD a5 (by simp[aD,Value.cells]) (by simp[aD,Value.cells])).le z) d;have R57:gg a (.slice (some ⟨b57,0,none⟩) 2 2) [(0,bR),(0,bR)]:=DM ((bD a4 (by simp[aD,Value.cells]) (by simp[aD,Value.cells])).le y) d d;have R60:gg a (.slice (some ⟨b60,0,none⟩) 1 1) [(0,bR)]:=nX ((bD a3 (by simp[aD,Value.cells]) (by simp[aD,Value.cells])).le x) d;have R63:gg a (.slice (some ⟨b63,0,none⟩) 1 1) [(2,bR)]:=nX ((bD a2 (by simp[aD,Value.cells]) (by simp[aD,Value.cells])).le w) d;have hc:k=1\/k=2\/k=3\/k=4\/k=6\/k=7\/k=8\/k=9\/k=10\/k=11\/k=12\/k=13\/k=14\/k=19\/(k=5\/k=15\/k=16\/k=17\/k=18):=O;rcases hc with rfl|rfl|rfl|rfl|rfl|rfl|rfl|rfl|rfl|rfl|rfl|rfl|rfl|rfl|hc
 .apply RG;simp only[go_sem,bG,fN];exact ao rfl b (r:=[_]) rfl c ⟨rfl,R10⟩
 .apply RG;simp only[go_sem,bG,fN];exact ao rfl b (r:=[_]) rfl c ⟨rfl,R15⟩
 .apply RG;simp only[go_sem,bG,fN];exact ao rfl b (r:=[_]) rfl c ⟨rfl,R22⟩
 .apply RG;simp only[go_sem,bG,fN];exact ao rfl b (r:=[_]) rfl c ⟨rfl,R25⟩
 .apply RG;simp only[go_sem,bG,fN];exact ao rfl b (r:=[_]) rfl c ⟨rfl,R28⟩
 .apply RG;simp only[go_sem,bG,fN];exact ao rfl b (r:=[_]) rfl c ⟨rfl,R31⟩
 .apply RG;simp only[go_sem,bG,fN];exact ao rfl b (r:=[_]) rfl c ⟨rfl,R38⟩
 .apply RG;simp only[go_sem,bG,fN];exact ao rfl b (r:=[_]) rfl c ⟨rfl,R43⟩
 .apply RG;simp only[go_sem,bG,fN];exact ao rfl b (r:=[_]) rfl c ⟨rfl,R46⟩
 .apply RG;simp only[go_sem,bG,fN];exact ao rfl b (r:=[_]) rfl c ⟨rfl,R49⟩
 .apply RG;simp only[go_sem,bG,fN];exact ao rfl b (r:=[_]) rfl c ⟨rfl,R52⟩
 .apply RG;simp only[go_sem,bG,fN];exact ao rfl b (r:=[_]) rfl c ⟨rfl,R57⟩
 .apply RG;simp only[go_sem,bG,fN];exact ao rfl b (r:=[_]) rfl c ⟨rfl,R60⟩
 .apply RG;simp only[go_sem,bG,fN];exact ao rfl b (r:=[_]) rfl c ⟨rfl,R63⟩
 .rcases hc with rfl|rfl|rfl|rfl|rfl
  all_goals
   apply RG;simp only[go_sem,bG,fN];exact ao rfl b (r:=[_]) rfl c ⟨rfl,none,0,rfl,.inl rfl⟩
def GK:ay prog 107:=⟨_,func107,rfl,rfl⟩
def G9:ay prog 53:=⟨_,func53,rfl,rfl⟩
def AL(P:Program)(T:TypeId)(cs:Array Value):Prop:=P.eqGuardType P.depth T=false/\∀w,(Op.equalIn 10000 T (.agg cs) (.agg cs)).run P w=.ok true w
variable{cs:Array Value}{T2:TypeId}{o:Oper}{σ:St}
def U2{P:Program}{T:TypeId}{op:BinOp}{x y:Operand}(aa:o.op=.binOp op T x y T2)(d:op=.eql\/op=.neq)(c:ev σ x=.v (.agg cs))(b:ev σ y=.v (.agg cs))(a:AL P T cs):
  bt σ o.op=true/\∀w,Sub H w->(execOp (aQ σ) o).run P w=.ok (.value (.bool (match op with | .neq=>false|_=>true))) w:=by
 constructor
 .simp[bt,aa,dU,Op.operands,c,b,eX]
 .intro w _;rcases d with rfl|rfl
  .simp[execOp,aa,aQ,c,b,bY,run_eqGuard_agg w .eql T x y cs cs a.1,run_eql_struct,a.2 w,Result.andThen]
  .simp[execOp,aa,aQ,c,b,bY,run_eqGuard_agg w .neq T x y cs cs a.1,run_neq_struct,a.2 w,Result.andThen]
variable{k:List Item}{ol:List Oper}
def K1{C:Cx}{fr:bI}{str:bJ}{l:List (Nat×Oper)}{T:TypeId}{x y:Operand}(hf:fr.h.contains i=true)(hw:be ol σ o=some true)(aa:o.op=.binOp .neq T x y T2)(d:ev σ x=.v (.agg cs))(c:ev σ y=.v (.agg cs))(e:AL C.P T cs)(h:RD C ol fr str l k (σ.put o.dst (.v (.bool false))) H):RD C ol fr str ((i,o)::l) k σ H:=by obtain⟨b,a⟩:=U2 (H:=H) aa (.inr rfl) d c e;exact oF (.bool false) hf hw b (by rw[aa];rfl) a h
def N4(a b c:Int):AL prog 181 #[.int .i64 a,.int .i64 b,.int .i64 c]:=by
 refine⟨by kernel_rfl,fun w=>?_⟩;have g:prog.underlying 181=some (.struct (prog.fieldsOf 181)):=ah;have hp:prog.stoodInHeld 181=false:=ah;have hf:(prog.fieldsOf 181).toList=[⟨ "Var",3,0,false,"","",0⟩,⟨ "Low",3,1,false,"","",8⟩,⟨ "High",3,2,false,"","",16⟩]:=by unfold Program.fieldsOf;rw[Ar]
 have f:(part 3 #[.int .i64 a,.int .i64 b,.int .i64 c] 0).run prog w=.ok (.int .i64 a) w:=nY (by unfold gp;rw[dI];rfl);have e:(part 3 #[.int .i64 a,.int .i64 b,.int .i64 c] 1).run prog w=.ok (.int .i64 b) w:=nY (by unfold gp;rw[dI];rfl);have d:(part 3 #[.int .i64 a,.int .i64 b,.int .i64 c] 2).run prog w=.ok (.int .i64 c) w:=nY (by unfold gp;rw[dI];rfl);rw[show (10000:Nat)=9998+1+1 from rfl,run_equalIn_agg w (9998+1) 181 _ _ g hp,hf];simp[Op.eqFields,bY,f,e,d,Result.andThen,run_equalIn_int w 9998 3 .i64 .i64 _ _ lM]
def o5(a v2:Value)(n i:Nat):St:=⟨dn 26 [(0,.v a),(1,.v v2),(11,.v a),(12,.v (E n)),(13,.v (E i))],[]⟩
def N7{v1 v2:Value}{ts:List T}(h1:jc H v1 ts)(h2:jc H v2 ts)(w:ts.length<2^40):aJ prog 107 #[v1,v2] H fun r H2=>r=.bool true/\H2=H:=by
 obtain⟨a1,u,rfl,g1⟩:=h1;obtain⟨a2,c2,rfl,g2⟩:=h2;refine aG 26 func107 fun w0=>?_;have q:((ts.length:Int) != (ts.length:Int))=false:=ai;apply RG;simp only[go_sem,q];refine bz (fun x=>ts.length-x) (o5 (.slice a1 ts.length u) (.slice a2 ts.length c2) ts.length) (fun i H2=>H2=H/\i<=ts.length) 0 ae (by simp only[go_sem,ab,o5]) ⟨rfl,bg _⟩ ?_;rintro i H2 ⟨rfl,hi⟩ d;simp only[o5];rcases aB i ts.length with c|p
 .have f:=Z5 i ts.length;have s:=Z7 i;obtain⟨t,ht⟩:∃t,ts[i]?=some t:=⟨_,aL c⟩;have j:(iM ts).length=ts.length*3:=rp _;have g:∀{a:Option Addr},(ts=[]\/∃b,a=some ⟨b,0,none⟩/\aX H2 b 0 (iM ts))->∃b,a=some ⟨b,0,none⟩/\aX H2 b (i*3) (gi (T.dec ts t)):=by
   rintro a (h|⟨b,e,h⟩)
   .rw[h]at c;simp at c
   .have k:=h.sub (i*3) 3 O;rw[rn ht,eR]at k;exact⟨b,e,k⟩
  obtain⟨b1,rfl,o⟩:=g g1;obtain⟨b2,rfl,m⟩:=g g2;refine aj f ?_;refine aV [0,1,2,3,4,5,6,7,8] [3,7,8] [] ?_;refine aC ?_
  try refine⟨O,?_⟩
  refine Xc (l:=gi (T.dec ts t)) (v:=cT (T.dec ts t)) rfl (by simpa using o) (.inl ⟨l7,rfl⟩) ?_;apply bp;simp only[go_sem,E,cT]
  try refine⟨O,?_⟩
  refine Xc (l:=gi (T.dec ts t)) (v:=cT (T.dec ts t)) rfl (by simpa using m) (.inl ⟨l7,rfl⟩) ?_;apply bp;simp only[go_sem,E,cT];refine K1 rfl rfl rfl rfl rfl (N4 (T.dec ts t).1 (T.dec ts t).2.1 (T.dec ts t).2.2) ?_;refine aC ?_;apply an;refine aj s ?_;exact d (i+1) _ _ O ae (by simp only[go_sem,ab,o5]) ⟨rfl,c⟩
 .have:i=ts.length:=by omega
  subst this;have f:decide ((ts.length:Int)<(ts.length:Int))=false:=ai;refine aj f ?_;exact au (r:=[_]) rfl ⟨rfl,rfl⟩
variable{t:T}
def D9(h:t.ok 0):(T.subs t).length+1<=2^24:=by obtain⟨us,a,e2,_⟩:=(T.vis_spec t h O [] T.Seq.nil).2.2;rw[gk]at a;show (t.vis []).length+1<=_;rw[a];exact e2
def Jh{v1 v2:Value}(h1:bO H v1 t)(h2:bO H v2 t):aJ prog 53 #[v1,v2] H fun r H2=>r=.bool true/\H2=H:=by
 have c:=D9 h1.1;obtain⟨_,b,rfl,g1⟩:=h1;obtain⟨_,a,rfl,g2⟩:=h2;obtain⟨a1,d,rfl,_⟩:=id g1;obtain⟨a2,c2,rfl,_⟩:=id g2;refine aG 17 func53 fun w0=>?_
 try simp only[E]
 refine af ?_;refine Xa rfl GK (N7 g1 g2 O) ?_;rintro v H2⟨rfl,rfl⟩;refine af ?_;exact au (r:=[_]) rfl ⟨rfl,rfl⟩
def jX(I:PH)(c:List Value)(t:T):Prop:=∃a k,c=[sD a k t,rD t]/\bO I (.agg #[sD a k t,rD t]) t
def jX.len(c:List Value)(t:T)(h:jX I c t):c.length=2:=by obtain⟨a,k,e,_⟩:=h;rw[e];rfl
def jX.le(h:jX I c t)(k:I.le J):jX J c t:=by obtain⟨a,b,e,h⟩:=h;exact⟨a,b,e,h.le k⟩
abbrev oA(I A:PH)(v:Value)(l:List T):Prop:=Ow jX 50 2 I A v l
def oA.le{A:PH}{l:List T}(h:oA I A v l)(k:I.le J):oA J A v l:=Ow.le (R:=jX) (fun{I J c a} h k=>jX.le h k) h k
def Ty(f:n<=3):oA I (sg b (.cells (madeCells (Value.agg #[.slice none 0 0,.int .i64 0]).cells (n*2)) 50 (0,0))) (.slice (some ⟨b,0,none⟩) n n) (List.replicate n (ff:T)):=by
 have a:jX I [.slice none 0 0,.int .i64 0] ff:=⟨none,0,rfl,we I⟩;have e:madeCells (Value.agg #[.slice none 0 0,.int .i64 0]).cells (0*2)=([]:List Value).toArray:=ah;have m1:madeCells (Value.agg #[.slice none 0 0,.int .i64 0]).cells (1*2)=([Value.slice none 0 0,.int .i64 0]:List Value).toArray:=ah;have d:madeCells (Value.agg #[.slice none 0 0,.int .i64 0]).cells (2*2)=([Value.slice none 0 0,.int .i64 0,Value.slice none 0 0,.int .i64 0]:List Value).toArray:=ah;have m3:madeCells (Value.agg #[.slice none 0 0,.int .i64 0]).cells (3*2)=([Value.slice none 0 0,.int .i64 0,Value.slice none 0 0,.int .i64 0,Value.slice none 0 0,.int .i64 0]:List Value).toArray:=ah;have c:n=0\/n=1\/n=2\/n=3:=O;rcases c with rfl|rfl|rfl|rfl
 .rw[e];exact⟨[],th rfl aR,rfl⟩
 .rw[m1];exact⟨[Value.slice none 0 0,.int .i64 0],th rfl aR,⟨_,_,rfl,a,rfl⟩⟩
 .rw[d];exact⟨[Value.slice none 0 0,.int .i64 0,Value.slice none 0 0,.int .i64 0],th rfl aR,⟨_,_,rfl,a,_,_,rfl,a,rfl⟩⟩
 .rw[m3];exact⟨[Value.slice none 0 0,.int .i64 0,Value.slice none 0 0,.int .i64 0,Value.slice none 0 0,.int .i64 0],th rfl aR,⟨_,_,rfl,a,_,_,rfl,a,_,_,rfl,a,rfl⟩⟩
def cV(l:List Nd)(s:Nat):T:=l.foldl (fun a n=>if n.slot=(s:Int)then a.or n.cond else a) ff
def mF(n:Nat)(l:List Nd):List T:=(List.range n).map (cV l)
def D0(l:List Nd)(m:Nd)(s:Nat):cV (l++[m]) s=if m.slot=(s:Int)then (cV l s).or m.cond else cV l s:=by simp[cV]
def US(n:Nat):mF n []=List.replicate n (ff:T):=by
 unfold mF;refine List.ext_getElem? fun i=>?_;rw[fX,List.getElem?_replicate];split
 .rename_i h;rw[List.getElem?_range h];rfl
 .rename_i h;rw[fW (by simp;omega)];rfl
def zR(h:i<n)(l:List Nd):(mF n l)[i]?=some (cV l i):=by unfold mF;rw[fX,List.getElem?_range h];rfl
def wx(n:Nat)(l:List Nd):(mF n l).length=n:=by simp[mF]
def UT(h:i<n)(l:List Nd)(m:Nd)(hm:m.slot=(i:Int)):mF n (l++[m])=(mF n l).set i ((cV l i).or m.cond):=by
 refine List.ext_getElem? fun j=>?_;rw[pY];rcases aB j n with a|a
 .rw[zR a,zR a,D0,wx];by_cases e:i=j
  .subst e;rw[ak hm,ak rfl,ak h]
  .rw[ad e,ad O]
 .rw[fW (by rw[wx];exact a),ad O,fW (by rw[wx];exact a)]
def Fo{b:T}(ha:a.ok 0)(hb:b.ok 0)(h:∀c,¬(a.at' c=true/\b.at' c=true)):a.and b=.lf false:=by refine T.ext (T.and_ok ha hb) (show (ff:T).ok 0 from trivial) fun c=>?_;rw[T.and_at ha hb];have:=h c;cases ha:a.at' c<;>cases hb:b.at' c<;>simp_all<;>rfl
def DE(k:Nat):(rl k).length<=3:=by
 rcases aB k 20 with a|a
 .exact(by decide:∀k,k<20->(rl k).length<=3) k a
 .have:rl k=[]:=by
   unfold rl
   repeat rw[ad O]
  rw[this];decide
def L5{b:T}(ha:a.ok 0)(hb:b.ok 0):a.and b=a<->a.and b.not=.lf false:=by
 constructor
 .intro h;refine Fo ha (T.not_ok hb) fun c ⟨h1,h2⟩=>?_;rw[T.not_at]at h2;have h3:(a.and b).at' c=a.at' c:=by rw[h]
  rw[T.and_at ha hb,h1,Bool.true_and]at h3;rw[h3]at h2;cases h2
 .intro h;refine T.ext (T.and_ok ha hb) ha fun c=>?_;have h1:(a.and b.not).at' c=false:=by rw[h];rfl
  rw[T.and_at ha (T.not_ok hb),T.not_at]at h1;rw[T.and_at ha hb];cases h2:a.at' c<;>cases h3:b.at' c<;>simp_all
def BP{b:T}(ha:a.ok 0)(hb:b.ok 0):(∀c,¬(a.at' c=true/\b.at' c=true))<->a.and b=.lf false:=by
 constructor
 .exact Fo ha hb
 .intro h c ⟨h1,h2⟩;have h3:(a.and b).at' c=false:=by rw[h];rfl
  rw[T.and_at ha hb,h1,h2]at h3;cases h3
def rK(n:Nd)(j:Nat)(m:Nd):Prop:=R1 n.kind m/\∀p,0<j->n.kids[j-1]?=some p->dE p.key m.key=true
def mZ(n:Nd)(i j:Nat)(m:Nd):Prop:=m.slot=(i:Int)->(cV (n.kids.take j) i).and m.cond=.lf false
def EG(F:Nat->aE->Prop)(w:T)(n:Nd):Prop:=(1<=n.kind/\n.kind<=19)/\n6 F n.kind n.text/\n.cond≠.lf false/\n.cond.and w.not=.lf false/\(-1<=n.tok/\(n.tok=-1<->n.kind=1))/\
 (∀j m,n.kids[j]?=some m->rK n j m)/\(∀(i:Nat) r,(rl n.kind)[i]?=some r->r.1≠2->∀j m,n.kids[j]?=some m->mZ n i j m)/\∀(i:Nat) r,(rl n.kind)[i]?=some r->r.1=0->cV n.kids i=n.cond
mutual
def VX(F:Nat->aE->Prop):T->Nd->Prop
 |w,⟨k,x,o,s,ks,d⟩=>EG F w ⟨k,x,o,s,ks,d⟩/\ui F d ks
def ui (F:Nat->aE->Prop):T->List Nd->Prop
 |_,[]=>True
 |w,n::l=>VX F w n/\ui F w l
end
variable{F:Nat->aE->Prop}
def LB{w:T}{l:List Nd}:ui F w l<->∀n∈l,VX F w n:=by
 induction l with
 |nil=>simp[ui]
 |cons n l a=>simp[ui,a]
def fD{w:T}(n:Nd):VX F w n<->EG F w n/\∀m∈n.kids,VX F n.cond m:=by cases n;rw[VX,LB]
mutual
def nf(P:Nd->Prop):Nd->Prop
 |⟨k,x,o,s,ks,d⟩=>P ⟨k,x,o,s,ks,d⟩/\ne P ks
def ne (P:Nd->Prop):List Nd->Prop
 | []=>True
 |n::l=>nf P n/\ne P l
end
variable{P:Nd->Prop}
def AQ{l:List Nd}:ne P l<->∀n∈l,nf P n:=by
 induction l with
 |nil=>simp[ne]
 |cons n l a=>simp[ne,a]
def EH(n:Nd):nf P n<->P n/\∀m∈n.kids,nf P m:=by cases n;rw[nf,AQ]
abbrev oL(n:Nd):Prop:=n.text.length<2^40
def cM(l:List Nd):T:=l.foldl (fun _ n=>n.cond) (.lf false)
def Ux(l:List Nd)(n:Nd):cM (l++[n])=n.cond:=by unfold cM;rw[lP];rfl
def dw(s:T)(l:List aN):T:=l.foldl (fun s d=>s.or d.cond) s
def Ji(s:T)(l:List aN)(d:aN):dw s (l++[d])=(dw s l).or d.cond:=by unfold dw;rw[lP];rfl
def KD(t:Tr)(i:Nat)(d:aN):Prop:=(10<=d.code/\d.code<=12)/\0<=d.tok/\d.cond≠.lf false/\(dw (cM t.kids) (t.diags.take i)).and d.cond=.lf false/\∀p,0<i->t.diags[i-1]?=some p->eV p d<0
def qk(t:Tr):Prop:=t.kids.length<=1/\(∀n∈t.kids,n.kind=1/\n.slot=0/\VX FB (.lf true) n)/\(∀i d,t.diags[i]?=some d->KD t i d)/\(dv t.kids).Pairwise kH
mutual
theorem Gx:∀n:Nd,sW n->∀p∈iE n,p.2.ok 0
 |⟨k,s,t,o,ks,d⟩,h,p,hp=>by
  rw[iE]at hp
  rcases List.mem_cons.1 hp with rfl|hp
  .exact h.1
  .exact Gw ks h.2 p hp
theorem Gw:∀l:List Nd,ii l->∀p∈dv l,p.2.ok 0
 | [],_,p,hp=>by rw[dv]at hp;cases hp
 |n::l,h,p,hp=>by
  rw[dv]at hp
  rcases List.mem_append.1 hp with hp|hp
  .exact Gx n h.1 p hp
  .exact Gw l h.2 p hp
end
def cC{P:Prop}(h:¬P):(false=true<->P):=⟨fun e=>(by cases e),fun p=>(h p).elim⟩
def AG{P:Prop}(h:P):(true=true<->P):=⟨fun _=>h,fun _=>rfl⟩
open Go Go.Sx Dg Syn
def OS:ay prog 114:=⟨_,func114,rfl,rfl⟩
def CI:ay prog 58:=⟨_,func58,rfl,rfl⟩
def En:prog.underlying 4=some .bool:=ah
def AV{C:Cx}{fr:bI}{str:bJ}{l:List (Nat×Oper)}{T:TypeId}{x y:Operand}{a b:Bool}(hf:fr.h.contains i=true)(hw:be ol σ o=some true)(aa:o.op=.binOp .neq T x y T2)(d:ev σ x=.v (.bool a))(c:ev σ y=.v (.bool b))(e:C.P.underlying T=some .bool)(h:RD C ol fr str l k (σ.put o.dst (.v (.bool (!(a == b))))) H):RD C ol fr str ((i,o)::l) k σ H:=by refine oF (.bool (!(a == b))) hf hw (by simp[bt,aa,dU,Op.operands,d,c,eX]) (by rw[aa];rfl) (fun w _=>?_) h;simp[execOp,aa,aQ,d,c,bY,eqGuard,run_neq_bool w T a b e,Result.andThen]
def wD(ts l:List T):Nat:=l.foldl (fun s x=>s|||2^(T.dec ts x).1) 0
def zX(t:T):Nat:=wD (T.subs t) (T.subs t)
def Vo(ts l:List T)(x:T):wD ts (l++[x])=wD ts l|||2^(T.dec ts x).1:=by unfold wD;rw[lP];rfl
def zW(v:Value)(n:Nat)(x:Nat×Nat):St:=⟨dn 20 [(3,.v (.int .u32 x.2)),(7,.v v),(8,.v (E n)),(9,.v (E x.1))],[]⟩
def Vp(h:bO H v t):aJ prog 114 #[v] H fun r H2=>r=.int .u32 (zX t:Nat)/\H2=H:=by
 have z:=D9 h.1;obtain⟨w,sl,rfl,C⟩:=h;obtain⟨a,k,rfl,j⟩:=C;have sq:T.Seq (T.subs t):=(T.vis_spec t w O [] T.Seq.nil).1;refine aG 20 func114 fun w0=>?_
 try simp only[E]
 refine af ?_;refine bz (fun x=>(T.subs t).length-x.1) (zW (.slice a (T.subs t).length k) (T.subs t).length) (fun x H2=>H2=H/\x.1<=(T.subs t).length/\x.2=wD (T.subs t) ((T.subs t).take x.1)/\x.2<2^24) (0,0) ae (by simp only[go_sem,ab,zW]) ⟨rfl,bg _,rfl,by decide⟩ ?_;rintro⟨i,s⟩ H2 ⟨rfl,hi,u,f⟩ g;simp only at hi u f;simp only[zW];rcases aB i (T.subs t).length with d|B
 .have m:decide ((i:Int)<((T.subs t).length:Int))=true:=ar O;have F:=Z7 i;obtain⟨x,q⟩:∃x,(T.subs t)[i]?=some x:=⟨_,aL d⟩;have hm:=cH q;have p:(T.dec (T.subs t) x).1<24:=by
   cases x with
   |lf b=>obtain⟨_,_,_,e,_⟩:=sq.2 i _ q;cases e
   |nd i l r=>exact(sq.okk (show T.isIn (T.subs t) (.nd i l r) from hm)).2.1
  rcases j with D|⟨b,rfl,j⟩
  .rw[D]at d;simp at d
  have y:(iM (T.subs t)).length=(T.subs t).length*3:=rp _;have c:=j.sub (i*3) 3 O;rw[rn q,eR]at c;have o:2^(T.dec (T.subs t) x).1<2^24:=Nat.pow_lt_pow_right O p;have A:sY .u32 (s:Int) (mC .u32 1 (((T.dec (T.subs t) x).1:Nat):Int))=((s|||2^(T.dec (T.subs t) x).1:Nat):Int):=by rw[Jo O];exact pG O O
  refine aj m ?_;refine⟨O,?_⟩;refine Xb (l:=gi (T.dec (T.subs t) x)) (v:=cT (T.dec (T.subs t) x)) rfl (by simpa using c) (.inl ⟨l7,rfl⟩) ?_;apply RG;simp only[go_sem,E,cT,fN,A,F];exact g (i+1,s|||2^(T.dec (T.subs t) x).1) _ _ bC ae (by simp only[go_sem,ab,zW]) ⟨rfl,d,by simp only;rw[cw q,Vo,<-u],Nat.or_lt_two_pow f o⟩
 .have:i=(T.subs t).length:=by omega
  subst this;rw[cB]at u;have m:decide ((((T.subs t).length:Nat):Int)<((T.subs t).length:Int))=false:=ai;refine aj m ?_;exact au (r:=[_]) rfl ⟨by rw[u];rfl,rfl⟩
def xQ(u:Nat):∀i,(cI u i).Pairwise (· < ·)
 |0=>kE _ _
 |i+1=>by
  have b:=xQ u i;have key:∀x∈cI u i,x|||2^i=2^i+x:=fun x a=>by have:=Nat.two_pow_add_eq_or_of_lt (xP u i x a) 1;rw[Nat.mul_one]at this;rw[this,Nat.or_comm]
  unfold cI;split
  .refine List.pairwise_append.2 ⟨b,?_,fun x a y c=>?_⟩
   .rw[List.pairwise_map];exact b.imp_of_mem fun{x y} a c h=>by rw[key x a,key y c];omega
   .obtain⟨z,d,rfl⟩:=List.mem_map.1 c;have:=xP u i x a;rw[key z d];omega
  .exact b
def r9(a:Option Addr)(k:Nat)(t:T)(c b:Value)(u:Nat)(x:Nat×Nat):St:=⟨dn 56 [(1,.v c),(2,.v (.int .u32 u)),(3,.p 3 0),(7,.v b),(8,.v (E x.2)),(9,.v (E x.1))],[⟨3,50,[sD a k t,rD t]⟩]⟩
def Fj{vd vl:Value}(H:bO I vd t)(L:dh I vl ((cI u 32).filter fun c=>t.at' (co c)))(hu:u<2^32)(hp:bM u 32<=8)(hs:ut .u32 (zX t:Nat) (u:Nat)=0):
  aI prog 58 #[vd,vl,.int .u32 u] I [] fun r I2 qs=>qs=[]/\r=.bool true:=by
 obtain⟨xa,xk,rfl⟩:=H.shape2;intro hd;refine aG 56 func58 fun w0=>?_;apply RG;simp only[go_sem,sD,rD];refine dq hd rfl Cw (BG hu hp) ?_;rintro v I1 qs al B⟨rfl,hm⟩;have ac:(cI u 32).length<=256:=by rw[sB];exact cO (iP O hp) aR
 have K:=xQ u 32;have L:=L.le B;have H:=H.le B;have A:∀x∈cI u 32,x<2^32:=xP u 32;generalize cI u 32=m at hm ac L K A |-;obtain⟨l,X⟩:∃l,(m.filter fun c=>t.at' (co c))=l:=⟨_,rfl⟩;rw[X]at L;have aq:l.length<=m.length:=by rw[<-X];exact List.length_filter_le _ _
 obtain⟨la,lc,rfl,_⟩:=id L;obtain⟨ma,mc,rfl,_⟩:=id hm;apply RG;simp only[go_sem,sD,rD];refine bz (fun x=>m.length-x.1) (r9 xa xk t (.slice la l.length lc) (.slice ma m.length mc) u) (fun x H2=>∃J,H2=U [J]/\Dj [J]/\I1.le J/\x.1<=m.length/\x.2=((m.take x.1).filter fun c=>t.at' (co c)).length) (0,0) ae (by simp only[go_sem,ab,r9,sD,rD,E]) ⟨I1,rfl,al,ax _,bg _,by simp⟩ ?_;rintro⟨i,j⟩ H2 ⟨J,rfl,e,d,hi,S⟩ k;simp only at hi S;have L:=L.le d;have hm:=hm.le d;have H:=H.le d;simp only[r9];rcases aB i m.length with p|a1
 .have Q:=Z5 i m.length;have e1:=Z7 i;have a0:j<=i:=by rw[S];exact cO (List.length_filter_le _ _) (by rw[eE];omega)
  have e2:=Z7 j;obtain⟨x,V⟩:∃x,m[i]?=some x:=⟨_,aL p⟩;have aa:=cH V;have w:=A x aa;have W:m.drop i=x::m.drop (i+1):=by rw[jv p];rw[aL p]at V;rw[df V]
  have F:l=(m.take i).filter (fun c=>t.at' (co c))++(m.drop i).filter (fun c=>t.at' (co c)):=by rw[<-X,<-List.filter_append,fl]
  have ag:∀y∈m.drop (i+1),x<y:=fun y R=>by have h1:=K.sublist (List.drop_sublist i m);rw[W]at h1;exact(List.pairwise_cons.1 h1).1 y R
  have o:l[j]?=((m.drop i).filter fun c=>t.at' (co c))[0]?:=by rw[F,pW O,S,Nat.sub_self]
  have M:(j<l.length/\∃y,l[j]?=some y/\((y:Int) == (x:Int))=t.at' (co x))\/(¬j<l.length/\t.at' (co x)=false):=by
   rw[W,gJ]at o;cases s:t.at' (co x)
   .rw[s,ad aR]at o;by_cases C:j<l.length
    .obtain⟨y,R⟩:∃y,l[j]?=some y:=⟨_,aL C⟩;refine .inl ⟨C,y,R,?_⟩;rw[R]at o;have:=ag y (List.mem_filter.1 (cH o.symm)).1;exact beq_false_of_ne O
    .exact .inr ⟨C,rfl⟩
   .rw[s,ak rfl,mV]at o;exact .inl ⟨(List.getElem?_eq_some_iff.1 o).1,x,o,beq_self_eq_true _⟩
  have q:((m.take (i+1)).filter fun c=>t.at' (co c)).length=j+(t.at' (co x)).toNat:=by rw[cw V,List.filter_append,dG,<-S];cases s:t.at' (co x)<;>simp[s]
  obtain⟨b,off,cs,rfl,⟨rfl,_⟩,f⟩:=Sl.load (fun{I} c a h=>cG.len (I:=I) c a h) hm V;have N:(!(t.at' (co x) == t.at' (co x)))=false:=ai;refine aj Q ?_;rcases M with ⟨C,y,R,Z⟩|⟨C,s⟩
  .have P:=Z5 j l.length;obtain⟨b2,off2,cs2,ap,⟨rfl,_⟩,G⟩:=Sl.load (fun{I} c a h=>cG.len (I:=I) c a h) L R;cases ap
   refine aV [0,1,2,3,4,5,6,7,8,9,10,11,12,13,14,15] [8,12] [] ?_;refine aM P ?_
   try refine⟨O,?_⟩
   refine Xc (l:=[.int .u32 y]) rfl (cellsU e (.head _) (by simpa using G)) (.inr ⟨dz,rfl⟩) ?_;refine aC ?_
   try refine⟨O,?_⟩
   refine Xc (l:=[.int .u32 x]) rfl (cellsU e (.head _) (by simpa using f)) (.inr ⟨dz,rfl⟩) ?_;refine aM Z ?_;apply an;cases s:t.at' (co x)
   .rw[s]at N q;refine av ?_;refine aV [0,1,2,3,4,6,5,7] [4,7] [] ?_;refine bV ?_
    try refine⟨O,?_⟩
    refine Xc (l:=[.int .u32 x]) rfl (cellsU e (.head _) (by simpa using f)) (.inr ⟨dz,rfl⟩) ?_;refine bV ?_;refine cP e rfl uZ (aJ.keep (u5 H w)) ?_;rintro v I2 qs D g⟨rfl,rfl⟩;rw[s];refine aC ?_;refine AV rfl rfl rfl rfl rfl En ?_;refine aC ?_;apply an;refine aj e1 ?_;exact k (i+1,j) _ _ bC ae (by simp only[go_sem,ab,r9,sD,rD,E]) ⟨I2,rfl,D,Y d g,p,by simp only;rw[q];rfl⟩
   .rw[s]at N q;refine aj e2 ?_;refine aV [0,1,2,3,4,6,5,7] [4,7] [] ?_;refine bV ?_
    try refine⟨O,?_⟩
    refine Xc (l:=[.int .u32 x]) rfl (cellsU e (.head _) (by simpa using f)) (.inr ⟨dz,rfl⟩) ?_;refine bV ?_;refine cP e rfl uZ (aJ.keep (u5 H w)) ?_;rintro v I2 qs D g⟨rfl,rfl⟩;rw[s];refine aC ?_;refine AV rfl rfl rfl rfl rfl En ?_;refine aC ?_;apply an;refine aj e1 ?_;exact k (i+1,j+1) _ _ bC ae (by simp only[go_sem,ab,r9,sD,rD,E]) ⟨I2,rfl,D,Y d g,p,by simp only;rw[q];rfl⟩
  .have P:decide ((j:Int)<(l.length:Int))=false:=aS O;rw[s]at N q;refine aV [0,1,2,3,4,5,6,7,8,9,10,11,12,13,14,15] [8,12] [] ?_;refine aM P ?_;apply an;refine av ?_;refine aV [0,1,2,3,4,6,5,7] [4,7] [] ?_;refine bV ?_
   try refine⟨O,?_⟩
   refine Xc (l:=[.int .u32 x]) rfl (cellsU e (.head _) (by simpa using f)) (.inr ⟨dz,rfl⟩) ?_;refine bV ?_;refine cP e rfl uZ (aJ.keep (u5 H w)) ?_;rintro v I2 qs D g⟨rfl,rfl⟩;rw[s];refine aC ?_;refine AV rfl rfl rfl rfl rfl En ?_;refine aC ?_;apply an;refine aj e1 ?_;exact k (i+1,j) _ _ bC ae (by simp only[go_sem,ab,r9,sD,rD,E]) ⟨I2,rfl,D,Y d g,p,by simp only;rw[q];rfl⟩
 .have:i=m.length:=by omega
  subst this;rw[cB,X]at S;have Q:decide ((m.length:Int)<(m.length:Int))=false:=ai;have am:((j:Int) == (l.length:Int))=true:=by rw[S];exact beq_self_eq_true _
  apply RG;simp only[go_sem,E,Q,am,sD,rD];refine Xa rfl OS (Vp (H.le (eP e))) ?_;rintro v H2⟨rfl,rfl⟩;refine aj hs ?_;exact ao rfl e (r:=[_]) rfl (Y B d) ⟨rfl,rfl⟩
end Go.Proofs.YtfaclfkpnmcmlaaGreatDoor
