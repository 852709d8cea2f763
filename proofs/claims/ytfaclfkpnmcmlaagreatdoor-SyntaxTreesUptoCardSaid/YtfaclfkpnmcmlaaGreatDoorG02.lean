import Derived.Test.YtfaclfkpnmcmlaaGreatDoorG01
import Derived.RangeFuncRecord
import Derived.Maps.AppendAt
import Derived.Deep.AppendSrc
set_option maxHeartbeats 8000000
set_option linter.all false
namespace Go.Sx
open Go
def eu(o:Oper):List Nat:=(o.after.toList.filter (Region.binds .any)).map (·.on)
def fg(ol:List Oper):List (List Nat):=
 ol.foldl (fun a o=>a++[(eu o++(eu o).flatMap (fun d=>a.getD d [])).eraseDups]) []
def pE(ol:List Oper)(cl:List (List Nat)):Bool:=
 (List.range ol.length).all fun y=>match ol[y]? with
  | some o=>(eu o).all (fun z=>decide (z<y)) && (cl.getD y []).all fun x=>(eu o).contains x || (eu o).any fun z=>(cl.getD z []).contains x
  |none=>true
def cL(ol:List Oper)(cl:List (List Nat))(fr:bI)(str:bJ):List Nat->Bool
 | []=>true
 | x::l=>decide (x<ol.length) && !l.contains x && l.all (fun y=>(cl.getD y []).contains x || match ol[x]?,ol[y]? with
   |some ox,some oy=>pR ol (fr.at' x) (str.at' x) (str.at' y) ox oy
   |_,_=>false) && cL ol cl fr str l
def nN(ol:List Oper)(κ:List Nat)(fr:bI)(str:bJ):Bool:=
 pE ol (fg ol) && (List.range ol.length).all (κ.contains ·) && cL ol (fg ol) fr str κ
section
variable {P:Program} {ol:List Oper} {fr:bI} {str:bJ} {K:St->PH->Prop}
def qj{f:gK}{s:kJ}{o:Oper}{K K':St->PH->Prop}{σ:St}{H:PH}(k:∀σ' H',dy σ'.bx->K σ' H'->K' σ' H')(a:dy σ.bx)(h:iw P ol f s o K σ H):iw P ol f s o K' σ H:=by
 rcases h with ⟨hw,h⟩|⟨hw,h⟩
 .exact .inl ⟨hw,k _ _ (a.put _ _) h⟩
 .refine .inr ⟨hw,?_⟩;cases j:eb o.op<;>rw[j]at h<;>simp only at h |-
  .obtain⟨sv,hv,c⟩:=h;exact⟨sv,hv,k _ _ (a.put _ _) c⟩
  .obtain⟨d,T,cs,hd,ha,c⟩:=h;exact⟨d,T,cs,hd,ha,k _ _ (a.newBox _ _ _) c⟩
  .rcases h with ⟨x,off,cs,ha,hm,c⟩|⟨i,c,g⟩
   .exact .inl ⟨x,off,cs,ha,hm,k _ _ ((a.store _ _ _).put _ _) c⟩
   .exact .inr ⟨i,c,g.mono fun sv H2 e=>k _ _ (a.put _ _) e⟩
  .exact⟨h.1,h.2.mono fun sv H2 e=>⟨e.1,k _ _ (a.put _ _) e.2⟩⟩
  .exact fun b hb=>k _ _ (a.put _ _) (h b hb)
def rV{K K':St->PH->Prop}(k:∀σ' H',dy σ'.bx->K σ' H'->K' σ' H'):∀(l:List Nat) {σ:St} {H:PH},dy σ.bx->VD P ol fr str K l σ H->VD P ol fr str K' l σ H
 | [],σ,H,a,h=>k _ _ a h
 |i::l,σ,H,a,h=>by
  simp only[VD]at h |-;cases c:ol[i]? with
  |none=>rw[c]at h;exact rV k l a h
  |some o=>rw[c]at h;exact qj (fun σ' H' b d=>rV k l b d) a h
def sm{i:Nat}{oi:Oper}(hi:ol[i]?=some oi):∀(b a:List Nat) {σ:St} {H:PH},dy σ.bx->(∀x∈b,∃ox,ol[x]?=some ox/\pR ol (fr.at' x) (str.at' x) (str.at' i) ox oi=true)->
  VD P ol fr str K (b++i::a) σ H->VD P ol fr str K (i::(b++a)) σ H
 | [],a,σ,H,e,_,h=>h
 |x::b,a,σ,H,e,c,h=>by obtain⟨ox,j,f⟩:=c x (.head _);simp only[gR,VD,j,hi]at h |-;refine swap (frx:=fr.at' x) (fry:=fr.at' i) rfl rfl e f ?_;refine qj (fun σ' H' d k=>?_) e h;have:=sm hi b a d (fun y g=>c y (.tail _ g)) k;simpa only[VD,hi]using this
def pI{cl:List (List Nat)}:∀{l1 l2:List Nat} {i:Nat},cL ol cl fr str (l1++i::l2)=true->
  (∀x∈l1,x∈cl.getD i []\/∃ox oy,ol[x]?=some ox/\ol[i]?=some oy/\pR ol (fr.at' x) (str.at' x) (str.at' i) ox oy=true)/\cL ol cl fr str (l1++l2)=true/\i∉l1++l2
 | [],l2,i,h=>by simp only[gk,cL,bu]at h;exact⟨fun x g=>(dH g).elim,h.2,by simpa using h.1.1.2⟩
 |x::l1,l2,i,h=>by
  simp only[gR,cL,bu]at h;obtain⟨⟨⟨h1,h2⟩,h3⟩,j⟩:=h;obtain⟨a,b,c⟩:=pI j;have e:=List.all_eq_true.1 h3;have f:x∉l1++i::l2:=by simpa using h2
  refine⟨fun y d=>?_,?_,?_⟩
  .rcases List.mem_cons.1 d with rfl|d
   .have:=e i (eo _ (.head _));simp only[im]at this;rcases this with h|h
    .exact .inl (by simpa using h)
    .right
     split at h
     .rename_i ox oy k e2;exact⟨ox,oy,k,e2,h⟩
     .cases h
   .exact a y d
  .simp only[gR,cL,bu];refine⟨⟨⟨h1,?_⟩,?_⟩,b⟩
   .have:x∉l1++l2:=fun hm=>f (by
     rcases List.mem_append.1 hm with h|h
     .exact dk _ h
     .exact eo _ (.tail _ h))
    simpa using this
   .refine List.all_eq_true.2 fun y d=>e y ?_;rcases List.mem_append.1 d with h|h
    .exact dk _ h
    .exact eo _ (.tail _ h)
  .intro hm;rcases List.mem_cons.1 hm with rfl|hm
   .exact f (eo _ (.head _))
   .exact c hm
def xz{cl:List (List Nat)}(b:pE ol cl=true){L:Nat->Prop}(closed:∀y o,ol[y]?=some o->L y->∀z∈eu o,L z):
  ∀(n y:Nat),y<n->∀o,ol[y]?=some o->(∀z∈eu o,L z)->∀x∈cl.getD y [],L x
 |0,y,h=>by omega
 |n+1,y,h=>by
  intro o f hd x j;have i:y<ol.length:=by
   rcases aB y ol.length with h|h
   .exact h
   .rw[fW h]at f;cases f
  have h1:=List.all_eq_true.1 b y (List.mem_range.2 i);simp only[f,bu]at h1;have h2:=List.all_eq_true.1 h1.2 x j;simp only[im]at h2;rcases h2 with h2|h2
  .exact hd x (by simpa using h2)
  .obtain⟨z,g,e⟩:=List.any_eq_true.1 h2;have c:=List.all_eq_true.1 h1.1 z g;simp only[cu]at c;have d:z<ol.length:=O;have a:ol[z]?=some ol[z]:=aL d;exact xz b closed n z O _ a (closed z _ a (hd z g)) x (by simpa using e)
variable{ops:Array Oper}{w0:World}{r:Option Nat}
def Bs{n0:Nat}{H0:PH}(hn:n0=w0.heap.size)(X:ops.toList=ol){cl:List (List Nat)}(J:pE ol cl=true):
  ∀(k:Nat) (κ:List Nat) (listed:Array Bool) {σ:St} {H:PH} {a:Act} {w:World},κ.length<=k->listed.size=ops.size->cL ol cl fr str κ=true->
   (∀i,i∈κ<->i<ops.size/\listed.getD i true=false)->
   (∀y o,ol[y]?=some o->listed.getD y false=true->∀z∈eu o,listed.getD z false=true)->
   dy σ.bx->VD P ol fr str K κ σ H->bN H0 w0 H w->G n0 σ H a w->wpAnyIn (FR r) 0 P .any ops (QK n0 H0 w0 K) k listed a w:=by
 subst X;have c:∀(listed:Array Bool) (i:Nat),i∈Region.ready .any ops listed<->i<ops.size/\listed.getD i true=false/\∃o,ops[i]?=some o/\∀z∈eu o,listed.getD z false=true:=by
  intro listed i;simp only[Region.ready,jx,List.mem_range,bu,g8];constructor
  .rintro⟨h1,h2,h3⟩;refine⟨h1,h2,?_⟩;cases B:ops[i]? with
   |none=>rw[B]at h3;cases h3
   |some o=>rw[B]at h3;simp only[fO,lp]at h3;refine⟨o,rfl,fun z D=>?_⟩;simp only[eu,mW,jx]at D;obtain⟨e,⟨he,hb⟩,rfl⟩:=D;have:=Array.all_eq_true'.1 h3 e (by simpa using he);simpa[hb]using this
  .rintro⟨h1,h2,o,B,h3⟩;refine⟨h1,h2,?_⟩;rw[B];simp only[fO,lp];refine Array.all_eq_true'.2 fun e he=>?_;cases hb:Region.binds .any e with
   |false=>rfl
   |true=>have:=h3 e.on (by simp only[eu,mW,jx];exact⟨e,⟨by simpa using he,hb⟩,rfl⟩);simpa using this
 have M:ops.size=ops.toList.length:=(kA).symm;have v:∀i:Nat,ops[i]?=ops.toList[i]?:=fun i=>by simp
 have p:∀(κ:List Nat) (listed:Array Bool),(∀i,i∈κ<->i<ops.size/\listed.getD i true=false)->listed.size=ops.size->Region.ready .any ops listed=[]->κ=[]:=by
  intro κ listed hm A hr;have key:∀n i,i<n->i<ops.size->listed.getD i true=true:=by
   intro n
   induction n with
   |zero=>intro i h;omega
   |succ n S=>
    intro i hi I;cases F:listed.getD i true with
    |true=>rfl
    |false=>
     exfalso;have t:ops[i]?=some ops[i]:=ll I;have:i∈Region.ready .any ops listed:=(c listed i).2 ⟨I,F,ops[i],t,fun z D=>by have h1:=List.all_eq_true.1 J i (List.mem_range.2 O);rw[<-v i,t]at h1;simp only[bu]at h1;have T:=List.all_eq_true.1 h1.1 z D;simp only[cu]at T;have:=S z O O;rw[en]at this |-;rw[ll O]at this |-;simpa using this⟩
     rw[hr]at this;cases this
  cases κ with
  |nil=>rfl
  |cons i l=>exfalso;have:=(hm i).1 (.head _);rw[key (i+1) i O this.1]at this;exact Bool.noConfusion this.2
 intro k
 induction k with
 |zero=>
  intro κ listed σ H a w C A hp hm hc W h st g;have:κ=[]:=List.length_eq_zero_iff.1 O;subst this;refine⟨?_,σ,H,h,st,g⟩;cases hr:Region.ready .any ops listed with
  |nil=>rfl
  |cons i l=>have hi:=(c listed i).1 (by rw[hr];exact .head _);exact absurd ((hm i).2 ⟨hi.1,hi.2.1⟩) dH
 |succ k S=>
  intro κ listed σ H a w C A hp hm hc W h st g;refine⟨fun hr=>?_,fun i hi=>?_⟩
  .have:=p κ listed hm A hr;subst this;exact⟨σ,H,h,st,g⟩
  .obtain⟨h1,h2,oi,t,u⟩:=(c listed i).1 hi;have ac:i∈κ:=(hm i).2 ⟨h1,h2⟩;obtain⟨R,Q,rfl⟩:=List.append_of_mem ac;obtain⟨pa,pb,pc⟩:=pI hp;have f:ops.toList[i]?=some oi:=by rw[<-v];exact t
   have hb:=sm (K:=K) (P:=P) f R Q W (fun x hx=>by
    rcases pa x hx with U|⟨ox,oy,e1,e2,e3⟩
    .exfalso;have:=xz J (L:=fun x=>listed.getD x false=true) hc (i+1) i O oi f u x U;have s:=((hm x).1 (dk _ hx)).2;rw[en]at this s;cases hg:listed[x]? with
     |none=>rw[hg]at this;cases this
     |some b=>rw[hg]at this s;simp only[lp]at this s;rw[this]at s;cases s
    .rw[f]at e2;cases e2;exact⟨ox,e1,e3⟩) h
   simp only[VD,f]at hb;have hv:=(qj (K':=fun σ' H'=>dy σ'.bx/\VD P ops.toList fr str K (R++Q) σ' H') (fun σ' H' V h'=>⟨V,h'⟩) W hb).toV;refine qm t hn (fun σ' H' a' w' hk N g'=>?_) hv st g;have m:∀(j:Nat) (d:Bool),(listed.setIfInBounds i true).getD j d=if i=j then (if i<listed.size then true else d)else listed.getD j d:=by
    intro j d;rw[en,wV];by_cases e:i=j
    .subst e;by_cases F:i<listed.size<;>simp[F]
    .simp[e,en]
   refine S (R++Q) _ (by simp at C |-;omega) (by simp[A]) pb (fun j=>?_) (fun y o B F z D=>?_) hk.1 hk.2 N g'
   .rw[m];by_cases e:i=j
    .subst e;simp only[cY,ak (show i<listed.size by omega)];exact⟨fun Z=>absurd Z pc,fun hh=>by cases hh.2⟩
    .simp only[ad e];rw[<-hm j];constructor
     .intro q;rcases List.mem_append.1 q with q|q
      .exact dk _ q
      .exact eo _ (.tail _ q)
     .intro q;rcases List.mem_append.1 q with q|q
      .exact dk _ q
      .rcases List.mem_cons.1 q with rfl|q
       .exact absurd rfl e
       .exact eo _ q
   .rw[m]at F |-;have aa:i<listed.size:=O;by_cases ez:i=z
    .subst ez;simp[aa]
    .simp only[ad ez];by_cases ey:i=y
     .subst ey;rw[f]at B;cases B;exact u z D
     .simp only[ad ey]at F;exact hc y o B F z D
def sV:∀(n:Nat) (l:List Nat),l.Nodup->(∀i∈l,i<n)->l.length<=n
 |0,l,_,h=>by cases l with|nil=>simp|cons x l=>exact absurd (h x (.head _)) O
 |n+1,l,a,h=>by
  have h1:=sV n (l.erase n) (a.erase n) fun i hi=>by have:=(a.mem_erase_iff).1 hi;have:=h i this.2;omega
  by_cases hm:n∈l
  .rw[List.length_erase_of_mem hm]at h1;omega
  .rw[List.erase_of_not_mem hm]at h1;omega
def NP{n0:Nat}{H0:PH}(j:n0=w0.heap.size)(hm:P.follows .mixedOrders=true){id:Nat}{κ:List Nat}(b:nN ops.toList κ fr str=true){σ:St}{H:PH}{a:Act}{w:World}
  (f:dy σ.bx) (h:VD P ops.toList fr str K κ σ H) (st:bN H0 w0 H w) (g:G n0 σ H a w):(Code.region id ops true).wpIn (FR r) 0 P (QK n0 H0 w0 K) a w:=by
 simp only[nN,bu]at b;obtain⟨⟨h1,h2⟩,h3⟩:=b;have mem:∀(l:List Nat),cL ops.toList (fg ops.toList) fr str l=true->∀i∈l,i<ops.size:=by
  intro l
  induction l with
  |nil=>intro _ i hi;cases hi
  |cons x l d=>
   intro hp i hi;simp only[cL,bu,cu]at hp;rcases List.mem_cons.1 hi with rfl|hi
   .simpa using hp.1.1.1
   .exact d hp.2 i hi
 have len:∀(l:List Nat),cL ops.toList (fg ops.toList) fr str l=true->l.Nodup:=by
  intro l
  induction l with
  |nil=>intro _;exact List.nodup_nil
  |cons x l d=>intro hp;simp only[cL,bu]at hp;exact List.nodup_cons.2 ⟨by simpa using hp.1.1.2,d hp.2⟩
 have c:κ.length<=ops.size:=by exact sV _ _ (len κ h3) (mem κ h3)
 refine wpIn_region_any hm (Bs j rfl h1 ops.size κ _ c ai h3 (fun i=>?_) (fun y o k e=>?_) f h (w:={ w with drawn:=w.drawn+1 }) ?_ ?_)
 .constructor
  .intro hi;have:=mem κ h3 i hi;exact⟨this,by simp[en,this]⟩
  .rintro⟨hi,_⟩;have:=List.all_eq_true.1 h2 i (List.mem_range.2 (by simpa using hi));simpa using this
 .exfalso;rw[en,Array.getElem?_replicate]at e;split at e<;>cases e
 .exact⟨st.sub,st.size,st.priv,st.dom,st.os,st.tape,st.out⟩
 .obtain⟨β,g⟩:=g;exact⟨β,g.defers,g.size,g.tm,g.bx,g.inj,g.lo,g.keys⟩
end
open Go
structure Cx where
 P:Program
 f:FuncId
 fn:Func
 hf:P.funcs[f]?=some fn
 H0:PH
 w0:World
 post:Value->PH->Prop
 rd:Option (Nat×(Option Code->PH->Prop))
def EB(C:Cx)(e:Ending)(w:World):Prop:=
 match e with
 | .returned v=>∃H2,bN C.H0 C.w0 H2 w/\C.post v H2
 |_=>False
def Cx.fr(C:Cx):Frame:={ (default:Frame)with fn:=C.f,kind:=.normal,roundOf:=C.rd.map (·.1) }
def EC:Option Code->List Item->Prop
 |none,k=>k=[]
 |some c,k=>∃a,k=.code c::a/\(c=.ret\/∃id,c=.exit id/\exitTo id a=none)
def kI(C:Cx)(cs:List Frame)(m:Machine):Prop:=
 match C.rd with
 |none=>∃e b fr,EB C e b/\Comes C.P m (lone fr cs b) e/\fr.fn=C.f/\fr.leaving C.P b e
 |some (_,Q)=>∃j a k c d,Steps C.P m (lone (C.fr.atR a k) cs c)/\EC j k/\bN C.H0 C.w0 d c/\Q j d
def kI.steps{C:Cx}{cs:List Frame}{m m':Machine}(h:Steps C.P m m')(g:kI C cs m'):kI C cs m:=by
 unfold kI at g |-;split at g
 .obtain⟨e,c,fr,h1,h2,h3⟩:=g;exact⟨e,c,fr,h1,.of_steps h h2,h3⟩
 .obtain⟨j,a,k,b,d,h1,h2⟩:=g;exact⟨j,a,k,b,d,h.trans h1,h2⟩
def R(C:Cx)(k:List Item)(σ:St)(H:PH):Prop:=
 ∀w a cs,bN C.H0 C.w0 H w->G C.w0.heap.size σ H a w->kI C cs (lone (C.fr.atR a k) cs w)
section
variable {C:Cx} {k:List Item} {σ:St} {H:PH}
variable{k':List Item}
def ls(h:R C k' σ H)(st:∀a cs w,G C.w0.heap.size σ H a w->step C.P (lone (C.fr.atR a k) cs w)=.next (lone (C.fr.atR a k') cs w)):R C k σ H:=
 fun w a cs s g=>kI.steps (.one (st a cs w g)) (h w a cs s g)
def E3(h:R C k σ H):R C (.code .skip::k) σ H:=ls h fun _ _ _ _=>stepR_skip
def EY{l:Nat}(h:R C k σ H):R C (.code (.label l)::k) σ H:=ls h fun _ _ _ _=>stepR_label
variable{id:Nat}
def EW(h:R C k σ H):R C (.inBlock id::k) σ H:=ls h fun _ _ _ _=>stepR_inBlock
def E2{x y:Code}(h:R C (.code x::.code y::k) σ H):R C (.code (.seq x y)::k) σ H:=ls h fun _ _ _ _=>stepR_seq
variable{c:Code}
def ES(h:R C (.code c::.inBlock id::k) σ H):R C (.code (.block id c)::k) σ H:=ls h fun _ _ _ _=>stepR_block
def EU(a:exitTo id k=some k')(h:R C k' σ H):R C (.code (.exit id)::k) σ H:=ls h fun _ _ _ _=>stepR_exit a
def AX{c:Operand}{x y:Code}{t:Bool}(a:ev σ c=.v (.bool t))(h:R C (.code (if t then x else y)::k) σ H):R C (.code (.cond c x y)::k) σ H:=
 ls h fun _ _ _ g=>stepR_cond (by obtain⟨β,g⟩:=g;exact dC g a)
def EX(h:R C (.code c::.inLoop c::k) σ H):R C (.inLoop c::k) σ H:=ls h fun _ _ _ _=>stepR_inLoop
def EZ(h:R C (.code c::.inLoop c::k) σ H):R C (.code (.loop c)::k) σ H:=ls h fun _ _ _ _=>stepR_loop
def Li(J:Nat->St->PH->Prop)(n:Nat)(e:J n σ H)
  (h:∀n σ H,J n σ H->(∀m,m<n->∀σ' H',J m σ' H'->R C (.inLoop c::k) σ' H')->R C (.code c::.inLoop c::k) σ H):R C (.code (.loop c)::k) σ H:=by
 refine EZ ?_;have key:∀n σ H,J n σ H->R C (.code c::.inLoop c::k) σ H:=by
  intro n
  induction n using Nat.strongRecOn with
  |_ n b=>exact fun σ H d=>h n σ H d fun m hm σ' H' a=>EX (b m hm σ' H' a)
 exact key n σ H e
def t8(h:∀a w,bN C.H0 C.w0 H w->G C.w0.heap.size σ H a w->c.wpIn (FR (C.rd.map (·.1))) 0 C.P (QK C.w0.heap.size C.H0 C.w0 (R C k)) a w):R C (.code c::k) σ H:=by
 intro w a cs s g;obtain⟨e,j,f,d,b⟩:=h a w s g C.fr k cs rfl trivial (fun _ h=>by cases h);cases e with
 |normal=>obtain⟨σ',H',hr,s',i⟩:=d;exact kI.steps (StepsIn.steps b) (hr f j cs s' i)
 |_=>exact d.elim
def V2(P:Program)(ol:List Oper)(K:St->PH->Prop):List Oper->St->PH->Prop
 | [],σ,H=>K σ H
 |o::l,σ,H=>np P ol o (V2 P ol K l) σ H
def LA{P:Program}{K:St->PH->Prop}(f:List Oper):∀(rem:List Oper) {σ:St} {H:PH},V2 P (f++rem) K rem σ H->V P (f++rem) K (List.range' f.length rem.length) σ H:=by
 intro rem
 suffices h:∀(ol f rem:List Oper) (σ:St) (H:PH),ol=f++rem->V2 P ol K rem σ H->V P ol K (List.range' f.length rem.length) σ H from fun{σ H} hv=>h _ _ _ σ H rfl hv
 intro ol f rem
 induction rem generalizing f with
 |nil=>intro σ H _ h;exact h
 |cons o rem j=>
  intro σ H i h;simp only[bf,List.range'_succ,V];have l:ol[f.length]?=some o:=by rw[i];simp
  rw[l];simp only[V2]at h;have g:∀σ' H',V2 P ol K rem σ' H'->V P ol K (List.range' (f.length+1) rem.length) σ' H':=fun σ' H' n=>by have:=j (f++[o]) σ' H' (by rw[i];simp) n;simpa using this
  rcases h with ⟨a,b⟩|⟨a,b⟩
  .exact .inl ⟨a,g _ _ b⟩
  .refine .inr ⟨a,?_⟩;rcases b with ⟨sv,b,c⟩|⟨d,T,cs,b,c,e⟩|⟨x,off,cs,b,c⟩|⟨b,c⟩
   .exact .inl ⟨sv,b,g _ _ c⟩
   .exact .inr (.inl ⟨d,T,cs,b,c,g _ _ e⟩)
   .exact .inr (.inr (.inl ⟨x,off,cs,b,g _ _ c⟩))
   .exact .inr (.inr (.inr ⟨b,c.mono fun sv H2 m=>g _ _ m⟩))
inductive Cf where
 |st (k:List Item)
 |op (ol rem:List Oper) (k:List Item)
def RC(C:Cx)(c:Cf)(σ:St)(H:PH):Prop:=
 match c with
 | .st k=>R C k σ H
 | .op ol rem k=>V2 C.P ol (R C k) rem σ H
variable{ops:Array Oper}
def E0(h:V2 C.P ops.toList (R C k) ops.toList σ H):R C (.code (.region id ops false)::k) σ H:=by
 refine t8 fun a w s g=>wpIn_region ?_;have:=LA [] ops.toList h;rw[gk]at this;have h2:List.range ops.size=List.range' 0 ops.toList.length:=by rw[List.range_eq_range'];simp
 rw[h2];exact Be rfl _ this s g
def Le(hm:C.P.follows .mixedOrders=true)(κ:List Nat)(fr:bI)(str:bJ)(a:nN ops.toList κ fr str=true)(b:dy σ.bx)
  (h:VD C.P ops.toList fr str (R C k) κ σ H):R C (.code (.region id ops true)::k) σ H:=
 t8 fun _ _ s g=>NP rfl hm a b h s g
def uq(P:Program)(ol:List Oper)(o:Oper)(σ:St):Option (Prop×St):=
 match be ol σ o with
 |some false=>some (True,σ.put o.dst (.v undef))
 |some true=>match pv P σ.bx (ev σ) o.op with
  |some (φ,sv)=>some (φ,σ.put o.dst sv)
  |none=>match o.dst,ix P (ev σ) o.op with
   |some d,some (T,cs)=>some (True,σ.newBox d T cs)
   |_,_=>match ky P σ.bx (ev σ) o.op with
    |some (x,off,cs)=>some (True,(σ.store x off cs).put o.dst .u)
    |none=>none
 |none=>none
variable{o:Oper}
def LL{P:Program}{ol:List Oper}{σ':St}{φ:Prop}{K:St->PH->Prop}(h:uq P ol o σ=some (φ,σ'))(b:φ)(a:K σ' H):np P ol o K σ H:=by
 unfold uq at h;split at h
 .rename_i hw;cases h;exact .inl ⟨hw,a⟩
 .rename_i hw;refine .inr ⟨hw,?_⟩;split at h
  .rename_i e sv hp;cases h;exact .inl ⟨sv,.inl ⟨φ,hp,b⟩,a⟩
  .split at h
   .rename_i d T cs hd ha;cases h;exact .inr (.inl ⟨d,T,cs,hd,ha,a⟩)
   .split at h
    .rename_i x off cs c;cases h;exact .inr (.inr (.inl ⟨x,off,cs,c,a⟩))
    .cases h
 .cases h
def fe(P:Program):Nat->Cf->St->List Prop->List Prop×Cf×St
 |0,c,σ,ps=>(ps,c,σ)
 |n+1,c,σ,ps=>
  match c with
  | .op _ [] k=>fe P n (.st k) σ ps
  | .op ol (o::rem) k=>match uq P ol o σ with
   |some (φ,σ')=>fe P n (.op ol rem k) σ' (φ::ps)
   |none=>(ps,.op ol (o::rem) k,σ)
  | .st (.code (.region _ ops false)::k)=>fe P n (.op ops.toList ops.toList k) σ ps
  | .st (.code (.seq a b)::k)=>fe P n (.st (.code a::.code b::k)) σ ps
  | .st (.code .skip::k)=>fe P n (.st k) σ ps
  | .st (.code (.label _)::k)=>fe P n (.st k) σ ps
  | .st (.inBlock _::k)=>fe P n (.st k) σ ps
  | .st (.code (.block id b)::k)=>fe P n (.st (.code b::.inBlock id::k)) σ ps
  | .st (.code (.exit id)::k)=>match exitTo id k with
   |some d=>fe P n (.st d) σ ps
   |none=>(ps,.st (.code (.exit id)::k),σ)
  | .st (.code (.cond c t e)::k)=>match ev σ c with
   | .v (.bool true)=>fe P n (.st (.code t::k)) σ ps
   | .v (.bool false)=>fe P n (.st (.code e::k)) σ ps
   |_=>(ps,.st (.code (.cond c t e)::k),σ)
  |c=>(ps,c,σ)
def iQ:List Prop->Prop
 | []=>True
 |p::l=>iQ l/\p
def kN:∀(n:Nat) (c:Cf) (σ:St) (ps:List Prop),iQ (fe C.P n c σ ps).1->RC C (fe C.P n c σ ps).2.1 (fe C.P n c σ ps).2.2 H->iQ ps/\RC C c σ H
 |0,c,σ,ps,hp,h=>⟨hp,h⟩
 |n+1,c,σ,ps,hp,h=>by
  unfold fe at hp h;split at hp<;>simp only at h
  .obtain⟨a,b⟩:=kN n _ _ _ hp h;exact⟨a,b⟩
  .rename_i ol o rem k;cases ha:uq C.P ol o σ with
   |none=>rw[ha]at hp h;exact⟨hp,h⟩
   |some x=>obtain⟨φ,σ'⟩:=x;rw[ha]at hp h;obtain⟨⟨a,b⟩,c⟩:=kN n _ _ _ hp h;exact⟨a,LL ha b c⟩
  .obtain⟨a,b⟩:=kN n _ _ _ hp h;exact⟨a,E0 b⟩
  .obtain⟨a,b⟩:=kN n _ _ _ hp h;exact⟨a,E2 b⟩
  .obtain⟨a,b⟩:=kN n _ _ _ hp h;exact⟨a,E3 b⟩
  .obtain⟨a,b⟩:=kN n _ _ _ hp h;exact⟨a,EY b⟩
  .obtain⟨a,b⟩:=kN n _ _ _ hp h;exact⟨a,EW b⟩
  .obtain⟨a,b⟩:=kN n _ _ _ hp h;exact⟨a,ES b⟩
  .rename_i id k;cases f:exitTo id k with
   |none=>rw[f]at hp h;exact⟨hp,h⟩
   |some i=>rw[f]at hp h;obtain⟨a,b⟩:=kN n _ _ _ hp h;exact⟨a,EU f b⟩
  .rename_i g t e k;split at hp
   .rename_i d;rw[d]at h;obtain⟨a,b⟩:=kN n _ _ _ hp h;exact⟨a,AX d b⟩
   .rename_i d;rw[d]at h;obtain⟨a,b⟩:=kN n _ _ _ hp h;exact⟨a,AX d b⟩
   .rename_i h1 h2;have:∀{α:Type} (x y z:α),(match ev σ g with | .v (.bool true)=>x | .v (.bool false)=>y|_=>z)=z:=by
     intro α x y z;split
     .rename_i d;exact absurd d (by simpa using h1)
     .rename_i d;exact absurd d (by simpa using h2)
     .rfl
    refine⟨hp,?_⟩;split at h
    .rename_i d;exact absurd d (by simpa using h1)
    .rename_i d;exact absurd d (by simpa using h2)
    .exact h
  .exact⟨hp,h⟩
def jC(n:Nat){c:Cf}(h:iQ (fe C.P n c σ []).1/\RC C (fe C.P n c σ []).2.1 (fe C.P n c σ []).2.2 H):RC C c σ H:=(kN n c σ [] h.1 h.2).2
def ni(C:Cx)(H:PH)(r:List Prop×Cf×St):Prop:=iQ r.1/\RC C r.2.1 r.2.2 H
theorem Lt(C:Cx)(H:PH)(ps:List Prop)(c:Cf)(σ:St):ni C H (ps,c,σ)=(iQ ps/\RC C c σ H):=rfl
def bU(n:Nat){c:Cf}(h:ni C H (fe C.P n c σ [])):RC C c σ H:=jC n h
def RG{c:Cf}(h:ni C H (fe C.P 500 c σ [])):RC C c σ H:=jC 500 h
variable{rem:List Oper}
def j1{ol:List Oper}(hw:be ol σ o=some true)(a:bt σ o.op=true)
  (h:dg C.P (execOp (aQ σ) o) H fun sv H2=>RC C (.op ol rem k) (σ.put o.dst sv) H2):RC C (.op ol (o::rem) k) σ H:=
 .inr ⟨hw,.inr (.inr (.inr ⟨a,h⟩))⟩
def tX{ol:List Oper}(v:Value)(hw:be ol σ o=some true)(a:bt σ o.op=true)
  (hv:∀w,Sub H w->(execOp (aQ σ) o).run C.P w=.ok (.value v) w) (h:RC C (.op ol rem k) (σ.put o.dst (.v v)) H):RC C (.op ol (o::rem) k) σ H:=
 .inr ⟨hw,.inl ⟨_,.inr ⟨v,rfl,a,hv⟩,h⟩⟩
end
open Go
def mp(args:List Value)(n:Nat):List SV:=args.map .v++List.replicate (n-args.length) (.v undef)
variable{fn:Func}
def fq{P:Program}{f:FuncId}{c:Code}{args:Array Value}{H:PH}{Φ:Value->PH->Prop}(hf:P.funcs[f]?=some fn)(hb:fn.body=some c)(g:args.toList.length<=fn.ntmps)
  (h:∀w0,RC ⟨P,f,fn,hf,H,w0,Φ,none⟩ (.st [.code c]) ⟨mp args.toList fn.ntmps,[]⟩ H):aJ P f args H Φ:=by
 intro w s cs;have i:G w.heap.size ⟨mp args.toList fn.ntmps,[]⟩ H { tmps:=args++Array.replicate (fn.ntmps-args.size) undef,defers:=[] } w:=by
  refine⟨fun _=>0,mX.nil,?_,?_,fun _ h=>(dH h).elim,fun _ h=>(dH h).elim,fun _ h=>(dH h).elim,List.Pairwise.nil⟩
  .simp[mp]
  .intro t sv ht;simp only[mp]at ht;rw[en];by_cases a:t<args.size
   .rw[mU (by simpa using a)]at ht;simp[a]at ht;subst ht;simp[Array.getElem?_append,a,ef]
   .rw[pW (by simpa using a),List.getElem?_replicate]at ht;split at ht
    .rename_i hr;cases ht
     simp only[ef,Array.getElem?_append,ad a,Array.getElem?_replicate];split<;>rfl
    .cases ht
 obtain⟨e,d,fr,h1,h2,h3,j⟩:=h w w _ cs (bN.refl s) i;have b:Frame.enter P f args .normal=(Cx.fr ⟨P,f,fn,hf,H,w,Φ,none⟩).atR { tmps:=args++Array.replicate (fn.ntmps-args.size) undef,defers:=[] } [.code c]:=by simp[Frame.enter,Frame.atR,hf,hb,Cx.fr]
 refine⟨e,d,fr,?_,by rw[b];exact h2,h3,j⟩;unfold EB at h1;cases e with
 |returned v=>exact h1
 |_=>exact h1.elim
def lG(P:Program)(σ:St):List ResultVar->Option (List Value)
 | []=>some []
 | .tmp t::l=>match eW σ.tm t,lG P σ l with
  | .v x,some r=>some (x::r)
  |_,_=>none
 | .cell t T::l=>match eW σ.tm t,lG P σ l with
  | .p k off,some r=>match dJ σ.bx k with
   |some B=>match gp P T B.cs off with
    |some x=>some (x::r)
    |none=>none
   |none=>none
  |_,_=>none
def bT:List Value->Value
 | [v]=>v
 |l=>.tuple l.toArray
def g7(tmps:Array Value):ResultVar->Sem Value
 | .tmp t=>pure (tmps.getD t undef)
 | .cell a t=>do loadVar t (<-asAddr (tmps.getD a undef))
def DD{P:Program}{n0:Nat}{β:Nat->Nat}{σ:St}{H:PH}{a:Act}{w:World}(g:GB n0 β σ H a w):∀(l:List ResultVar) (r:List Value),lG P σ l=some r->
  (l.mapM (g7 a.tmps)).run P w=.ok r w
 | [],r,h=>by cases h;simp
 | .tmp t::l,r,h=>by
  simp only[lG]at h;split at h
  .rename_i x c b hr;cases h
   have h1:=g.ev (.tmp t);simp only[ev,b,ef,Act.eval]at h1;have h2:(g7 a.tmps (.tmp t)).run P w=.ok x w:=by simp only[g7,h1];simp
   simp only[List.mapM_cons,bY,h2,Result.andThen,DD g l _ hr];simp
  .cases h
 | .cell t T::l,r,h=>by
  simp only[lG]at h;split at h
  .rename_i k off c b hr;split at h
   .rename_i B d;split at h
    .rename_i x hv;cases h
     obtain⟨hm,rfl⟩:=x6 d;have h1:=g.ev (.tmp t);simp only[ev,b,ef,Act.eval]at h1;have:=wl (P:=P) (w:=w) (off:=off) (g.bx B hm).1 hv;have h2:(g7 a.tmps (.cell t T)).run P w=.ok x w:=by simp only[g7,h1,bY];simp[Result.andThen,asAddr,this]
     simp only[List.mapM_cons,bY,h2,Result.andThen,DD g l _ hr];simp
    .cases h
   .cases h
  .cases h
def IV{P:Program}{n0:Nat}{β:Nat->Nat}{σ:St}{H:PH}{a:Act}{w:World}(g:GB n0 β σ H a w){r:List Value}(h:lG P σ fn.results.toList=some r):
  (results fn a.tmps).run P w=.ok (bT r) w:=by
 have h1:=DD g _ _ h;show (do let c <-fn.results.mapM (g7 a.tmps);pure (if h:c.size=1 then c[0]else .tuple c):Sem Value).run P w=_;rw[Array.mapM_eq_mapM_toList];simp only[bY,Sem.run_map];rw[h1];simp only[Result.andThen]
 match r with
 | []=>simp[bT]
 | [v]=>simp[bT]
 |a::b::l=>simp[bT]
section
variable {C:Cx} {k:List Item} {σ:St} {H:PH}
def HW{P:Program}{fr:Frame}{cs:List Frame}(hm:fr.mode=.returning):∀(ds:List Nat) (w:World),ds.Nodup->(∀d∈ds,w.heap[d]?=some (.deferred (some [])))->
  ∃f,Steps P (lone { fr with defers:=ds.map kY } cs w) (lone { fr with defers:=[] } cs f)/\f.heap.size=w.heap.size/\(f.os=w.os/\f.tape=w.tape/\f.output=w.output)/\∀b,b∉ds->f.heap[b]?=w.heap[b]?
 | [],w,_,_=>⟨w,Steps.refl P _,rfl,⟨rfl,rfl,rfl⟩,fun _ _=>rfl⟩
 |d::ds,w,j,h=>by
  obtain⟨h1,h2⟩:=List.nodup_cons.1 j;have i:=step_collected (P:=P) (fr:={ fr with defers:=(d::ds).map kY }) (cs:=cs) (w:=w) (d:=kY d) (ds:=ds.map kY) (by rw[show ({ fr with defers:=(d::ds).map kY }:Frame).mode=fr.mode from rfl,hm];simp) rfl rfl (run_takeDeferred (h d (.head _)));obtain⟨f,a,b,c,e⟩:=HW (P:=P) (fr:=fr) (cs:=cs) hm ds (w.putObj d (.deferred none)) h2 fun x g=>by rw[World.putObj_heap_other (fun e=>h1 (by subst e;exact g))];exact h x (.tail _ g)
  refine⟨f,.head i a,by rw[b,World.putObj_size],c,fun x g=>?_⟩;rw[e x (fun l=>g (.tail _ l)),World.putObj_heap_other (fun e=>g (by subst e;exact .head _))]
def ub(v:C.rd=none)(f:∀a cs w,step C.P (lone (C.fr.atR a k) cs w)=.next (lone { C.fr.atR a k with mode:=.returning } cs w))
  (h:∀w a,bN C.H0 C.w0 H w->G C.w0.heap.size σ H a w->∃y,C.post y H/\(results C.fn a.tmps).run C.P w=.ok y w):R C k σ H:=by
 rintro w a cs s ⟨β,g⟩;obtain⟨ds,e,nd,c⟩:=g.defers;obtain⟨j,t,m,n,hb⟩:=HW (P:=C.P) (fr:={ C.fr.atR a k with mode:=.returning }) (cs:=cs) rfl ds w nd fun d hd=>(c d hd).2.2;have p:∀B∈σ.bx,j.heap[β B.key]?=w.heap[β B.key]?:=fun B l=>hb _ fun hm=>by have h1:=(c _ hm).2.2;rw[(g.bx B l).1]at h1;cases h1
 have s':bN C.H0 C.w0 H j:=by
  refine⟨fun b o i=>?_,by rw[m];exact s.size,fun b q u=>?_,s.dom,by rw[n.1];exact s.os,by rw[n.2.1];exact s.tape,by rw[n.2.2];exact s.out⟩
  .rw[hb b fun hm=>by rw[(c _ hm).2.1]at i;cases i];exact s.sub b o i
  .rw[hb b fun hm=>by have:=(c _ hm).1;omega];exact s.priv b q u
 have x:G C.w0.heap.size σ H { tmps:=a.tmps,defers:=[] } j:=⟨β,mX.nil,g.size,g.tm,fun B l=>⟨by rw[p B l];exact(g.bx B l).1,(g.bx B l).2⟩,g.inj,g.lo,g.keys⟩;obtain⟨y,r,hr⟩:=h j _ s' x;unfold kI;rw[v];refine⟨.returned y,j,{ { C.fr.atR a k with mode:=.returning } with defers:=[] },⟨H,s',r⟩,Steps.head (f a cs w) ?_,rfl,rfl,rfl,rfl,C.fn,C.hf,hr⟩;have e2:({ C.fr.atR a k with mode:=.returning }:Frame)={ ({ C.fr.atR a k with mode:=.returning }:Frame)with defers:=ds.map kY }:=by rw[<-e];rfl
 rw[e2];exact t
variable{r:List Value}
def au(h:lG C.P σ C.fn.results.toList=some r)(hp:C.post (bT r) H)(b:C.rd=none:=by rfl):R C (.code .ret::k) σ H:=
 ub b (fun a cs w=>stepR_ret (by simp[Cx.fr,b])) fun w a _ ⟨β,g⟩=>⟨_,hp,IV g h⟩
def Lg(h:lG C.P σ C.fn.results.toList=some r)(hp:C.post (bT r) H)(b:C.rd=none:=by rfl):R C [] σ H:=
 ub b (fun a cs w=>stepR_end (by simp[Cx.fr,b])) fun w a _ ⟨β,g⟩=>⟨_,hp,IV g h⟩
def sp:Nat->Nat->List (Nat×SV)->List SV
 |_,0,_=>[]
 |i,n+1,[]=>.u::sp (i+1) n []
 |i,n+1,(j,x)::l=>if j=i then x::sp (i+1) n l else .u::sp (i+1) n ((j,x)::l)
def fj:List SV->List SV->Prop
 | [],[]=>True
 | .u::l,_::m=>fj l m
 |x::l,y::m=>x=y/\fj l m
 |_,_=>False
def gH:List b9->List b9->Prop
 | [],_=>True
 |_::_,[]=>False
 |b::l,c::m=>if b.key=c.key then b=c/\gH l m else gH (b::l) m
def wC:∀{l m:List SV},fj l m->l.length=m.length/\∀(t:Nat) (sv:SV),l[t]?=some sv->sv=.u\/m[t]?=some sv
 | [],[],_=>⟨rfl,fun t sv h=>by simp at h⟩
 | .u::l,y::m,h=>by
  obtain⟨a,b⟩:=wC (l:=l) (m:=m) h;refine⟨by simp[a],fun t sv ht=>?_⟩;cases t with
  |zero=>simp at ht;exact .inl ht.symm
  |succ t=>simpa using b t sv (by simpa using ht)
 | .v x::l,y::m,h=>by
  obtain⟨e,h⟩:=h;obtain⟨a,b⟩:=wC (l:=l) (m:=m) h;refine⟨by simp[a],fun t sv ht=>?_⟩;cases t with
  |zero=>right;simp at ht |-;rw[<-e];exact ht
  |succ t=>simpa using b t sv (by simpa using ht)
 | .p x z::l,y::m,h=>by
  obtain⟨e,h⟩:=h;obtain⟨a,b⟩:=wC (l:=l) (m:=m) h;refine⟨by simp[a],fun t sv ht=>?_⟩;cases t with
  |zero=>right;simp at ht |-;rw[<-e];exact ht
  |succ t=>simpa using b t sv (by simpa using ht)
 | [],_::_,h=>h.elim
 | .u::_,[],h=>h.elim
 | .v _::_,[],h=>h.elim
 | .p _ _::_,[],h=>h.elim
def D8:∀{l m:List b9},gH l m->l.Sublist m
 | [],m,_=>List.nil_sublist m
 |b::l,[],h=>h.elim
 |b::l,c::m,h=>by
  simp only[gH]at h;split at h
  .obtain⟨rfl,h⟩:=h;exact(D8 h).cons_cons _
  .exact(D8 h).cons _
def xp{σ':St}(ht:fj σ'.tm σ.tm)(hb:gH σ'.bx σ.bx)(h:R C k σ' H):R C k σ H:=by
 rintro w a cs s ⟨β,g⟩;obtain⟨h1,h2⟩:=wC ht;have h3:=D8 hb;refine h w a cs s ⟨β,g.defers,by rw[g.size,h1],fun t sv c=>?_,fun B b=>g.bx B (h3.subset b),fun B b B' d=>g.inj B (h3.subset b) B' (h3.subset d),fun B b=>g.lo B (h3.subset b),g.keys.sublist h3⟩;rcases h2 t sv c with rfl|h
 .trivial
 .exact g.tm t sv h
def iH(key b:Nat):SV->SV
 | .p x off=>if x=key then .v (.pointer (some ⟨b,off,none⟩))else .p x off
 |y=>y
def Lj(key:Nat){B:b9}(z:dJ σ.bx key=some B)(h:∀b,H b=none->R C k ⟨σ.tm.map (iH key b),dt σ.bx key⟩ (H.put b (.cells B.cs.toArray B.ty (0,0)))):R C k σ H:=by
 rintro w a cs s ⟨β,g⟩;obtain⟨hm,j⟩:=x6 z;obtain⟨hb,q⟩:=g.bx B hm;rw[j]at hb q;have l:=g.lo B hm;rw[j]at l;refine h (β key) q w a cs ⟨fun c o f=>?_,s.size,fun c f i=>s.priv c f i,fun c f i=>?_,s.os,s.tape,s.out⟩ ⟨β,g.defers.keep fun d _ h1 h2=>⟨by rw[PH.put,ad (fun e=>by rw[e,hb]at h2;cases h2)];exact h1,h2⟩,by simp[g.size],fun t sv ht=>?_,fun B' m=>?_,fun n h1 D h2=>?_,fun n h1=>g.lo n (nK h1).1,F7 g.keys⟩
 .by_cases e:c=β key
  .subst e;simp only[PH.put,cY]at f;cases f;exact hb
  .simp only[PH.put,ad e]at f;exact s.sub c o f
 .have:c≠β key:=by omega
  simp only[PH.put,ad this];exact s.dom c f i
 .simp only[fX,hH]at ht;obtain⟨x,r,rfl⟩:=ht;have:=g.tm t x r;cases x with
  |v y=>exact this
  |u=>trivial
  |p y off=>
   simp only[iH];split
   .rename_i e;subst e;exact this
   .exact this
 .obtain⟨h1,h2⟩:=nK m;obtain⟨h3,A⟩:=g.bx B' h1;refine⟨h3,?_⟩;have:β B'.key≠β key:=fun e=>h2 (by rw[<-j];exact g.inj B' h1 B hm (by rw[j];exact e));simp only[PH.put,ad this];exact A
 .exact g.inj n (nK h1).1 D (nK h2).1
end
open Go
def sI:List Oper->Nat->Oper
 | [],_=>default
 |o::_,0=>o
 |_::l,n+1=>sI l n
def pick(ol:List Oper)(κ:List Nat):List (Nat×Oper):=κ.map fun i=>(i,sI ol i)
def rU(P:Program)(ol:List Oper)(fr:bI)(str:bJ)(K:St->PH->Prop):List (Nat×Oper)->St->PH->Prop
 | [],σ,H=>K σ H
 |(i,o)::l,σ,H=>iw P ol (fr.at' i) (str.at' i) o (rU P ol fr str K l) σ H
def RD(C:Cx)(ol:List Oper)(fr:bI)(str:bJ)(l:List (Nat×Oper))(k:List Item)(σ:St)(H:PH):Prop:=rU C.P ol fr str (R C k) l σ H
def OH{ol:List Oper}{i:Nat}(h:i<ol.length):ol[i]?=some (sI ol i):=by
 induction ol generalizing i with
 |nil=>simp at h
 |cons o l a=>cases i with
  |zero=>simp[sI]
  |succ i=>simpa[sI]using a (by simpa using h)
def mG:List b9->Bool
 | []=>true
 |b::l=>l.all (fun c=>decide (b.key<c.key)) && mG l
def D5{l:List b9}(h:mG l=true):dy l:=by
 induction l with
 |nil=>exact List.Pairwise.nil
 |cons b l a=>simp only[mG,bu]at h;exact List.pairwise_cons.2 ⟨fun y c=>by simpa using List.all_eq_true.1 h.1 y c,a h.2⟩
def JC{P:Program}{ol:List Oper}{f:gK}{s:kJ}{o:Oper}{K K':St->PH->Prop}{σ:St}{H:PH}(k:∀σ' H',K σ' H'->K' σ' H')(h:iw P ol f s o K σ H):iw P ol f s o K' σ H:=by
 rcases h with ⟨hw,h⟩|⟨hw,h⟩
 .exact .inl ⟨hw,k _ _ h⟩
 .refine .inr ⟨hw,?_⟩;cases i:eb o.op<;>rw[i]at h<;>simp only at h |-
  .obtain⟨sv,hv,a⟩:=h;exact⟨sv,hv,k _ _ a⟩
  .obtain⟨d,T,cs,hd,ha,a⟩:=h;exact⟨d,T,cs,hd,ha,k _ _ a⟩
  .rcases h with ⟨x,off,cs,ha,hm,a⟩|⟨g,a,e⟩
   .exact .inl ⟨x,off,cs,ha,hm,k _ _ a⟩
   .exact .inr ⟨g,a,e.mono fun sv H2 c=>k _ _ c⟩
  .exact⟨h.1,h.2.mono fun sv H2 c=>⟨c.1,k _ _ c.2⟩⟩
  .exact fun b hb=>k _ _ (h b hb)
def oN{P:Program}{ol:List Oper}{fr:bI}{str:bJ}{K:St->PH->Prop}:∀(κ:List Nat) {σ:St} {H:PH},(∀i∈κ,i<ol.length)->rU P ol fr str K (pick ol κ) σ H->VD P ol fr str K κ σ H
 | [],σ,H,_,h=>h
 |i::κ,σ,H,a,h=>by simp only[VD,OH (a i (.head _))];exact JC (fun σ' H' c=>oN κ (fun j b=>a j (.tail _ b)) c) h
section
variable {C:Cx} {k:List Item} {σ:St} {H:PH}
variable{ops:Array Oper}{id:Nat}
def AY(hm:C.P.follows .mixedOrders=true)(κ:List Nat)(fr:bI)(str:bJ)(a:nN ops.toList κ fr str=true)(c:mG σ.bx=true)
  (h:RD C ops.toList fr str (pick ops.toList κ) k σ H):RC C (.st (.code (.region id ops true)::k)) σ H:=by
 refine Le hm κ fr str a (D5 c) (oN κ ?_ h);simp only[nN,bu]at a;have h3:=a.2;intro i hi
 suffices d:∀(l:List Nat),cL ops.toList (fg ops.toList) fr str l=true->∀i∈l,i<ops.toList.length from d κ h3 i hi
 intro l
 induction l with
 |nil=>intro _ i hi;cases hi
 |cons x l b=>
  intro hp i hi;simp only[cL,bu,cu]at hp;rcases List.mem_cons.1 hi with rfl|hi
  .exact hp.1.1.1
  .exact b hp.2 i hi
def jI(hm:C.P.follows .mixedOrders=true)(κ fr str:List Nat)(a:nN ops.toList κ ⟨fr,[],PH.emp,[],[]⟩ ⟨str,[],[]⟩=true)(b:mG σ.bx=true)
  (h:RD C ops.toList ⟨fr,[],PH.emp,[],[]⟩ ⟨str,[],[]⟩ (pick ops.toList κ) k σ H):RC C (.st (.code (.region id ops true)::k)) σ H:=AY hm κ _ _ a b h
def tZ(hm:C.P.follows .mixedOrders=true)(κ fr str c b:List Nat)(J:PH)(a:nN ops.toList κ ⟨fr,c,J,[],[]⟩ ⟨str,b,[]⟩=true)(d:mG σ.bx=true)
  (h:RD C ops.toList ⟨fr,c,J,[],[]⟩ ⟨str,b,[]⟩ (pick ops.toList κ) k σ H):RC C (.st (.code (.region id ops true)::k)) σ H:=AY hm κ _ _ a d h
def AZ(hm:C.P.follows .mixedOrders=true)(κ fr str c b kp:List Nat)(a:nN ops.toList κ ⟨fr,[],PH.emp,c,kp⟩ ⟨str,[],b⟩=true)(d:mG σ.bx=true)
  (h:RD C ops.toList ⟨fr,[],PH.emp,c,kp⟩ ⟨str,[],b⟩ (pick ops.toList κ) k σ H):RC C (.st (.code (.region id ops true)::k)) σ H:=AY hm κ _ _ a d h
def gL(fr:bI)(str:bJ)(i:Nat)(H H2:PH):Prop:=(str.h.contains i=true->H.le H2)/\(str.j.contains i=true->fr.J.le H->fr.J.le H2)
variable{H2:PH}{i:Nat}
def gL.le{fr:bI}{str:bJ}{H:PH}(h:H.le H2):gL fr str i H H2:=⟨fun _=>h,fun _ a=>Y a h⟩
def gL.non{fr:bI}{str:bJ}{H:PH}(h:str.h.contains i=false)(h2:str.j.contains i=false):gL fr str i H H2:=⟨fun e=>Bool.noConfusion (h.symm.trans e),fun e=>Bool.noConfusion (h2.symm.trans e)⟩
variable{ρ:Operand->SV}{bx:List b9}
def T3{P:Program}{op:Op}{x:Prop×SV}(h:pv P bx ρ op=some x):eb op=.val:=by
 cases op<;>first|rfl|cases h|skip
 rename_i c;obtain⟨callee,args,types⟩:=c;cases callee with
 |builtin b=>cases b<;>first|rfl|(simp[pv,jn]at h)
 |value f=>simp[pv,jn]at h
 |invoke r m=>simp[pv,jn]at h
def LI{P:Program}{op:Op}{x:TypeId×List Value}(h:ix P ρ op=some x):eb op=.alc:=by cases op<;>first|rfl|cases h
def U8{P:Program}{op:Op}{x:Nat×Nat×List Value}(h:ky P bx ρ op=some x):eb op=.st:=by cases op<;>first|rfl|cases h
def rY(P:Program)(ol:List Oper)(b a:Bool)(kp:List Nat)(o:Oper)(σ:St):Option (Prop×St):=
 match be ol σ o with
 |some false=>some (True,σ.put o.dst (.v undef))
 |some true=>match pv P (kb b kp σ.bx) (ev σ) o.op with
  |some (φ,sv)=>some (φ,σ.put o.dst sv)
  |none=>match o.dst,ix P (ev σ) o.op with
   |some d,some (T,cs)=>some (True,σ.newBox d T cs)
   |_,_=>match ky P σ.bx (ev σ) o.op with
    |some (x,off,cs)=>if a && fU kp x then none else some (True,(σ.store x off cs).put o.dst .u)
    |none=>none
 |none=>none
variable{o:Oper}
def E8{P:Program}{ol:List Oper}{σ':St}{φ:Prop}{K:St->PH->Prop}{f:gK}{s:kJ}(h:rY P ol f.k s.k f.kp o σ=some (φ,σ'))(g:φ)(a:K σ' H):iw P ol f s o K σ H:=by
 unfold rY at h;split at h
 .rename_i hw;cases h;exact .inl ⟨hw,a⟩
 .rename_i hw;refine .inr ⟨hw,?_⟩;split at h
  .rename_i i sv hp;cases h;rw[T3 hp];exact⟨sv,.inl ⟨φ,hp,g⟩,a⟩
  .split at h
   .rename_i d T cs hd ha;cases h;rw[LI ha];exact⟨d,T,cs,hd,ha,a⟩
   .split at h
    .rename_i x off cs b;split at h
     .cases h
     .rename_i c;cases h;rw[U8 b]
      refine .inl ⟨x,off,cs,b,fun e=>?_,a⟩;rw[e]at c;simpa using c
    .cases h
 .cases h
def gA(P:Program)(ol:List Oper)(b a kp:List Nat):List (Nat×Oper)->St->List Prop->List Prop×List (Nat×Oper)×St
 | [],σ,ps=>(ps,[],σ)
 |(i,o)::l,σ,ps=>match rY P ol (fU b i) (fU a i) kp o σ with
  |some (φ,σ')=>gA P ol b a kp l σ' (φ::ps)
  |none=>(ps,(i,o)::l,σ)
def Fa{ol:List Oper}{fr:bI}{str:bJ}:∀(l:List (Nat×Oper)) (σ:St) (ps:List Prop),iQ (gA C.P ol fr.k str.k fr.kp l σ ps).1->RD C ol fr str (gA C.P ol fr.k str.k fr.kp l σ ps).2.1 k (gA C.P ol fr.k str.k fr.kp l σ ps).2.2 H->iQ ps/\RD C ol fr str l k σ H
 | [],σ,ps,hp,h=>⟨hp,h⟩
 |(i,o)::l,σ,ps,hp,h=>by
  unfold gA at hp h;cases ha:rY C.P ol (fU fr.k i) (fU str.k i) fr.kp o σ with
  |none=>rw[ha]at hp h;exact⟨hp,h⟩
  |some x=>obtain⟨φ,σ'⟩:=x;rw[ha]at hp h;obtain⟨⟨a,b⟩,c⟩:=Fa l _ _ hp h;exact⟨a,E8 (f:=fr.at' i) (s:=str.at' i) ha b c⟩
variable{l:List (Nat×Oper)}
def KU{ol:List Oper}{fr:bI}{str:bJ}(h:iQ (gA C.P ol fr.k str.k fr.kp l σ []).1/\RD C ol fr str (gA C.P ol fr.k str.k fr.kp l σ []).2.1 k (gA C.P ol fr.k str.k fr.kp l σ []).2.2 H):RD C ol fr str l k σ H:=(Fa l σ [] h.1 h.2).2
def oG(C:Cx)(ol:List Oper)(fr:bI)(str:bJ)(k:List Item)(H:PH)(r:List Prop×List (Nat×Oper)×St):Prop:=iQ r.1/\RD C ol fr str r.2.1 k r.2.2 H
theorem Ls(C:Cx)(ol:List Oper)(fr:bI)(str:bJ)(k:List Item)(H:PH)(ps:List Prop)(l:List (Nat×Oper))(σ:St):oG C ol fr str k H (ps,l,σ)=(iQ ps/\RD C ol fr str l k σ H):=rfl
def bp{ol:List Oper}{fr:bI}{str:bJ}(h:oG C ol fr str k H (gA C.P ol fr.k str.k fr.kp l σ [])):RD C ol fr str l k σ H:=KU h
def an{ol:List Oper}{fr:bI}{str:bJ}(h:RC C (.st k) σ H):RD C ol fr str [] k σ H:=h
def oE{ol:List Oper}{fr:bI}{str:bJ}(hw:be ol σ o=some true)(a:bt σ o.op=true)(b:eb o.op=.gen)
  (h:dg C.P (execOp (aQ σ) o) H fun sv H2=>gL fr str i H H2/\RD C ol fr str l k (σ.put o.dst sv) H2):RD C ol fr str ((i,o)::l) k σ H:=
 .inr ⟨hw,by rw[b];exact⟨a,h⟩⟩
def La{ol:List Oper}{fr:bI}{str:bJ}(a:fU str.k i=false)(hw:be ol σ o=some true)(b:bt σ o.op=true)(c:eb o.op=.st)
  (h:dg C.P (execOp (aQ σ) o) H fun sv H2=>RD C ol fr str l k (σ.put o.dst sv) H2):RD C ol fr str ((i,o)::l) k σ H:=
 .inr ⟨hw,by rw[c];exact .inr ⟨a,b,h⟩⟩
def oF{ol:List Oper}{fr:bI}{str:bJ}(v:Value)(hf:fr.h.contains i=true)(hw:be ol σ o=some true)(a:bt σ o.op=true)(b:eb o.op=.val)
  (hv:∀w,Sub H w->(execOp (aQ σ) o).run C.P w=.ok (.value v) w) (h:RD C ol fr str l k (σ.put o.dst (.v v)) H):RD C ol fr str ((i,o)::l) k σ H:=
 .inr ⟨hw,by rw[b];exact⟨_,.inr (.inl ⟨hf,v,rfl,a,hv⟩),h⟩⟩
def K9{ol:List Oper}{fr:bI}{str:bJ}(v:Value)(hf:fr.j.contains i=true)(c:fr.J.le H)(hw:be ol σ o=some true)(a:bt σ o.op=true)(b:eb o.op=.val)
  (hv:∀w,Sub fr.J w->(execOp (aQ σ) o).run C.P w=.ok (.value v) w) (h:RD C ol fr str l k (σ.put o.dst (.v v)) H):RD C ol fr str ((i,o)::l) k σ H:=
 .inr ⟨hw,by rw[b];exact⟨_,.inr (.inr ⟨hf,c,v,rfl,a,hv⟩),h⟩⟩
variable{f:FuncId}
def Fw {P:Program}  {fn:Func} (hf:P.funcs[f]?=some fn) (hb:fn.body.isNone=false) (a:(fn.name == "runtime.NumGoroutine")=false) (args:Array Value) (w:World) :
  (callFunc f args).run P w=.ok (.enter f args) w:=by
 simp only[callFunc,bY,program,Sem.run,Result.andThen,hf,a,hb];simp
def ay (P:Program) (f:FuncId):Prop:=∃fn,P.funcs[f]?=some fn/\fn.body.isNone=false/\(fn.name == "runtime.NumGoroutine")=false
variable{Φ:Value->PH->Prop}{first cap:Array Value}{vs:List Value}{ts:Array TypeId}{aq:Array Operand}{x:Operand}
def D2{P:Program}(aa:o.op=.call ⟨.value x,aq,ts⟩)
  (q:ev σ x=.v (.func (.func f) first cap)) (ha:d8 (ev σ) aq.toList=some vs) (u:ay P f) (h:aJ P f (first++vs.toArray++cap) H Φ) :
  bt σ o.op=true/\dg P (execOp (aQ σ) o) H fun sv H2=>∃v,sv=.v v/\Φ v H2:=by
 have j:∀(l:List Operand) (r:List Value),d8 (ev σ) l=some r->l.map (aQ σ)=r/\∀y∈l,eX (ev σ y)=true:=by
  intro l
  induction l with
  |nil=>intro r h;cases h;exact⟨rfl,fun y g=>(dH g).elim⟩
  |cons y l s=>
   intro r h;simp only[d8]at h;split at h
   .rename_i v A hv hr;cases h
    obtain⟨h1,h2⟩:=s _ hr;refine⟨by simp[aQ,hv,h1],fun z m=>?_⟩;rcases List.mem_cons.1 m with rfl|m
    .rw[hv];rfl
    .exact h2 z m
   .cases h
 obtain⟨h1,h2⟩:=j _ _ ha;obtain⟨fn,hf,hb,t⟩:=u;constructor
 .simp only[bt,aa,dU,Op.operands,Call.operands,Bool.true_and,lm];intro y g;simp at g;rcases g with rfl|g
  .rw[q];rfl
  .exact h2 y (by simpa using g)
 .intro w hw;have d:aq.map (aQ σ)=vs.toArray:=by rw[<-jb];simpa using h1
  have p:aQ σ x=.func (.func f) first cap:=by simp[aQ,q]
  have i:(execOp (aQ σ) o).run P w=.ok (.enter f (first++vs.toArray++cap)) w:=by simp only[execOp,aa,resolve,d,p,Deferred.ofValue,bY];simp[Result.andThen,invoke,Fw hf hb t]
  rw[i];exact(h w hw).mono fun e w2 n=>by
   cases e with
   |returned v=>obtain⟨H2,a,b⟩:=n;exact⟨H2,a,v,rfl,b⟩
   |outgrown=>exact n
   |panicked c=>exact n
variable{rem:List Oper}
def bw{ol:List Oper}(hw:be ol σ o=some true)(aa:o.op=.call ⟨.value x,aq,ts⟩)
  (a:ev σ x=.v (.func (.func f) first cap)) (ha:d8 (ev σ) aq.toList=some vs) (c:ay C.P f) (h:aJ C.P f (first++vs.toArray++cap) H Φ)
  (b:∀v H2,Φ v H2->RC C (.op ol rem k) (σ.put o.dst (.v v)) H2):RC C (.op ol (o::rem) k) σ H:=by
 obtain⟨h1,h2⟩:=D2 aa a ha c h;exact j1 hw h1 (h2.mono fun sv H2 ⟨v,e,p⟩=>by subst e;exact b v H2 p)
def Xa{ol:List Oper}(a:(be ol σ o,o.op,ev σ x,d8 (ev σ) aq.toList)=(some true,Op.call ⟨.value x,aq,ts⟩,SV.v (.func (.func f) first cap),some vs))(c:ay C.P f)(h:aJ C.P f (first++vs.toArray++cap) H Φ)
  (b:∀v H2,Φ v H2->RC C (.op ol rem k) (σ.put o.dst (.v v)) H2):RC C (.op ol (o::rem) k) σ H:=by
 simp only[eL]at a;exact bw a.1 a.2.1 a.2.2.1 a.2.2.2 c h b
def lW{ol:List Oper}{fr:bI}{str:bJ}(hw:be ol σ o=some true)(aa:o.op=.call ⟨.value x,aq,ts⟩)
  (a:ev σ x=.v (.func (.func f) first cap)) (ha:d8 (ev σ) aq.toList=some vs) (c:ay C.P f) (h:aJ C.P f (first++vs.toArray++cap) H Φ)
  (b:∀v H2,Φ v H2->gL fr str i H H2/\RD C ol fr str l k (σ.put o.dst (.v v)) H2):RD C ol fr str ((i,o)::l) k σ H:=by
 obtain⟨h1,h2⟩:=D2 aa a ha c h;exact oE hw h1 (by rw[aa];rfl) (h2.mono fun sv H2 ⟨v,e,p⟩=>by subst e;exact b v H2 p)
def aX(H:PH)(b off:Nat)(l:List Value):Prop:=∃cs ty a,H b=some (.cells cs ty a)/\off+l.length<=cs.size/\(cs.toList.drop off).take l.length=l
variable{b off:Nat}
def aX.le{H:PH}{l:List Value}(h:aX H b off l)(k:H.le H2):aX H2 b off l:=by obtain⟨cs,ty,d,a,b,c⟩:=h;exact⟨cs,ty,d,k _ _ a,b,c⟩
variable{v:Value}
def HJ{P:Program}{T:TypeId}{l:List Value}(h:aX H b off l)(c:a8 P T=some (some l.length)/\v=.agg l.toArray\/a8 P T=some none/\l=[v])(w:World)(hw:Sub H w):
  (loadVar T ⟨b,off,none⟩).run P w=.ok v w:=by
 obtain⟨cs,ty,d,h1,h2,h3⟩:=h;have hb:=hw b _ h1;have:cs=cs.toList.toArray:=ai;rw[this]at hb;refine wl hb ?_;unfold gp;rcases c with ⟨ht,rfl⟩|⟨ht,rfl⟩
 .rw[ht];simp only[kA];rw[ak h2,h3]
 .rw[ht];simp only[List.length_singleton]at h2 h3;simp only;have a:off<cs.toList.length:=by simp;omega
  have:cs.toList.drop off=cs.toList[off]::cs.toList.drop (off+1):=jv a;rw[this]at h3;simp at h3;rw[aL a];simp[h3]
def yT{P:Program}{T:TypeId}{l:List Value}(aa:o.op=.load T x)(a:ev σ x=.v (.pointer (some ⟨b,off,none⟩)))(h:aX H b off l)
  (c:a8 P T=some (some l.length)/\v=.agg l.toArray\/a8 P T=some none/\l=[v]):bt σ o.op=true/\∀w,Sub H w->(execOp (aQ σ) o).run P w=.ok (.value v) w:=by
 constructor
 .simp[bt,aa,dU,Op.operands,a,eX]
 .intro w hw;have:=HJ h c w hw;simp[execOp,aa,aQ,a,Instr.loadAt,Instr.sureAddr,this,Result.andThen]
def bh{ol:List Oper}{T:TypeId}{l:List Value}(hw:be ol σ o=some true)(aa:o.op=.load T x)(a:ev σ x=.v (.pointer (some ⟨b,off,none⟩)))(h:aX H b off l)
  (d:a8 C.P T=some (some l.length)/\v=.agg l.toArray\/a8 C.P T=some none/\l=[v]) (c:RC C (.op ol rem k) (σ.put o.dst (.v v)) H):RC C (.op ol (o::rem) k) σ H:=by
 obtain⟨h1,h2⟩:=yT (P:=C.P) aa a h d;exact tX v hw h1 h2 c
def Xb{ol:List Oper}{T:TypeId}{l:List Value}(a:(be ol σ o,o.op,ev σ x)=(some true,Op.load T x,SV.v (.pointer (some ⟨b,off,none⟩))))(h:aX H b off l)
  (d:a8 C.P T=some (some l.length)/\v=.agg l.toArray\/a8 C.P T=some none/\l=[v]) (c:RC C (.op ol rem k) (σ.put o.dst (.v v)) H):RC C (.op ol (o::rem) k) σ H:=by
 simp only[eL]at a;exact bh a.1 a.2.1 a.2.2 h d c
variable{l':List (Nat×Oper)}
def aA{ol:List Oper}{fr:bI}{str:bJ}{T:TypeId}{l:List Value}(hf:fr.h.contains i=true)(hw:be ol σ o=some true)(aa:o.op=.load T x)(a:ev σ x=.v (.pointer (some ⟨b,off,none⟩)))(h:aX H b off l)
  (d:a8 C.P T=some (some l.length)/\v=.agg l.toArray\/a8 C.P T=some none/\l=[v]) (c:RD C ol fr str l' k (σ.put o.dst (.v v)) H):RD C ol fr str ((i,o)::l') k σ H:=by
 obtain⟨h1,h2⟩:=yT (P:=C.P) aa a h d;exact oF v hf hw h1 (by rw[aa];rfl) h2 c
def Xc{ol:List Oper}{fr:bI}{str:bJ}{T:TypeId}{l:List Value}(a:(fr.h.contains i,be ol σ o,o.op,ev σ x)=(true,some true,Op.load T x,SV.v (.pointer (some ⟨b,off,none⟩))))(h:aX H b off l)
  (d:a8 C.P T=some (some l.length)/\v=.agg l.toArray\/a8 C.P T=some none/\l=[v]) (c:RD C ol fr str l' k (σ.put o.dst (.v v)) H):RD C ol fr str ((i,o)::l') k σ H:=by
 simp only[eL]at a;exact aA a.1 a.2.1 a.2.2.1 a.2.2.2 h d c
def jH{ol:List Oper}{fr:bI}{str:bJ}{T:TypeId}{l:List Value}(hf:fr.j.contains i=true)(e:fr.J.le H)(hw:be ol σ o=some true)(aa:o.op=.load T x)(a:ev σ x=.v (.pointer (some ⟨b,off,none⟩)))(h:aX fr.J b off l)
  (d:a8 C.P T=some (some l.length)/\v=.agg l.toArray\/a8 C.P T=some none/\l=[v]) (c:RD C ol fr str l' k (σ.put o.dst (.v v)) H):RD C ol fr str ((i,o)::l') k σ H:=by
 obtain⟨h1,h2⟩:=yT (P:=C.P) aa a h d;exact K9 v hf e hw h1 (by rw[aa];rfl) h2 c
end
open Go
def ch(P:Program)(t e:TypeId)(size bytes:Nat):Prop:=
 ∃i z,P.underlying t=some (.slice e)/\P.info? e=some i/\i.zero=some z/\i.size=size/\i.bytes=bytes/\z.cells.size=size/\0<size
variable{size bytes:Nat}{e:TypeId}
def ch.of{P:Program}{t:TypeId}(h1:P.underlying t=some (.slice e))(h2:(P.info? e).map (fun i=>(i.zero.map (·.cells.size),i.size,i.bytes))=some (some size,size,bytes))(h3:0<size):ch P t e size bytes:=by
 cases hi:P.info? e with
 |none=>rw[hi]at h2;cases h2
 |some i=>
  rw[hi]at h2;simp only[fO,bv,eL]at h2;obtain⟨a,b,c⟩:=h2;cases d:i.zero with
  |none=>rw[d]at a;cases a
  |some z=>rw[d]at a;simp only[fO,bv]at a;exact⟨i,z,h1,hi,d,b,c,a,h3⟩
def gv (H : PH) (e : TypeId) (size : Nat) (v : Value) (n : Nat) (xs : List Value) : Prop :=
  xs.length = n * size ∧
  ((v = .slice none 0 0 ∧ n = 0) ∨
   ∃ g cap cur, v = .slice (some ⟨g, 0, none⟩) n cap ∧ H g = some (.cells cur e (0, 0)) ∧ n ≤ cap ∧ cap ≤ maxLen ∧ cur.size = cap * size ∧ cur.toList.take (n * size) = xs)
def gv.nil(H:PH)(e:TypeId)(size:Nat):gv H e size (.slice none 0 0) 0 []:=⟨by simp,.inl ⟨rfl,rfl⟩⟩
variable{xs:List Value}{v:Value}
def gv.toRow{H:PH}{n:Nat}(h:gv H e size v n xs){w:World}(s:Sub H w):w.ownsRow 0 e size v n xs:=by
 obtain⟨h1,h2⟩:=h;refine⟨h1,?_⟩;rcases h2 with h2|⟨g,cap,cur,a,b,c,d,f,k⟩
 .exact .inl h2
 .exact .inr ⟨g,cap,cur,a,bg _,s _ _ b,c,d,f,k⟩
def tO(Du:Option Nat)(H H2:PH):Prop:=∀b o,some b≠Du->H b=some o->H2 b=some o
def L9{P:Program}{t ty:TypeId}(ht:ch P t e size bytes){H:PH}{n:Nat}(q:gv H e size v n xs)
  {xb xo m c:Nat} {d:List Value} (V:aX H xb xo d) (X:d.length=m*size) (h1:∀u∈d,one u=true) (hb:(n+m)*bytes<=140737488355328) (Q:n+m<=maxLen) (w:World) (s:Sub H w) :
  ∃I y H2,(Builtin.append_ #[t,t] ty #[v,.slice (some ⟨xb,xo,none⟩) m c]).run P w=.ok I y/\bN H w H2 y/\gv H2 e size I (n+m) (xs++d)/\tO v.ownBlock H H2/\
   (I.ownBlock=v.ownBlock\/∀g,I.ownBlock=some g->H g=none):=by
 obtain⟨i,z,a1,a2,a3,a4,a5,a6,a7⟩:=ht;obtain⟨cs,cty,cfz,c1,c2,c3⟩:=V;have C:∀j u,d[j]?=some u->w.cell? ((⟨xb,xo,none⟩:Addr).add j)=some u:=by
  intro j u G;have J:=s _ _ c1;rw[show cs=cs.toList.toArray from by simp]at J;rw[l5,uB J];rw[<-c3]at G;rw[AJ]at G;split at G
  .rw[rA]at G;exact G
  .cases G
 obtain⟨I,y,p,A,a,_,k⟩:=run_append_own_at w 0 t ty e i z size bytes a1 a2 a3 a4 a5 a6 a7 v n xs (q.toRow s) ⟨xb,xo,none⟩ m c d X C
  (fun u W=>by have:=h1 u W;cases u<;>first|rfl|cases this) Q hb (bg _)
 have l:∀b,v.ownBlock=some b->H b≠none:=by
  intro b hb;rcases q.2 with ⟨rfl,_⟩|⟨g,cap,cur,rfl,M,_⟩
  .cases hb
  .simp only[Value.ownBlock,bv]at hb;subst hb;rw[M];exact fun e=>by cases e
 have keep:∀b o,some b≠v.ownBlock->H b=some o->y.heap[b]?=some o:=fun b o hb r=>by rw[a.block b (gj (s b o r)) hb];exact s b o r
 have f:∀b,b<w.heap.size->H b=none->y.heap[b]?=w.heap[b]?:=fun b hb F=>a.block b hb fun e=>l b e.symm F;obtain⟨x,D⟩:=A;rcases D with ⟨rfl,K⟩|⟨g,cap,cur,rfl,_,M,U,T,S,R⟩
 .refine⟨_,y,fun b=>if some b=v.ownBlock then none else H b,p,⟨fun b o h=>?_,a.size,f,fun b _ F=>by simp[F],a.os,a.tape,a.output⟩,⟨x,.inl ⟨rfl,K⟩⟩,fun b o hb r=>by simp[hb,r],.inr fun g h=>by cases h⟩;split at h
  .cases h
  .exact keep b o (by assumption) h
 .have L:v.ownBlock=some g\/H g=none:=by
   rcases k with h|h
   .left;rw[<-h];rfl
   .right
    simp only[Value.ownBlock,bv]at h;subst h;cases N:H w.heap.size with
    |none=>rfl
    |some o=>exact absurd (gj (s _ _ N)) O
  refine⟨_,y,fun b=>if b=g then some (.cells cur e (0,0))else if some b=v.ownBlock then none else H b,p,⟨fun b o h=>?_,a.size,f,fun b hb F=>?_,a.os,a.tape,a.output⟩,
   ⟨x,.inr ⟨g,cap,cur,rfl,by simp,U,T,S,R⟩⟩,fun b o hb r=>?_,?_⟩
  .split at h
   .rename_i Z;subst Z;cases h;exact M
   .split at h
    .cases h
    .exact keep b o (by assumption) h
  .have:b≠g:=by
    rintro rfl;rcases k with h|h
    .exact l b (by rw[<-h];rfl) F
    .simp only[Value.ownBlock,bv]at h;omega
   simp[this,F]
  .have:b≠g:=by
    rintro rfl;rcases L with h|h
    .exact hb h.symm
    .rw[h]at r;cases r
   simp[this,hb,r]
  .rcases k with h|h
   .exact .inl h
   .right
    intro g' B;rw[h]at B;simp only[bv]at B;subst B;cases N:H w.heap.size with
    |none=>rfl
    |some o=>exact absurd (gj (s _ _ N)) O
def i7(size:Nat):Nat->List (Nat×Value)->Bool
 |_,[]=>true
 |j,(i,v)::l=>decide (i=j) && decide (v.cells.toList.length=size) && i7 size (j+1) l
def aD:List (Nat×Value)->List Value
 | []=>[]
 |(_,v)::l=>v.cells.toList++aD l
def lg(l cs:List Value)(off:Nat)(h:off+cs.length<=l.length):bi l off cs=l.take off++cs++l.drop (off+cs.length):=by
 induction cs generalizing l off with
 |nil=>simp[bi]
 |cons c cs b=>
  simp only[bf]at h;have a:off<l.length:=O;rw[bi,b _ _ (by simp;omega)];rw[List.take_set,List.drop_set];have h1:(l.take (off+1)).set off c=l.take off++[c]:=by rw[List.take_succ_eq_append_getElem a,List.set_append];simp[kF (fo a)]
  rw[h1,ak O];simp[Nat.add_assoc,Nat.add_comm 1]
def Gl(size:Nat):∀(parts:List (Nat×Value)) (j:Nat) (cells:List Value),i7 size j parts=true->cells.length=(j+parts.length)*size->
  jP (fun i=>some (i*size,size)) cells parts=some (cells.take (j*size)++aD parts)
 | [],j,cells,_,a=>by simp only[bA,ln]at a;simp[jP,aD,<-a]
 |(i,v)::l,j,cells,h,a=>by
  simp only[i7,bu,cu]at h;obtain⟨⟨rfl,h2⟩,h3⟩:=h;simp only[bf]at a;have b:i*size+size<=cells.length:=by
   rw[a];have:i*size+size=(i+1)*size:=by rw[fm];simp
   rw[this];exact bS _ O
  simp only[jP,h2,dP,ak b];rw[Gl size l (i+1) _ h3 (by rw[eJ,a];congr 1;omega)];rw[lg _ _ _ (by rw[h2];exact b)];simp only[aD];congr 1;rw[h2];have c:(i+1)*size=i*size+size:=by rw[fm];simp
  have e2:(cells.take (i*size)++v.cells.toList).length=(i+1)*size:=by simp[h2,c];omega
  rw[n9 O,<-e2,cB,eD]
def Mw{P:Program}{t:TypeId}(ht:ch P t e size bytes){len:Nat}{parts:List (Nat×Value)}(hp:i7 size 0 parts=true)(a:parts.length=len)(g:len*size<=16777216)(w:World):
  (Instr.buildSlice t len parts.toArray).run P w=.ok (.slice (some ⟨w.heap.size,0,none⟩) len len) { w with heap:=w.heap.push (.cells (aD parts).toArray e (0,0)) }:=by
 obtain⟨i,z,a1,a2,a3,a4,a5,l,k⟩:=ht;have b:(underlying t).run P w=.ok (.slice e) w:=dK a1;have sz:(sizeOf e).run P w=.ok size w:=by simp[sizeOf,typeInfo,program,Sem.run,a2,a4]
 have j:(zeroValue e).run P w=.ok z w:=by simp[zeroValue,typeInfo,program,Sem.run,a2,a3]
 have key:∀(zero:Array Value),Instr.fill (fun i=>some (i*size,size)) ((Array.range (len*size)).map (zero[· % zero.size]!)) parts=some (aD parts).toArray:=by intro zero;refine B3 (fun i x h=>h) ?_;have:=Gl size parts 0 ((Array.range (len*size)).map (zero[· % zero.size]!)).toList hp (by simp[a]);simpa using this
 by_cases f:len*size=0
 .simp only[Instr.buildSlice,bY,b,Result.andThen,sz,ad (show ¬len*size>2^24 by omega),ak f];have d:len=0:=by
   rcases Nat.mul_eq_zero.1 f with h|h
   .exact h
   .omega
  subst d;have c:parts=[]:=List.length_eq_zero_iff.1 a;subst c;simp[Instr.fill,aD,newRow,newObj,Sem.run,Result.andThen];rw[show Array.range 0=#[] from Array.eq_empty_of_size_eq_zero ai];simp
 .simp only[Instr.buildSlice,bY,b,Result.andThen,sz,ad (show ¬len*size>2^24 by omega),ad f,j];simp[key,newRow,newObj,Sem.run,Result.andThen]
end Go.Sx
