import Derived.Test.YtfaclfkpnmcmlaaGreatDoorE11
import Derived.Test.YtfaclfkpnmcmlaaGreatDoorE17
set_option maxHeartbeats 8000000
set_option linter.all false
namespace Syn
open Dg
def gB(l:List Nd)(k:qT):Nd:=⟨k.kind,k.text,k.tok,k.slot,cZ l k,ib l k⟩
def tP:List Nd->Nd->List Nd
 | [],n=>[n]
 |m::out,n=>if m.key=n.key then { m with kids:=m.kids++n.kids,cond:=m.cond.or n.cond }::out else m::tP out n
def vK(out:List Nd)(n:Nd):List Nd:=if n.cond=ff then out else tP out n
def sE:∀{out:List Nd} {n:Nd},(∀m∈out,m.key≠n.key)->tP out n=out++[n]
 | [],n,_=>rfl
 |m::out,n,h=>by
  rw[tP,ZV (h m (.head _)),sE fun x hx=>h x (.tail _ hx)];rfl
def wr:∀{out:List Nd} {n m:Nd} {i:Nat},out.Pairwise (fun a b=>a.key≠b.key)->out[i]?=some m->m.key=n.key->tP out n=out.set i { m with kids:=m.kids++n.kids,cond:=m.cond.or n.cond }
 | [],n,m,i,_,h,_=>by simp at h
 |x::out,n,m,0,hp,h,hk=>by
  simp only[abh,ZW]at h;subst h;rw[tP,aaq hk];rfl
 |x::out,n,m,i+1,hp,h,hk=>by
  simp only[abi]at h;have h1:=(List.pairwise_cons.1 hp).1 m (aaV h);rw[tP,ZV (by rw[<-hk];exact h1),wr (List.pairwise_cons.1 hp).2 h hk];rfl
def oW(p:List Nd)(n:Nd)(k:qT):cZ (p++[n]) k=cZ p k++if fY k n then n.kids else []:=by
 unfold cZ;rw[List.filter_append,abk];congr 1;cases h:fY k n<;>simp[aby,h]
def pz(p:List Nd)(n:Nd)(k:qT):ib (p++[n]) k=if fY k n then (ib p k).or n.cond else ib p k:=by
 unfold ib;rw[List.filter_append,abM];cases h:fY k n<;>simp[aby,h]
variable{p:List Nd}
def DW{k:qT}(h:∀n∈p,n.cond≠ff->n.key≠k):ib p k=ff/\cZ p k=[]:=by
 have:p.filter (fY k)=[]:=List.filter_eq_nil_iff.2 fun n hn hm=>by
  simp only[fY,aao,aaC]at hm;exact h n hn hm.2 hm.1
 unfold ib cZ;rw[this];exact⟨rfl,rfl⟩
def VL{a:T}(h:a.ok 0):T.or ff a=a:=T.ext (T.or_ok (show (ff:T).ok 0 from trivial) h) h fun c=>by
 rw[T.or_at (show (ff:T).ok 0 from trivial) h,BL,abw]
structure HX(p out:List Nd):Prop where
 dist:out.Pairwise (fun a b=>a.key≠b.key)
 node:∀m∈out,m=gB p m.key
 has:∀n∈p,n.cond≠ff->∃m∈out,m.key=n.key
 from':∀m∈out,∃n∈p,n.cond≠ff/\n.key=m.key
def HX.nil:HX [] []:=⟨List.Pairwise.nil,fun _ h=>(aaB h).elim,fun _ h=>(aaB h).elim,fun _ h=>(aaB h).elim⟩
def od{n:Nd}{k:qT}(h:n.cond=ff\/n.key≠k):gB (p++[n]) k=gB p k:=by
 have:fY k n=false:=by
  rcases h with h|h<;>simp[fY,h]
 unfold gB;rw[oW,pz,this];simp
theorem HX.step{out:List Nd}{n:Nd}(h:HX p out)(hn:n.cond.ok 0):HX (p++[n]) (vK out n):=by
 unfold vK;split
 ·rename_i aq;refine⟨h.dist,fun m hm=>by rw[od (.inl aq)];exact h.node m hm,fun x hx aj=>?_,fun m hm=>?_⟩
  ·rcases List.mem_append.1 hx with e|e
   ·exact h.has x e aj
   ·rw[List.mem_singleton.1 e]at aj;exact absurd aq aj
  ·obtain⟨x,hx,k⟩:=h.from' m hm;exact⟨x,aau _ hx,k⟩
 ·rename_i aj;by_cases aS:∃m∈out,m.key=n.key
  ·obtain⟨m,hm,hk⟩:=aS;obtain⟨i,hi⟩:=List.mem_iff_getElem?.1 hm;rw[wr h.dist hi hk];have am:=(List.getElem?_eq_some_iff.1 hi).1;have emine:fY n.key n=true:=by simp[fY,aj]
   have em:({ m with kids:=m.kids++n.kids,cond:=m.cond.or n.cond }:Nd)=gB (p++[n]) n.key:=by
    have e1:=h.node m hm;rw[hk]at e1;have e2:m.kids=cZ p n.key:=by rw[e1];rfl
    have e3:m.cond=ib p n.key:=by rw[e1];rfl
    have e4:gB (p++[n]) n.key=⟨n.key.kind,n.key.text,n.key.tok,n.key.slot,cZ p n.key++n.kids,(ib p n.key).or n.cond⟩:=by
     unfold gB;rw[oW,pz,aaq emine,aaq emine]
    rw[e4,<-e2,<-e3,<-hk];rfl
   have ag:∀{x:Nd} {j:Nat},(out.set i { m with kids:=m.kids++n.kids,cond:=m.cond.or n.cond })[j]?=some x->j=i/\x={ m with kids:=m.kids++n.kids,cond:=m.cond.or n.cond }\/j≠i/\out[j]?=some x:=fun{x j} e=>by
    rw[aaY]at e;split at e
    ·rename_i an
     first
      |exact .inl ⟨an.symm,(aaZ e).symm⟩
      |(rw[aaq am]at e;exact .inl ⟨an.symm,(aaZ e).symm⟩)
    ·rename_i an;exact .inr ⟨fun e2=>an e2.symm,e⟩
   have ac:∀{x y:Nd} {j l:Nat},out[j]?=some x->out[l]?=some y->j≠l->x.key≠y.key:=fun{x y j l} h1 h2 h3=>by
    obtain⟨a1,rfl⟩:=List.getElem?_eq_some_iff.1 h1;obtain⟨a2,rfl⟩:=List.getElem?_eq_some_iff.1 h2;rcases Nat.lt_or_gt_of_ne h3 with am|a5
    ·exact List.pairwise_iff_getElem.1 h.dist j l a1 a2 am
    ·exact fun e=>List.pairwise_iff_getElem.1 h.dist l j a2 a1 a5 e.symm
   refine⟨?_,fun x hx=>?_,fun x hx aa=>?_,fun x hx=>?_⟩
   ·refine List.pairwise_iff_getElem.2 fun j l hj hl a6=>?_;have g1:=ag (aak hj);have g2:=ag (aak hl);rcases g1 with ⟨a,b⟩|⟨a,b⟩<;>rcases g2 with ⟨c,d⟩|⟨c,d⟩
    ·omega
    ·rw[b];exact(ac (x:=m) hi d ab:m.key≠_)
    ·rw[d];exact(ac (y:=m) b hi ab:_≠m.key)
    ·exact ac b d ab
   ·obtain⟨j,hj⟩:=List.mem_iff_getElem?.1 hx;rcases ag hj with ⟨a,b⟩|⟨a,b⟩
    ·have:x.key=n.key:=by rw[b];exact hk
     rw[this,b,em]
    ·rw[od (.inr fun e=>ac hi b ab (by rw[hk,e]))];exact h.node x (aaV b)
   ·have put:∀y∈out,∃z∈out.set i { m with kids:=m.kids++n.kids,cond:=m.cond.or n.cond },z.key=y.key:=fun y hy=>by
     obtain⟨j,hj⟩:=List.mem_iff_getElem?.1 hy;by_cases e:j=i
     ·subst e;rw[hi]at hj;cases hj
      exact⟨{ m with kids:=m.kids++n.kids,cond:=m.cond.or n.cond },List.mem_iff_getElem?.2 ⟨j,List.getElem?_set_self am⟩,rfl⟩
     ·exact⟨y,List.mem_iff_getElem?.2 ⟨j,by rw[List.getElem?_set_ne (fun e2=>e e2.symm)];exact hj⟩,rfl⟩
    rcases List.mem_append.1 hx with e|e
    ·obtain⟨y,hy,a3⟩:=h.has x e aa;obtain⟨z,hz,ao⟩:=put y hy;exact⟨z,hz,ao.trans a3⟩
    ·rw[List.mem_singleton.1 e];obtain⟨z,hz,ao⟩:=put m hm;exact⟨z,hz,ao.trans hk⟩
   ·obtain⟨j,hj⟩:=List.mem_iff_getElem?.1 hx;rcases ag hj with ⟨a,b⟩|⟨a,b⟩
    ·exact⟨n,aav _ (.head _),aj,by rw[b];exact hk.symm⟩
    ·obtain⟨y,hy,k⟩:=h.from' x (aaV b);exact⟨y,aau _ hy,k⟩
  ·have al:∀m∈out,m.key≠n.key:=fun m hm e=>aS ⟨m,hm,e⟩;rw[sE al];have emine:fY n.key n=true:=by simp[fY,aj]
   have ak:∀x∈p,x.cond≠ff->x.key≠n.key:=fun x hx aa e=>by
    obtain⟨m,hm,a4⟩:=h.has x hx aa;exact al m hm (a4.trans e)
   obtain⟨c1,c2⟩:=DW ak;refine⟨List.pairwise_append.2 ⟨h.dist,aaW _ _,fun a ha b hb=>by rw[List.mem_singleton.1 hb];exact al a ha⟩,fun m hm=>?_,fun x hx aa=>?_,fun m hm=>?_⟩
   ·rcases List.mem_append.1 hm with e|e
    ·rw[od (.inr fun e2=>al m e e2.symm)];exact h.node m e
    ·rw[List.mem_singleton.1 e];unfold gB;rw[oW,pz,aaq emine,aaq emine,c1,c2,VL hn,aaA];cases n;rfl
   ·rcases List.mem_append.1 hx with e|e
    ·obtain⟨m,hm,k⟩:=h.has x e aa;exact⟨m,aau _ hm,k⟩
    ·exact⟨n,aav _ (.head _),by rw[List.mem_singleton.1 e]⟩
   ·rcases List.mem_append.1 hm with e|e
    ·obtain⟨x,hx,k⟩:=h.from' m e;exact⟨x,aau _ hx,k⟩
    ·exact⟨n,aav _ (.head _),aj,by rw[List.mem_singleton.1 e]⟩
def HX.of{l:List Nd}(h:∀n∈l,n.cond.ok 0):∀i,i<=l.length->HX (l.take i) ((l.take i).foldl vK [])
 |0,_=>HX.nil
 |i+1,hi=>by
  have aa:i<l.length:=by omega
  rw[aaM aa,abM];exact(HX.of h i ab).step (h _ (List.getElem_mem aa))
def yx(d:Nat)(l:List Nd):mL (d+1) l=((ks l).map (gB l)).map fun m=>{ m with kids:=mL d m.kids }:=by
 rw[mL,aas];rfl
def Ni:∀(K:List qT) (l:List Nd),K.Pairwise (fun a b=>a≠b)->(∀k∈K,∃n∈l,n.key=k/\n.cond≠ff)->du (K.map (gB l))<=du l
 | [],l,_,_=>aaL _
 |k::K,l,h,ac=>by
  have h2:=List.pairwise_cons.1 h;obtain⟨n0,ag,aj,ak⟩:=ac k (.head _);have e1:∀(l:List Nd),du l=du (l.filter fun n=>decide (n.key=k))+du (l.filter fun n=>!decide (n.key=k)):=fun l=>by
   induction l with
   |nil=>rfl
   |cons n l ih=>cases hn:decide (n.key=k)<;>simp[aby,hn,bp]<;>omega
  have e2:∀(l:List Nd),du (cZ l k)+((l.filter (fY k)).length)<=du (l.filter fun n=>decide (n.key=k)):=fun l=>by
   induction l with
   |nil=>exact ZR _
   |cons n l ih=>
    unfold cZ at ih |-;by_cases hn:n.key=k
    ·by_cases hc:n.cond=ff
     ·have m1:fY k n=false:=by simp[fY,hc]
      simp only[aby,m1,hn,decide_true,ZT,aa5,Z2,bp];omega
     ·have m1:fY k n=true:=by simp[fY,hn,hc]
      simp only[aby,m1,hn,decide_true,ZT,abg,io,aaj,bp];omega
    ·have m1:fY k n=false:=by simp[fY,hn]
     simp only[aby,m1,hn,decide_false,aa5,Z2];exact ih
  have e3:1<=(l.filter (fY k)).length:=by
   have:n0∈l.filter (fY k):=List.mem_filter.2 ⟨ag,by simp[fY,aj,ak]⟩;exact List.length_pos_of_mem this
  have e4:∀k'∈K,cZ (l.filter fun n=>!decide (n.key=k)) k'=cZ l k':=fun k' aa=>by
   unfold cZ;rw[List.filter_filter];congr 1;refine List.filter_congr fun n _=>?_;have:=h2.1 k' aa;by_cases e:n.key=k'
   ·have h3:n.key≠k:=fun e2=>this (e2.symm.trans e);simp[fY,e,show k'≠k from fun e2=>this e2.symm]
   ·simp[fY,e]
  have h5:=Ni K (l.filter fun n=>!decide (n.key=k)) h2.2 fun k' aa=>by
   obtain⟨n,hn,hk,hc⟩:=ac k' (.tail _ aa);refine⟨n,List.mem_filter.2 ⟨hn,?_⟩,hk,hc⟩;have:=h2.1 k' aa;rw[hk];simp only[aay,abp];exact fun e=>this e.symm
  have e5:du (K.map (gB l))=du (K.map (gB (l.filter fun n=>!decide (n.key=k)))):=by
   clear h5 h h2 ac
   induction K with
   |nil=>rfl
   |cons x K ih=>
    rw[aaU,aaU,bp,bp,ih fun k' aa=>e4 k' (.tail _ aa)];show du (cZ l x)+1+_=du (cZ _ x)+1+_;rw[e4 x (.head _)]
  have e6:=e1 l;have e7:=e2 l;rw[aaU,bp,e5];show du (cZ l k)+1+_<=_;omega
def GK{f:List Nd->List Nd}:∀{L:List Nd},(∀n∈L,du (f n.kids)<=du n.kids)->du (L.map fun m=>{ m with kids:=f m.kids })<=du L
 | [],_=>ZR _
 |n::L,h=>by
  rw[aaU,bp,bp];have h1:=h n (.head _);have h2:=GK (f:=f) (L:=L) fun m hm=>h m (.tail _ hm);show du (f n.kids)+1+_<=_;omega
def Hu(l:List Nd):(ks l).Pairwise (fun a b=>a≠b):=(eV jZ _).imp fun{a b} h e=>by rw[e,jZ.irr]at h;cases h
def Af(l:List Nd):du ((ks l).map (gB l))<=du l:=Ni _ l (Hu l) fun k hk=>by
 obtain⟨n,h1,h2,h3⟩:=um.1 hk;exact⟨n,h1,h2,h3⟩
def HA:∀(d:Nat) (l:List Nd),du (mL d l)<=du l
 |0,l=>aaL _
 |d+1,l=>by
  rw[yx];exact ZS (GK fun n _=>HA d n.kids) (Af l)
def BH(c:bP):∀(l:List Nd),du (pL c l)<=du l
 | []=>ZR _
 |⟨k,t,o,s,ks,e⟩::l=>by
  have h1:=BH c ks;have h2:=BH c l;rw[cM];split
  ·rw[bp,bp];show du (pL c ks)+1+_<=du ks+1+_;omega
  ·rw[bp];omega
end Syn
namespace Go.Proofs.YtfaclfkpnmcmlaaGreatDoor
open Go Go.Sx Dg Syn
def K8:aO Tryz.prog 79:=⟨_,Tryz.func79,rfl,rfl⟩
variable{n:Nat}
def Pm(h:n<=maxLen):IntKind.i64.wrap (n:Int)=(n:Int):=by
 unfold maxLen at h;simp only[IntKind.wrap,show IntKind.bits .i64=64 from rfl,show IntKind.signed .i64=true from rfl];simp;omega
variable{i:Nat}
def we{c:Nat}{a:Option Addr}(hC:sB (.slice a n c))(hi:i<n):IntKind.i64.wrap ((i:Int)+1)=((i+1:Nat):Int):=by
 have h:n<=c/\(0<n->c<=maxLen):=hC;have h2:=h.2 ab;have:=Pm (n:=i+1) ab;rw[<-this];congr 1
def sZ(w:T):∀a b:List Nd,nX w (a++b)=nX w a++nX w b
 | [],b=>rfl
 |n::a,b=>by
  rw[aaz,qe,qe,sZ w a b];split<;>rfl
def Bz(w:T)(n:Nd):nX w [n]=if n.cond.and w=ff then []else [{ n with kids:=nX (n.cond.and w) n.kids,cond:=n.cond.and w }]:=by
 rw[qe];rfl
variable{α:Type}
def db{l:List α}{n:α}(h:l[i]?=some n):l.take (i+1)=l.take i++[n]:=by
 rw[List.take_add_one,h];rfl
def CM(w:T)(i:Nat)(l:List Nd):du (nX w (l.take i))<=du (nX w l):=by
 conv=>rhs;rw[<-abq i l]
 rw[sZ,io];omega
def Ve(vl:Value)(n:Nat)(wa:Option Addr)(wk:Nat)(w:T)(x:Nat×Value):St:=⟨dn 35 [(3,.p 3 0),(5,.v x.2),(8,.v vl),(9,.v (iv n)),(10,.v (iv x.1))],[⟨3,50,[sD wa wk w,rD w]⟩]⟩
def Zk(l:List Nd)(w:T)(I0:PH)(x:Nat×Value)(H:PH):Prop:=∃I A,H=U [I,A]/\Dj [I,A]/\I0.le I/\x.1<=l.length/\bQ I A x.2 (nX w (l.take x.1))
theorem Jb:∀(m:Nat) {I:PH} {v vw:Value} {l:List Nd} {w:T},du l<m->eE I v l->sB v->cX I vw w->du (nX w l)<=aN->
  aK Tryz.prog 79 #[v,vw] I [] fun r I2 qs=>∃A,qs=[A]/\bQ I2 A r (nX w l):=by
 intro m
 induction m with
 |zero=>intro I v vw l w hm;omega
 |succ m ih=>
 intro I v vw l w hm hS hC hW hz hd;obtain⟨va,vc,rfl,_⟩:=id hS;obtain⟨wa,wk,rfl⟩:=hW.shape2;unfold aN at hz;refine ah 35 Tryz.func79 fun w0=>?_
 try simp only[iv,sD,rD]
 refine aT ?_;refine aR hd fun b1=>?_;refine aA (fun x=>l.length-x.1) (Ve (.slice va l.length vc) l.length wa wk w) (Zk l w I) (0,.slice none 0 0) Tp (by simp only[go_sem,aa6,Ve,iv,sD,rD]) ?_ ?_
 ·exact⟨I,PH.no,rfl,b1,abW _,aaL _,Ow.nil _ _ _ _⟩
 rintro⟨i,vo⟩ H ⟨I1,A1,rfl,a7,ac,hi,hA⟩ ag;simp only at hi hA;simp only[Ve];obtain⟨oa,oc,rfl⟩:=hA.shape;rcases aaf i l.length with ao|cb
 ·have ba:decide ((i:Int)<(l.length:Int))=true:=by simp;omega
  have bd:=we hC ao;obtain⟨n,hn⟩:∃n,l[i]?=some n:=⟨_,aak ao⟩;obtain⟨b,off,cs,rfl,b2,am⟩:=Sl.load bm.len (eE.le hS ac) hn;obtain⟨vk,na,nk,rfl,a2,aj,a9⟩:=b2.shape;obtain⟨ka,kc,rfl,_⟩:=id aj;have b8:=oG (aaV hn);have a1:=CM w (i+1) l;rw[db hn,sZ,io]at a1;have ca:=iI (nX w (l.take i));apply RG;simp only[go_sem,ba,iv,sD,rD];refine⟨ab,?_⟩;refine XN (l:=[.int .u8 n.kind,.string ⟨⟨n.text⟩⟩,.int .i64 n.tok,.int .i64 n.slot,.slice ka n.kids.length kc,sD na nk n.cond,rD n.cond]) (v:=.agg #[.int .u8 n.kind,.string ⟨⟨n.text⟩⟩,.int .i64 n.tok,.int .i64 n.slot,.slice ka n.kids.length kc,sD na nk n.cond,rD n.cond]) rfl (cellsU a7 (.head _) am) (.inl ⟨cL,rfl⟩) ?_;refine lY ?_;refine ad a7 [0] [] [A1] rfl kK rfl (oQ a2 (hW.le ac)) fun v I3 qs a6 aa hq=>?_;obtain⟨rfl,an⟩:=hq;obtain⟨za,zk,rfl⟩:=an.shape2;simp only[Z3]at a6 |-;refine lY ?_;refine WZ rfl jt (gO an) fun v H2 hv=>?_;obtain⟨rfl,rfl⟩:=hv;cases aq:decide (n.cond.and w=.lf false)
  ·have bb:n.cond.and w≠ff:=by simpa using aq
   rw[Bz,ZV bb,bp,dJ]at a1;simp only at a1;apply RG;simp only[go_sem,iv,sD,rD,aq,abK];refine ad a6 [0] [] [A1] rfl K8 rfl (ih (w:=n.cond.and w) ab (eE.le aj aa) a9 an (by unfold aN;omega)) fun v I4 qs bc a4 hq=>?_;obtain⟨K,rfl,hK⟩:=hq;simp only[Z3]at bc |-;obtain⟨qa,qc,rfl⟩:=hK.shape;have b5:=hK.capN bm.len;refine bf bc [0,1] fun a5=>?_;refine ae a5 fun I5 a5 al b6=>?_;have b4:eE I5 (.slice qa (nX (n.cond.and w) n.kids).length qc) (nX (n.cond.and w) n.kids):=bQ.sl hK al b6;refine lY ?_;refine ax a5 (by exact dQ) rfl rfl rfl rfl rfl bg fun nb I6 b0 ak bx=>?_;have aS:=abV a4 (abV al ak);have b3:eE I6 (.slice (some ⟨nb,0,none⟩) 1 1) [{ n with kids:=nX (n.cond.and w) n.kids,cond:=n.cond.and w }]:=iJ (az bx (by simp[aD,Value.cells]) (by simp[aD,Value.cells,iv,sD,rD])) (bm.mk (n:={ n with kids:=nX (n.cond.and w) n.kids,cond:=n.cond.and w }) (an.le aS) (eE.le b4 ak) b5);refine lY ?_;refine bl b0 (by exact dQ) (bQ.le hA (abV aa aS)) (b3) (fun{I J c a} h k=>bm.le h k) (fun{I} c a h=>bm.len c a h) (fun{I} c a h=>bm.ones h) rfl rfl rfl rfl (by first|omega|(simp only[aaj,aaO];omega)) (by unfold maxLen;first|omega|(simp only[aaj,aaO];omega)) fun ua uc I7 A7 bF a3 b7=>?_;apply RG;simp only[go_sem,iv,sD,rD,bd];have bs:=abV ac (abV aa (abV aS a3));exact ag (i+1,.slice ua (nX w (l.take i)++[{ n with kids:=nX (n.cond.and w) n.kids,cond:=n.cond.and w }]).length uc) _ _ dt Tp (by simp only[go_sem,aa6,Ve,iv,sD,rD]) ⟨I7,A7,rfl,bF,bs,ao,by simp only;rw[db hn,sZ,Bz,ZV bb];exact b7⟩
  ·have bC:n.cond.and w=ff:=by simpa using aq
   apply RG;simp only[go_sem,iv,sD,rD,aq,abQ,bd];exact ag (i+1,.slice oa (nX w (l.take i)).length oc) _ _ dt Tp (by simp only[go_sem,aa6,Ve,iv,sD,rD]) ⟨I3,A1,rfl,a6,abV ac aa,ao,by simp only;rw[db hn,sZ,Bz,aaq bC,aa6];exact bQ.le hA aa⟩
 ·have:i=l.length:=by omega
  subst this;have ba:=Z6 l.length;apply RG;simp only[go_sem,ba,iv,sD,rD];exact af rfl a7 (r:=[_]) rfl ac ⟨A1,rfl,by rw[aaS]at hA |-;exact hA⟩
def EO:aO Tryz.prog 21:=⟨_,Tryz.func21,rfl,rfl⟩
def HB:aO Tryz.prog 69:=⟨_,Tryz.func69,rfl,rfl⟩
def xC(_:PH)(c:List Value)(x:Nat×Nat):Prop:=c=[.int .u32 x.1,.int .u32 x.2]/\x.1<2^32/\x.2<2^32
abbrev Ch(I:PH)(v:Value)(l:List (Nat×Nat)):Prop:=Sl xC I v l
variable{I:PH}
def xC.len(c:List Value)(x:Nat×Nat)(h:xC I c x):c.length=2:=by rw[h.1];rfl
def Ch.le{J:PH}{v:Value}{l:List (Nat×Nat)}(h:Ch I v l)(k:I.le J):Ch J v l:=Sl.le (R:=xC) (fun{I J c a} h k=>h) h k
def df{l:List α}{n:α}(h:l[i]?=some n):l.take (i+1)=l.take i++[n]:=by
 rw[List.take_add_one,h];rfl
def pR(u:Nat):Nat->Nat
 |0=>0
 |i+1=>pR u i+(u.testBit i).toNat
def NA(u:Nat){j:Nat}(h:i<=j):pR u i<=pR u j:=by
 induction h with
 |refl=>exact ZR _
 |step _ ih=>exact ZS ih (Nat.le_add_right _ _)
def Xi(u i:Nat):(u >>> i)&&&1=(u.testBit i).toNat:=by
 rw[Nat.and_one_is_mod,Nat.testBit_eq_decide_div_mod_eq,abs];have:=Nat.mod_two_eq_zero_or_one (u / 2^i);rcases this with h|h<;>simp[h]
def UC{u:Nat}(hu:u<2^32)(hi:i<=32):tN .u32 (ut .u32 (u:Int) (i:Int)) 1=(((u.testBit i).toNat:Nat):Int):=by
 rw[Gj hi,<-Xi];exact mf (b:=1) (AL hu) bg
def Q0:aO Tryz.prog 154:=⟨_,Tryz.func154,rfl,rfl⟩
def On:aO Tryz.prog 150:=⟨_,Tryz.func150,rfl,rfl⟩
def Oa:aO Tryz.prog 254:=⟨_,Tryz.func254,rfl,rfl⟩
def P2:aO Tryz.prog 190:=⟨_,Tryz.func190,rfl,rfl⟩
def QB:aO Tryz.prog 239:=⟨_,Tryz.func239,rfl,rfl⟩
def Oq:aO Tryz.prog 157:=⟨_,Tryz.func157,rfl,rfl⟩
def WN(s:bq)(x:Nat×Nat):St:=⟨dn 44 [(0,.v (.string ⟨⟨s⟩⟩)),(3,.v (iv x.2)),(4,.v (iv x.1))],[]⟩
variable{c:UInt8}{s:bq}
def Kw(h:s[i]?=some c):En 0 (s.take (i+1))=10*En 0 (s.take i)+(c.toNat-48):=by rw[df h,Cc]
def Nn:∀(s:bq) (n:Nat),mJ s=true->En n s<(n+1)*10^s.length
 | [],n,_=>by show n<(n+1)*1;omega
 |c::s,n,h=>by
  simp only[mJ,List.all_cons,aao]at h;have hc:=lZ.1 h.1;have:=Nn s (10*n+(c.toNat-48)) h.2;rw[aaj,abd];refine Nat.lt_of_lt_of_le this ?_;have e:(n+1)*(10^s.length*10)=((n+1)*10)*10^s.length:=by rw[Nat.mul_comm (10^s.length) 10,Nat.mul_assoc]
  rw[e];exact aaQ _ ab
def Wf(h:n<256):IntKind.u8.wrap (n:Int)=(n:Int):=by
 simp only[IntKind.wrap,show IntKind.bits .u8=8 from rfl,show IntKind.signed .u8=false from rfl];have:(n:Int) % (2^8:Int)=(n:Int):=abm ab ab;simpa using this
def EW(s:bq)(hl:s.length<2^60)(H:PH):bO Tryz.prog 154 #[.string ⟨⟨s⟩⟩] H fun v H2=>v=.bool (vH s)/\H2=H:=by
 refine ah 44 Tryz.func154 fun w0=>?_;cases h1:decide ((s.length:Int)<1)
 rotate_left
 ·have hz:vH s=false:=by
   have:decide (1<=s.length)=false:=abT (by have:=abl h1;omega);simp only[vH,this,Bool.false_and]
  apply RG;simp only[go_sem,bi,h1];exact aJ (r:=[_]) rfl ⟨by rw[hz];rfl,rfl⟩
 have ao:=abN h1;have k1:decide (1<=s.length)=true:=abU ab;cases h2:decide ((s.length:Int)>10)
 rotate_left
 ·have hz:vH s=false:=by
   have:decide (s.length<=10)=false:=abT (by have:=abl h2;omega);simp only[vH,this,Bool.and_false,Bool.false_and]
  apply RG;simp only[go_sem,bi,h1,h2];exact aJ (r:=[_]) rfl ⟨by rw[hz];rfl,rfl⟩
 have a2:=abN h2;have k2:decide (s.length<=10)=true:=abU ab;have an:s[0]?=some (s.getD 0 0):=by
  cases s with
  |nil=>simp at ao
  |cons c t=>rfl
 have ak:=jn an;have fin:∀(b:Bool),(decide (1<s.length) && (bZ (s.getD 0 0) == 48))=b->vH s=(!b && (mJ s && decide (En 0 s<=2147483647))):=fun b hb=>by
  simp only[vH,k1,k2,hb,Bool.true_and,Bool.and_assoc]
 have a1:(0:Int)<=0/\(0:Int)<(s.length:Int):=⟨ab,ab⟩;cases h3:decide ((s.length:Int)>1)
 rotate_left
 cases h4:(bZ (s.getD 0 0) == 48)
 rotate_left
 ·have hz:vH s=false:=by
   rw[fin true (by rw[h4,abU (by have:=abl h3;omega)];rfl)];rfl
  apply RG;simp only[go_sem,bi,h1,h2,h3,Int.toNat_zero,ak,h4];refine⟨ab,?_⟩;exact aJ (r:=[_]) rfl ⟨by rw[hz];rfl,rfl⟩
 rotate_left
 have hz:=fin false (by rw[h4,Bool.and_false]);apply RG;simp only[go_sem,bi,h1,h2,h3,Int.toNat_zero,ak,h4];refine⟨ab,?_⟩
 rotate_left
 have hz:=fin false (by rw[abT (by have:=abN h3;omega),Bool.false_and]);apply RG;simp only[go_sem,bi,h1,h2,h3]
 all_goals
  rw[abK,Bool.true_and]at hz;rw[hz];refine aA (fun x=>s.length-x.1) (WN s) (fun x H3=>H3=H/\x.1<=s.length/\x.2=En 0 (s.take x.1)/\mJ (s.take x.1)=true) (0,0) bM (by simp only[go_sem,aa6,WN]) ⟨rfl,aaL _,rfl,rfl⟩ ?_;rintro⟨i,n⟩ H3 ⟨rfl,hi,hn,ha⟩ aa;simp only at hi hn ha;simp only[WN];have am:=Nn (s.take i) 0 ha;have hp:(0+1)*10^(s.take i).length<=10^10:=by
   rw[ZZ,abj];exact abe bg (by rw[abF];omega)
  have e10:(10:Nat)^10=10000000000:=by decide
  rw[<-hn]at am;rcases aaf i s.length with ac|aq
  ·have h7:decide ((i:Int)<(s.length:Int))=true:=abU ab;obtain⟨c,hc⟩:∃c,s[i]?=some c:=⟨_,aak ac⟩;have hb:=jn hc;have al:mJ (s.take (i+1))=(lw (bZ c) && mJ (s.take i)):=by
    rw[df hc];unfold mJ;rw[List.all_append,Bool.and_comm];simp
   apply RG;simp only[go_sem,iv,bi,h7,hb];refine⟨by (try simp only[bi]);omega,?_⟩;refine WZ rfl AY (AV _ _) fun v H2 hv=>?_;obtain⟨rfl,rfl⟩:=hv;cases ag:lw (bZ c)
   ·have aj:mJ s=false:=by
     unfold mJ;rw[List.all_eq_false];exact⟨c,aaV hc,by rw[ag];decide⟩
    apply RG;simp only[go_sem,abK];exact aJ (r:=[_]) rfl ⟨by rw[aj];rfl,rfl⟩
   ·have aS:=lZ.1 ag;have e1:IntKind.i64.wrap ((i:Int)+1)=((i+1:Nat):Int):=by rw[<-wrap64 (n:=i+1) ab];congr 1
    have e2:IntKind.i64.wrap (10*(n:Int))=((10*n:Nat):Int):=by rw[<-wrap64 (n:=10*n) ab];congr 1
    have e3:IntKind.u8.wrap (bZ c-48)=((c.toNat-48:Nat):Int):=by
     unfold bZ;have:(c.toNat:Int)-48=((c.toNat-48:Nat):Int):=by omega
     rw[this];exact Wf ab
    have e4:IntKind.i64.wrap (((c.toNat-48:Nat):Int))=((c.toNat-48:Nat):Int):=wrap64 ab;have e5:IntKind.i64.wrap (((10*n:Nat):Int)+((c.toNat-48:Nat):Int))=((10*n+(c.toNat-48):Nat):Int):=by rw[<-wrap64 (n:=10*n+(c.toNat-48)) ab];congr 1
    apply RG;simp only[go_sem,iv,bi,abQ,hb,e1,e2,e3,e4,e5]
    try refine⟨by (try simp only[bi]);omega,?_⟩
    exact aa (i+1,10*n+(c.toNat-48)) _ _ dt bM (by simp only[go_sem,aa6,WN]) ⟨rfl,ac,by simp only;rw[Kw hc,hn],by rw[al,ag,ha];rfl⟩
  ·have:i=s.length:=by omega
   subst this;have h7:=Z6 s.length;rw[aaS]at ha hn;have h8:decide ((n:Int)<=2147483647)=decide (n<=2147483647):=by congr 1;exact propext ⟨fun h=>by omega,fun h=>by omega⟩
   apply RG;simp only[go_sem,iv,bi,h7,h8];exact aJ (r:=[_]) rfl ⟨by rw[ha,<-hn];rfl,rfl⟩
def vN:List bq:=[[60,61],[62,61],[61,61],[33,61],[38,38],[124,124]]
def Fv:bq:=[43,45,42,47,37,60,62,61,33,40,41,123,125,44,59,58]
def pd(s:bq):bq:=match vN.find? fun t=>decide (2<=s.length) && (s.take 2 == t)with
 |some t=>t
 |none=>match Fv.find? fun c=>decide (1<=s.length) && (s.getD 0 0 == c)with
  |some _=>s.take 1
  |none=>[]
def SR:∀t∈vN,t∈f4:=by decide
def TE:∀c∈Fv,[c]∈f4:=by decide
def OS:∀s∈f4,pd s=s:=by decide
def Ql(s:bq):(!(s == []) && (pd s == s))=f4.contains s:=by
 rw[Bool.eq_iff_iff];constructor
 ·intro h;simp only[aao,aay,abS,beq_iff_eq]at h;obtain⟨h0,h⟩:=h;rw[List.contains_iff_mem];unfold pd at h;split at h
  ·rename_i t ht;rw[<-h];exact SR t (List.mem_of_find?_eq_some ht)
  ·split at h
   ·rename_i c hc;have h1:=List.find?_some hc;have h2:=List.mem_of_find?_eq_some hc;simp only[aao,aaC,beq_iff_eq]at h1;cases s with
    |nil=>exact absurd rfl h0
    |cons d t=>
     have e:d=c:=h1.2;subst e;rw[<-h];exact TE d h2
   ·exact absurd h.symm h0
 ·intro h;have h:=List.contains_iff_mem.1 h;rw[OS s h];have:=Ci s h;simp[this]
def KU(s:bq)(nb i:Nat):St:=⟨dn 45 [(0,.v (.string ⟨⟨s⟩⟩)),(2,.v (.string ⟨⟨[]⟩⟩)),(3,.v (.slice (some ⟨nb,0,none⟩) 6 6)),(4,.v (iv i))],[]⟩
def KW(s:bq)(i:Nat):St:=⟨dn 45 [(0,.v (.string ⟨⟨s⟩⟩)),(2,.v (.string ⟨⟨[]⟩⟩)),(5,.v (iv i))],[]⟩
def pq{I:PH}:∀l:List bq,LR (vC I) (l.map fun x=>Value.string ⟨⟨x⟩⟩) l
 | []=>rfl
 |x::l=>⟨[_],_,rfl,rfl,pq l⟩
def zg{l:List α}{P:α->Bool}{x:α}(hx:l[i]?=some x):(l.drop i).find? P=if P x then some x else (l.drop (i+1)).find? P:=by
 obtain⟨h,e⟩:=List.getElem?_eq_some_iff.1 hx;rw[aaK h,e,List.find?_cons];cases P x<;>rfl
theorem Sd(s:bq)(hl:s.length<2^60)(I:PH):aK Tryz.prog 150 #[.string ⟨⟨s⟩⟩] I [] fun v I2 qs=>qs=[]/\v=.string ⟨⟨pd s⟩⟩:=by
 intro hd;refine ah 45 Tryz.func150 fun w0=>?_;refine aT ?_;refine ax hd (by exact xi) rfl rfl rfl rfl rfl bg fun nb I1 al aj a1=>?_;have hS:MI I1 (.slice (some ⟨nb,0,none⟩) 6 6) vN:=⟨_,_,rfl,.inr ⟨nb,0,_,rfl,(az a1 (by simp[aD,Value.cells,vN]) (by simp[aD,Value.cells,vN]):aP I1 nb 0 (vN.map fun x=>.string ⟨⟨x⟩⟩)),pq vN⟩⟩;generalize hP:(fun t:bq=>decide (2<=s.length) && (s.take 2 == t))=P;generalize ao:(fun c:UInt8=>decide (1<=s.length) && (s.getD 0 0 == c))=P1;refine aT ?_;refine aA (fun x=>6-x) (KU s nb) (fun i H3=>H3=U [I1]/\i<=6/\(vN.drop i).find? P=vN.find? P) 0 bM (by simp only[go_sem,aa6,KU]) ⟨rfl,aaL _,rfl⟩ ?_;rintro i H3 ⟨rfl,hi,ha⟩ aa;simp only[KU];rcases aaf i 6 with ag|a4
 ·have h7:decide ((i:Int)<6)=true:=abU ab;have e1:IntKind.i64.wrap ((i:Int)+1)=((i+1:Nat):Int):=by rw[<-wrap64 (n:=i+1) ab];congr 1
  obtain⟨x,hx⟩:∃x,vN[i]?=some x:=⟨_,aak (show i<vN.length from ag)⟩;obtain⟨b,off,cs,e0,a5,ac⟩:=Sl.load (R:=vC) (fun{I} c a h=>vC.len (I:=I) c a h) hS hx;cases e0
  obtain rfl:cs=[.string ⟨⟨x⟩⟩]:=a5;rw[zg hx]at ha;have ak:P x=(decide (2<=s.length) && (s.take 2 == x)):=by rw[<-hP]
  apply RG;simp only[go_sem,iv,bi,h7];cases h2:decide ((s.length:Int)>=2)
  ·have:P x=false:=by rw[ak,abT (by have:=abN h2;omega),Bool.false_and]
   rw[this]at ha;refine eP [0,1,2,3,4,5,6,7,8,9,10,11] [9] [] ?_;apply au;simp only[go_sem,iv,bi,h2];refine aw ?_;apply RG;simp only[go_sem,iv,e1];exact aa (i+1) _ _ ab bM (by simp only[go_sem,aa6,KU]) ⟨rfl,ag,by simpa using ha⟩
  ·have aS:=abl h2;have k2:decide (2<=s.length)=true:=abU ab;refine eP [0,1,2,3,4,5,6,7,8,9,10,11] [9] [] ?_;apply au;simp only[go_sem,iv,bi,h2,oJ,Int.toNat_zero,Nat.sub_zero]
   try refine⟨ab,?_⟩
   refine W7 (l:=[.string ⟨⟨x⟩⟩]) rfl (cellsU al (.head _) (by simpa using ac)) (.inr ⟨tL,rfl⟩) ?_;cases h3:(s.take 2 == x)
   ·have:P x=false:=by rw[ak,h3,Bool.and_false]
    rw[this]at ha;apply au;simp only[go_sem,iv,h3];refine aw ?_;apply RG;simp only[go_sem,iv,e1];exact aa (i+1) _ _ ab bM (by simp only[go_sem,aa6,KU]) ⟨rfl,ag,by simpa using ha⟩
   ·have:P x=true:=by rw[ak,h3,k2];rfl
    rw[this]at ha;apply au;simp only[go_sem,iv,h3];refine aw ?_;refine dP ?_
    try refine⟨ab,?_⟩
    refine XN (l:=[.string ⟨⟨x⟩⟩]) rfl (cellsU al (.head _) (by simpa using ac)) (.inr ⟨tL,rfl⟩) ?_;refine dP ?_;have hr:pd s=x:=by
     unfold pd;rw[hP,<-ha];rfl
    exact af rfl al (r:=[_]) rfl aj ⟨rfl,by rw[hr];rfl⟩
 ·have:i=6:=by omega
  subst this;have hn:vN.find? P=none:=by rw[<-ha];rfl
  refine dP ?_;refine aA (fun x=>16-x) (KW s) (fun i H3=>H3=U [I1]/\i<=16/\(Fv.drop i).find? P1=Fv.find? P1) 0 bM (by simp only[go_sem,aa6,KW]) ⟨rfl,aaL _,rfl⟩ ?_;rintro i H3 ⟨rfl,hi,hb⟩ aa;simp only[KW];rcases aaf i 16 with ag|a4
  ·have h7:decide ((i:Int)<16)=true:=abU ab;have e1:IntKind.i64.wrap ((i:Int)+1)=((i+1:Nat):Int):=by rw[<-wrap64 (n:=i+1) ab];congr 1
   obtain⟨x,hx⟩:∃x,Fv[i]?=some x:=⟨_,aak (show i<Fv.length from ag)⟩;have a7:=jn hx;rw[zg hx]at hb;have ak:P1 x=(decide (1<=s.length) && (s.getD 0 0 == x)):=by rw[<-ao]
   apply RG;simp only[go_sem,iv,bi,h7];have am:((xW ⟨#[43,45,42,47,37,60,62,61,33,40,41,123,125,44,59,58]⟩ i:Nat):Int)=bZ x:=a7;have a3:(0:Int)<=(i:Int)/\(i:Int)<16:=⟨ab,ab⟩;cases h2:decide ((s.length:Int)>=1)
   ·have:P1 x=false:=by rw[ak,abT (by have:=abN h2;omega),Bool.false_and]
    rw[this]at hb;refine eP [0,1,2,3,4,5,6,7,8,9] [] [] ?_;apply au;simp only[go_sem,iv,bi,h2];refine aw ?_;apply RG;simp only[go_sem,iv,e1];exact aa (i+1) _ _ ab bM (by simp only[go_sem,aa6,KW]) ⟨rfl,ag,by simpa using hb⟩
   ·have aS:=abl h2;have k2:decide (1<=s.length)=true:=abU ab;have a6:s[0]?=some (s.getD 0 0):=by
     cases s with
     |nil=>simp at aS
     |cons c t=>rfl
    have aq:=jn a6;refine eP [0,1,2,3,4,5,6,7,8,9] [] [] ?_;have an:(bZ (s.getD 0 0) == bZ x)=(s.getD 0 0 == x):=by
     unfold bZ;rw[Bool.eq_iff_iff,beq_iff_eq,beq_iff_eq];constructor
     ·intro h;exact UInt8.toNat_inj.1 ab
     ·intro h;rw[h]
    cases h3:(s.getD 0 0 == x)
    ·rw[h3]at an;have:P1 x=false:=by rw[ak,h3,Bool.and_false]
     rw[this]at hb;apply au;simp only[go_sem,iv,bi,h2,Int.toNat_zero,aq,am,an]
     try refine⟨⟨ab,ab⟩,?_⟩
     refine aw ?_;apply RG;simp only[go_sem,iv,e1];exact aa (i+1) _ _ ab bM (by simp only[go_sem,aa6,KW]) ⟨rfl,ag,by simpa using hb⟩
    ·rw[h3]at an;have:P1 x=true:=by rw[ak,h3,k2];rfl
     rw[this]at hb;apply au;simp only[go_sem,iv,bi,h2,Int.toNat_zero,aq,am,an]
     try refine⟨⟨ab,ab⟩,?_⟩
     refine aw ?_;have hr:pd s=s.take 1:=by
      unfold pd;rw[hP,hn];simp only;rw[ao,<-hb];rfl
     apply RG;simp only[go_sem,iv,bi,oJ,Int.toNat_zero,Nat.sub_zero,aa1]
     try refine⟨ab,?_⟩
     exact af rfl al (r:=[_]) rfl aj ⟨rfl,by rw[hr];rfl⟩
  ·have:i=16:=by omega
   subst this;have a2:Fv.find? P1=none:=by rw[<-hb];rfl
   have hr:pd s=[]:=by
    unfold pd;rw[hP,hn];simp only;rw[ao,a2]
   refine dP ?_;exact af rfl al (r:=[_]) rfl aj ⟨rfl,by rw[hr];rfl⟩
def Ln(s:bq)(hl:s.length<2^60)(I:PH):aK Tryz.prog 254 #[.string ⟨⟨s⟩⟩] I [] fun v I2 qs=>qs=[]/\v=.bool (lI 3 s):=by
 intro hd;refine ah 11 Tryz.func254 fun w0=>?_;rw[Xb,<-Ql];cases h0:(s == [])
 rotate_left
 ·apply RG;simp only[go_sem,h0,abQ];exact af rfl hd (r:=[_]) rfl (abW _) ⟨rfl,rfl⟩
 apply RG;simp only[go_sem,h0,abK];refine bV hd rfl On (Sd s hl I) fun v I2 qs ac aa hq=>?_;obtain⟨rfl,rfl⟩:=hq;cases h2:(pd s == s)
 ·apply RG;simp only[go_sem,h2];exact af rfl ac (r:=[_]) rfl aa ⟨rfl,rfl⟩
 ·apply RG;simp only[go_sem,h2];exact af rfl ac (r:=[_]) rfl aa ⟨rfl,rfl⟩
def Ng{k:Nat}:((k:Int) == ((n:Nat):Int))=decide (k=n):=by
 by_cases h:k=n
 ·subst h;simp
 ·rw[abT h];simp;omega
def Mx(k:Nat)(s:bq)(v1 v2 v3 v4:Value)(hl:s.length<2^60)(I:PH):aK Tryz.prog 190 #[.agg #[.int .u8 k,.string ⟨⟨s⟩⟩,v1,v2,v3,v4]] I [] fun v I2 qs=>qs=[]/\v=.bool (lI k s):=by
 intro hd;refine ah 20 Tryz.func190 fun w0=>?_;have q1:((k:Int) == 1)=decide (k=1):=Ng (n:=1);have q2:((k:Int) == 2)=decide (k=2):=Ng (n:=2);have q3:((k:Int) == 3)=decide (k=3):=Ng (n:=3);by_cases h1:k=1
 ·subst h1;refine aT ?_;refine WZ rfl Pk (Lr s hl _) fun v H2 hv=>?_;obtain⟨rfl,rfl⟩:=hv;rw[Xp];refine aT ?_;exact af rfl hd (r:=[_]) rfl (abW _) ⟨rfl,rfl⟩
 by_cases h2:k=2
 ·subst h2;refine aT ?_;refine WZ rfl Q0 (EW s hl _) fun v H2 hv=>?_;obtain⟨rfl,rfl⟩:=hv;rw[XB,<-KA];refine aT ?_;exact af rfl hd (r:=[_]) rfl (abW _) ⟨rfl,rfl⟩
 by_cases h3:k=3
 ·subst h3;refine aT ?_;refine bV hd rfl Oa (Ln s hl I) fun v I2 qs ac aa hq=>?_;obtain⟨rfl,rfl⟩:=hq;refine aT ?_;exact af rfl ac (r:=[_]) rfl aa ⟨rfl,rfl⟩
 rw[abT h1]at q1;rw[abT h2]at q2;rw[abT h3]at q3;apply RG;simp only[go_sem,q1,q2,q3];exact af rfl hd (r:=[_]) rfl (abW _) ⟨rfl,by rw[L6 h1 h2 h3];rfl⟩
def Ak(s:bq):∀(l:List bq) (i:Nat),decide (ss s i l>=0)=l.contains s:=by
 have key:∀(l:List bq) (i:Nat),ss s i l>=0<->s∈l:=by
  intro l
  induction l with
  |nil=>intro i;exact⟨fun h=>absurd h (by show ¬(-1:Int)>=0;omega),fun h=>(aaB h).elim⟩
  |cons x l ih=>
   intro i;show (if x=s then (i:Int)else ss s (i+1) l)>=0<->_;by_cases h:x=s
   ·rw[aaq h];exact⟨fun _=>by rw[h];exact .head _,fun _=>by omega⟩
   ·rw[ZV h,ih,aad];exact⟨.inr,fun k=>k.resolve_left fun e=>h e.symm⟩
 intro l i;rw[Bool.eq_iff_iff,aaC,key,List.contains_iff_mem]
def rP:List bq:=[lT,Gg,vM,oO,kT,dr,jG,iH,jU,ew,pH,mK,qX]
theorem S2(s:bq)(I:PH):aK Tryz.prog 239 #[.string ⟨⟨s⟩⟩] I [] fun v I2 qs=>qs=[]/\v=.bool (dG s):=by
 intro hd;refine ah 7 Tryz.func239 fun w0=>?_;refine aT ?_;refine ax hd (by exact xi) rfl rfl rfl rfl rfl bg fun nb I1 ac aa ag=>?_;have hS:MI I1 (.slice (some ⟨nb,0,none⟩) 13 13) rP:=⟨_,_,rfl,.inr ⟨nb,0,_,rfl,(az ag (by simp[aD,Value.cells,rP]) (by simp[aD,Value.cells,rP,lT,Gg,vM,oO,kT,dr,jG,iH,jU,ew,pH,mK,qX]):aP I1 nb 0 (rP.map fun x=>.string ⟨⟨x⟩⟩)),pq rP⟩⟩;refine aT ?_;refine WZ rfl GE (JM (Sl.le (R:=vC) (fun{I J c a} h k=>h) hS (cP ac)) s bg) fun v H2 hv=>?_;obtain⟨rfl,rfl⟩:=hv;have h1:decide (ss s 0 rP>=0)=dG s:=Ak s rP 0;apply RG;simp only[go_sem,h1];exact af rfl ac (r:=[_]) rfl aa ⟨rfl,rfl⟩
def j4:List (List bq):=[[xU],[nK],[wT,Si,Uc,TZ,S1,Ss],[ym,jS],[Fi,EG,FM]]
def Rg(I:PH)(c:List Value)(l:List bq):Prop:=∃v,c=[v]/\MI I v l
def Rg.len(c:List Value)(x:List bq)(h:Rg I c x):c.length=1:=by obtain⟨v,e,_⟩:=h;rw[e];rfl
def Rg.le{J:PH}{c:List Value}{x:List bq}(h:Rg I c x)(k:I.le J):Rg J c x:=by
 obtain⟨v,e,h⟩:=h;exact⟨v,e,Sl.le (R:=vC) (fun{I J c a} h k=>h) h k⟩
def DD(s:bq):Nat->List (List bq)->Int
 |_,[]=>-1
 |i,l::ls=>if l.contains s then i else DD s (i+1) ls
def N9(s:bq)(v:Value)(i:Nat):St:=⟨dn 25 [(0,.v (.string ⟨⟨s⟩⟩)),(3,.v v),(4,.v (iv i))],[]⟩
theorem QQ(s:bq)(I:PH):aK Tryz.prog 157 #[.string ⟨⟨s⟩⟩] I [] fun v I2 qs=>qs=[]/\v=.int .i64 (DD s 0 j4):=by
 intro hd;refine ah 25 Tryz.func157 fun w0=>?_;refine aT ?_;refine ax hd (by exact xi) rfl rfl rfl rfl rfl bg fun n1 I1 bc ag a6=>?_;have h1:MI I1 (.slice (some ⟨n1,0,none⟩) 1 1) [xU]:=⟨_,_,rfl,.inr ⟨n1,0,_,rfl,(az a6 (by simp[aD,Value.cells]) (by simp[aD,Value.cells,xU]):aP I1 n1 0 ([xU].map fun x=>.string ⟨⟨x⟩⟩)),pq _⟩⟩;refine aT ?_;refine ax bc (by exact xi) rfl rfl rfl rfl rfl bg fun n2 I2 bb aS a5=>?_;have h2:MI I2 (.slice (some ⟨n2,0,none⟩) 1 1) [nK]:=⟨_,_,rfl,.inr ⟨n2,0,_,rfl,(az a5 (by simp[aD,Value.cells]) (by simp[aD,Value.cells,nK]):aP I2 n2 0 ([nK].map fun x=>.string ⟨⟨x⟩⟩)),pq _⟩⟩;refine aT ?_;refine ax bb (by exact xi) rfl rfl rfl rfl rfl bg fun n3 I3 ba aq a4=>?_;have h3:MI I3 (.slice (some ⟨n3,0,none⟩) 6 6) [wT,Si,Uc,TZ,S1,Ss]:=⟨_,_,rfl,.inr ⟨n3,0,_,rfl,(az a4 (by simp[aD,Value.cells]) (by simp[aD,Value.cells,wT,Si,Uc,TZ,S1,Ss]):aP I3 n3 0 ([wT,Si,Uc,TZ,S1,Ss].map fun x=>.string ⟨⟨x⟩⟩)),pq _⟩⟩;refine aT ?_;refine ax ba (by exact xi) rfl rfl rfl rfl rfl bg fun n4 I4 a9 ao a3=>?_;have h4:MI I4 (.slice (some ⟨n4,0,none⟩) 2 2) [ym,jS]:=⟨_,_,rfl,.inr ⟨n4,0,_,rfl,(az a3 (by simp[aD,Value.cells]) (by simp[aD,Value.cells,ym,jS]):aP I4 n4 0 ([ym,jS].map fun x=>.string ⟨⟨x⟩⟩)),pq _⟩⟩;refine aT ?_;refine ax a9 (by exact xi) rfl rfl rfl rfl rfl bg fun n5 I5 a7 an a2=>?_;have h5:MI I5 (.slice (some ⟨n5,0,none⟩) 3 3) [Fi,EG,FM]:=⟨_,_,rfl,.inr ⟨n5,0,_,rfl,(az a2 (by simp[aD,Value.cells]) (by simp[aD,Value.cells,Fi,EG,FM]):aP I5 n5 0 ([Fi,EG,FM].map fun x=>.string ⟨⟨x⟩⟩)),pq _⟩⟩;refine aT ?_;refine ax a7 (by exact Wk) rfl rfl rfl rfl rfl bg fun n6 I6 ak am a1=>?_;have up:∀{I:PH} {v:Value} {l:List bq},MI I v l->I.le I6->MI I6 v l:=fun h k=>Sl.le (R:=vC) (fun{I J c a} h k=>h) h k;have k5:=am;have k4:=abV an k5
 have k3:=abV ao k4;have k2:=abV aq k3;have k1:=abV aS k2;have hS:Sl Rg I6 (.slice (some ⟨n6,0,none⟩) 5 5) j4:=⟨_,_,rfl,.inr ⟨n6,0,_,rfl,(az a1 (by simp[aD,Value.cells]) (by simp[aD,Value.cells]):aP I6 n6 0 [.slice (some ⟨n1,0,none⟩) 1 1,.slice (some ⟨n2,0,none⟩) 1 1,.slice (some ⟨n3,0,none⟩) 6 6,.slice (some ⟨n4,0,none⟩) 2 2,.slice (some ⟨n5,0,none⟩) 3 3]),⟨[_],_,rfl,⟨_,rfl,up h1 k1⟩,[_],_,rfl,⟨_,rfl,up h2 k2⟩,[_],_,rfl,⟨_,rfl,up h3 k3⟩,[_],_,rfl,⟨_,rfl,up h4 k4⟩,[_],_,rfl,⟨_,rfl,up h5 k5⟩,rfl⟩⟩⟩;clear h1 h2 h3 h4 h5 a6 a5 a4 a3 a2 a1;refine aT ?_;refine aA (fun x=>5-x) (N9 s (.slice (some ⟨n6,0,none⟩) 5 5)) (fun i H3=>H3=U [I6]/\i<=5/\DD s i (j4.drop i)=DD s 0 j4) 0 bM (by simp only[go_sem,aa6,N9]) ⟨rfl,aaL _,rfl⟩ ?_;rintro i H3 ⟨rfl,hi,ha⟩ aa;simp only[N9];rcases aaf i 5 with al|bx
 ·have h7:decide ((i:Int)<5)=true:=abU ab;have e1:IntKind.i64.wrap ((i:Int)+1)=((i+1:Nat):Int):=by rw[<-wrap64 (n:=i+1) ab];congr 1
  obtain⟨x,hx⟩:∃x,j4[i]?=some x:=⟨_,aak (show i<j4.length from al)⟩;obtain⟨b,off,cs,e0,⟨v,rfl,hv⟩,aj⟩:=Sl.load (R:=Rg) (fun{I} c a h=>Rg.len (I:=I) c a h) hS hx;cases e0
  obtain⟨xa,xc,rfl,_⟩:=id hv;have bs:x.length<=6:=by
   have:∀y∈j4,y.length<=6:=by decide
   exact this x (aaV hx)
  have bd:j4.drop i=x::j4.drop (i+1):=by
   have ac:i<j4.length:=al;rw[aaK ac];rw[aak ac]at hx;rw[aaZ hx]
  rw[bd]at ha;simp only[DD]at ha;apply RG;simp only[go_sem,iv,h7]
  try refine⟨ab,?_⟩
  refine XN (l:=[.slice xa x.length xc]) rfl (cellsU ak (.head _) (by simpa using aj)) (.inr ⟨Rr,rfl⟩) ?_;refine dP ?_;refine WZ rfl GE (JM (Sl.le (R:=vC) (fun{I J c a} h k=>h) hv (cP ak)) s ab) fun v H2 hv=>?_;obtain⟨rfl,rfl⟩:=hv;have hf:=Ak s x 0;cases hc:x.contains s
  ·rw[hc]at hf ha;rw[ZV bg]at ha;apply RG;simp only[go_sem,iv,hf,e1];exact aa (i+1) _ _ ab bM (by simp only[go_sem,aa6,N9]) ⟨rfl,al,ha⟩
  ·rw[hc]at hf ha;rw[aaq rfl]at ha;apply RG;simp only[go_sem,iv,hf];exact af rfl ak (r:=[_]) rfl (abV ag k1) ⟨rfl,by rw[<-ha];rfl⟩
 ·have:i=5:=by omega
  subst this;refine dP ?_;exact af rfl ak (r:=[_]) rfl (abV ag k1) ⟨rfl,by rw[<-ha];rfl⟩
def xm{α:Type}{p q:α->Bool}:∀{l:List α},(∀x∈l,p x=q x)->l.find? p=l.find? q
 | [],_=>rfl
 |x::l,h=>by
  rw[List.find?_cons,List.find?_cons,h x (List.mem_cons_self ..),xm (l:=l) fun y hy=>h y (List.mem_cons_of_mem _ hy)]
def zZ:∀t∈vN,t.length=2:=by decide
def BP:f4=vN++Fv.map fun c=>[c]:=by decide
def Ed:∀t∈f4,∀c∈t.head?,gu (bZ c)=false:=by decide
def ye(d:bq):(f4.find? fun x=>x.isPrefixOf d)=if pd d=[]then none else some (pd d):=by
 have e2:(vN.find? fun x=>x.isPrefixOf d)=vN.find? fun t=>decide (2<=d.length) && (d.take 2 == t):=by
  refine xm fun t ht=>?_;have hl:=zZ t ht;rw[Bool.eq_iff_iff,List.isPrefixOf_iff_prefix,List.prefix_iff_eq_take,hl];simp only[aao,aaC,beq_iff_eq];constructor
  ·intro h;refine⟨?_,h.symm⟩;have:=congrArg List.length h;rw[hl,abF]at this;omega
  ·exact fun h=>h.2.symm
 have e1:((Fv.map fun c=>[c]).find? fun x=>x.isPrefixOf d)=(Fv.find? fun c=>decide (1<=d.length) && (d.getD 0 0 == c)).map fun c=>[c]:=by
  rw[List.find?_map];congr 1;refine xm fun c hc=>?_;cases d with
  |nil=>rfl
  |cons a s=>simp[List.isPrefixOf,Bool.beq_comm (a:=c)]
 rw[BP,List.find?_append,e2,e1];unfold pd;cases h:vN.find? fun t=>decide (2<=d.length) && (d.take 2 == t)with
 |some t=>
  have:=zZ t (List.mem_of_find?_eq_some h);rw[ZV (by intro e;simp only at e;rw[e]at this;cases this)];rfl
 |none=>
  cases h1:Fv.find? fun c=>decide (1<=d.length) && (d.getD 0 0 == c)with
  |none=>simp
  |some c=>
   have h2:=List.find?_some h1;simp only[aao,aaC,beq_iff_eq]at h2;cases d with
   |nil=>exact absurd h2.1 bg
   |cons a s=>
    have e:a=c:=h2.2;subst e;simp
def wy(h:gu (bZ c)=true):(c::s).take (dE (c::s))=c::s.take (dE s):=by
 rw[dE,aaq h];rfl
def ub(h:gu (bZ c)=true):(f4.find? fun x=>x.isPrefixOf (c::s))=none:=by
 rw[List.find?_eq_none];intro t ht hp;have hp:=List.isPrefixOf_iff_prefix.1 hp;cases t with
 |nil=>exact Ci _ ht rfl
 |cons a t=>
  have e:=(List.cons_prefix_cons.1 hp).1;subst e;rw[Ed _ ht a rfl]at h;cases h
def Bo(h:gu (bZ c)=true)(hd:lw (bZ c)=true):fS (c::s)=if vH ((c::s).take (dE (c::s)))then (2,(c::s).take (dE (c::s)))else (0,[]):=by
 have h1:xJ ((c::s).take (dE (c::s)))=false:=by
  rw[wy h];simp[xJ,hd]
 unfold fS;rw[ub h,KA,ZV (by rw[h1];decide)]
def Ef(h:gu (bZ c)=true)(hd:lw (bZ c)=false):fS (c::s)=if xJ ((c::s).take (dE (c::s)))then (1,(c::s).take (dE (c::s)))else (0,[]):=by
 have h1:pw ((c::s).take (dE (c::s)))=false:=by
  rw[<-KA,wy h];simp[vH,mJ,hd]
 unfold fS;rw[ub h,ZV (c:=pw _=true) (by rw[h1];decide)]
def Cr(h:gu (bZ c)=false):fS (c::s)=if pd (c::s)=[]then (0,[])else (3,pd (c::s)):=by
 have hr:(c::s).take (dE (c::s))=[]:=by rw[dE,ZV (by rw[h];decide)];rfl
 unfold fS;rw[hr,ZV bg,ZV (by intro h;exact Gr h rfl),ye];split<;>rename_i x<;>split at x<;>simp_all
end Go.Proofs.YtfaclfkpnmcmlaaGreatDoor
