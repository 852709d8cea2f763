import Derived.Test.YtfaclfkpnmcmlaaGreatDoorS08
import Derived.Test.YtfaclfkpnmcmlaaGreatDoorS15
import Derived.MakeChecks
import Derived.OpenShut
set_option maxHeartbeats 8000000
set_option linter.all false
namespace Syn
open Dg
mutual
def Wg:Nd->Prop
 |⟨_,_,_,_,ks,d⟩=>d.ok 0/\d≠ff/\(∀m∈ks,Qw m.cond d)/\(ks.map Nd.key).Pairwise (fun a b=>E4 a b=true)/\Wk ks
def Wk:List Nd->Prop
 | []=>True
 |n::l=>Wg n/\Wk l
end
theorem U0{l:List Nd}:Wk l<->∀n∈l,Wg n:=by
 induction l with
 |nil=>simp[Wk]
 |cons n l ih=>simp[Wk,ih]
theorem UE(n:Nd):Wg n<->n.cond.ok 0/\n.cond≠ff/\(∀m∈n.kids,Qw m.cond n.cond)/\(n.kids.map Nd.key).Pairwise (fun a b=>E4 a b=true)/\Wk n.kids:=by cases n;rfl
def Wd(l:List Nd):Prop:=(l.map Nd.key).Pairwise (fun a b=>E4 a b=true)/\∀n∈l,Wg n
theorem UA{n:Nd}(h:Wg n):Wd n.kids:=⟨((UE n).1 h).2.2.2.1,U0.1 ((UE n).1 h).2.2.2.2⟩
theorem U2{l:List Nd}(h:Wd l){n m:Nd}(hn:n∈l)(hm:m∈l)(e:n.key=m.key):n=m:=by
 obtain⟨h1,h0⟩:=h;clear h0
 induction l with
 |nil=>exact(SW hn).elim
 |cons x l ih=>
  rw[Tf,Sv]at h1;have no:∀y∈l,y.key≠x.key:=fun y hy e=>by
   have:=h1.1 y.key (List.mem_map_of_mem hy);rw[e,jN.irr]at this;cases this
  rcases List.mem_cons.1 hn with a|a<;>rcases List.mem_cons.1 hm with b|b
  ·rw[a,b]
  ·subst a;exact absurd e.symm (no m b)
  ·subst b;exact absurd e (no n a)
  ·exact ih a b h1.2
theorem UQ{c:cg}{l:List Nd}{k:nL}:(∃x∈pL c l,x.key=k)<->∃n∈l,n.key=k/\n.cond.at' c=true:=by
 constructor
 ·rintro⟨x,hx,hk⟩;obtain⟨n,h1,h2,e⟩:=qg.1 hx;exact⟨n,h1,by rw[<-hk,e];rfl,h2⟩
 ·rintro⟨n,h1,h2,h3⟩;exact⟨_,qg.2 ⟨n,h1,h3,rfl⟩,h2⟩
theorem Vd{l m:List Nd}(h:Wd l)(k:Wd m)(e:l.map Nd.key=m.map Nd.key)(hp:∀x∈l,∀y∈m,x.key=y.key->x=y):l=m:=by
 induction l generalizing m with
 |nil=>
  cases m with
  |nil=>rfl
  |cons y m=>simp at e
 |cons x l ih=>
  cases m with
  |nil=>simp at e
  |cons y m=>
   simp only[Tf,TX]at e;have h1:=h.1;have k1:=k.1;rw[Tf,Sv]at h1 k1;rw[hp x (.head _) y (.head _) e.1,ih ⟨h1.2,fun n hn=>h.2 n (.tail _ hn)⟩ ⟨k1.2,fun n hn=>k.2 n (.tail _ hn)⟩ e.2 fun a ha b hb=>hp a (.tail _ ha) b (.tail _ hb)]
theorem Vs:∀(d:Nat) {l m:List Nd},eX l<=d->Wd l->Wd m->(∀c,pL c l=pL c m)->l=m
 |d,l,m,hd,hl,hm,he=>by
  have keys:∀{l m:List Nd},Wd l->(∀c,pL c l=pL c m)->∀k,k∈l.map Nd.key->k∈m.map Nd.key:=by
   intro l m hl he k hk;obtain⟨n,h1,h2⟩:=List.mem_map.1 hk;have hn:=(UE n).1 (hl.2 n h1);obtain⟨c,hc⟩:=T.some_of_ne hn.1 hn.2.1;obtain⟨x,hx,ac⟩:=UQ.2 ⟨n,h1,h2,hc⟩;rw[he c]at hx;obtain⟨y,h3,h4,_⟩:=UQ.1 ⟨x,hx,ac⟩;exact List.mem_map.2 ⟨y,h3,h4⟩
  refine Vd hl hm (kF jN hl.1 hm.1 fun k=>⟨keys hl he k,keys hm (fun c=>(he c).symm) k⟩) fun x hx y hy e=>?_;have nx:=(UE x).1 (hl.2 x hx);have ny:=(UE y).1 (hm.2 y hy);have hc:∀c,x.cond.at' c=y.cond.at' c:=by
   have one:∀{l m:List Nd} {x y:Nd},Wd m->(∀c,pL c l=pL c m)->x∈l->y∈m->x.key=y.key->∀c,x.cond.at' c=true->y.cond.at' c=true:=by
    intro l m x y hm he hx hy e c hc;obtain⟨z,hz,aa⟩:=UQ.2 ⟨x,hx,rfl,hc⟩;rw[he c]at hz;obtain⟨w,h3,h4,h5⟩:=UQ.1 ⟨z,hz,aa⟩;rw[U2 hm hy h3 (by rw[h4,e])];exact h5
   intro c;cases h1:x.cond.at' c with
   |true=>exact(one hm he hx hy e c h1).symm
   |false=>
    cases h2:y.cond.at' c with
    |false=>rfl
    |true=>rw[one hl (fun c=>(he c).symm) hy hx e.symm c h2]at h1;cases h1
  have ec:x.cond=y.cond:=T.ext nx.1 ny.1 hc;have ek:x.kids=y.kids:=by
   have dx:eX x.kids+1<=d:=by
    have:=o4 hx;rw[wi]at this;omega
   obtain⟨d',rfl⟩:∃d',d=d'+1:=⟨d-1,Vi⟩;refine Vs d' Vi (UA (hl.2 x hx)) (UA (hm.2 y hy)) fun c=>?_;cases h1:x.cond.at' c with
   |false=>
    rw[wJ fun n hn=>?_,wJ fun n hn=>?_]
    ·cases h2:n.cond.at' c with
     |false=>rfl
     |true=>exact absurd (ny.2.2.1 n hn c h2) (by rw[<-hc,h1];decide)
    ·cases h2:n.cond.at' c with
     |false=>rfl
     |true=>exact absurd (nx.2.2.1 n hn c h2) (by rw[h1];decide)
   |true=>
    have aj:({ x with kids:=pL c x.kids,cond:=tt }:Nd)∈pL c m:=by rw[<-he c];exact qg.2 ⟨x,hx,h1,rfl⟩
    obtain⟨n,h3,h4,h5⟩:=qg.1 aj;have hk:n.key=y.key:=by
     rw[<-e];have:=congrArg Nd.key h5;exact this.symm
    have:=U2 hm h3 hy hk;subst this;exact congrArg Nd.kids h5
  have:=e;cases x;cases y
  simp only[Nd.key,nL.mk.injEq]at e;simp only at ec ek;simp[e,ec,ek]
theorem VK{n:Nd}(h:wN n):∀m∈n.kids,Qw m.cond n.cond:=fun m hm=>(AR.1 ((KR n).1 h) m hm).1
theorem U9:∀(d:Nat) {l:List Nd},fX l->(∀n∈l,wN n)->Wd (kH d l)
 |0,_,_,_=>⟨List.Pairwise.nil,fun n hn=>(SW hn).elim⟩
 |d+1,l,ho,hw=>by
  have hk:(kH (d+1) l).map Nd.key=ks l:=by
   simp only[kH,SK]
   conv=>rhs;rw[<-List.map_id (ks l)]
   exact SL fun k _=>rfl
  refine⟨by rw[hk];exact eE jN _,fun n hn=>?_⟩;simp only[kH,SZ]at hn;obtain⟨k,hk,rfl⟩:=hn;obtain⟨i1,i2⟩:=U9 d (nZ (k:=k) ho) (CR (k:=k) hw);refine⟨Vn ho,fun e=>?_,fun m hm c hc=>?_,i1,U0.2 i2⟩
  ·obtain⟨x,h1,h2,h3⟩:=s6.1 hk;obtain⟨c,hc⟩:=T.some_of_ne (eC.1 (fD.1 ho x h1)).1 h3;have:=(vC (k:=k) ho).2 ⟨x,h1,h2,hc⟩;rw[e]at this;cases this
  ·have aa:∃x∈pL c (kH d (cF l k)),x.key=m.key:=UQ.2 ⟨m,hm,rfl,hc⟩;rw[Bp c d (nZ ho) (CR hw)]at aa;obtain⟨x,hx,_⟩:=aa;have ac:pL c (cF l k)≠[]:=fun e=>by rw[e,xD]at hx;exact SW hx
   obtain⟨y,hy⟩:=List.exists_mem_of_ne_nil _ ac;obtain⟨z,h1,h2,_⟩:=qg.1 hy;obtain⟨n,h3,h4,_,h5⟩:=js h1;exact(vC ho).2 ⟨n,h3,h4,VK (hw n h3) z h5 c h2⟩
open Dg
mutual
def UO(d:T):List Nd->List Nd
 | []=>[]
 |n::l=>match V6 d n with
  |some m=>m::UO d l
  |none=>UO d l
def V6 (d:T):Nd->Option Nd
 |⟨k,t,o,s,ks,c⟩=>if d.and c=ff then none else some ⟨k,t,o,s,UO d ks,d.and c⟩
end
def Vo(d:T)(e:List bX):List bX:=e.filterMap fun x=>if d.and x.cond=ff then none else some { x with cond:=d.and x.cond }
def VZ(d:T)(t:Tr):Tr:=⟨UO d t.kids,Vo d t.diags⟩
theorem Uy(d:T)(n:Nd)(l:List Nd):UO d (n::l)=if d.and n.cond=ff then UO d l else { n with kids:=UO d n.kids,cond:=d.and n.cond }::UO d l:=by
 cases n;simp only[UO,V6];split<;>rename_i h<;>split at h<;>simp_all
theorem UH{d:T}{m:Nd}:∀{l:List Nd},m∈UO d l<->∃n∈l,d.and n.cond≠ff/\m={ n with kids:=UO d n.kids,cond:=d.and n.cond }
 | []=>by simp[UO]
 |n::l=>by
  rw[Uy];split
  ·rename_i h;simp only[UH (l:=l),Su];constructor
   ·rintro⟨x,h1,h2,h3⟩;exact⟨x,.inr h1,h2,h3⟩
   ·rintro⟨x,e|h1,h2,h3⟩
    ·subst e;exact absurd h h2
    ·exact⟨x,h1,h2,h3⟩
  ·rename_i h;simp only[Su,UH (l:=l)];constructor
   ·rintro(e|⟨x,h1,h2,h3⟩)
    ·exact⟨n,.inl rfl,h,e⟩
    ·exact⟨x,.inr h1,h2,h3⟩
   ·rintro⟨x,e|h1,h2,h3⟩
    ·subst e;exact .inl h3
    ·exact .inr ⟨x,h1,h2,h3⟩
theorem UG(d:T):∀(l:List Nd),((UO d l).map Nd.key).Sublist (l.map Nd.key)
 | []=>List.Sublist.slnil
 |n::l=>by
  rw[Uy];split
  ·exact(UG d l).cons _
  ·exact(UG d l).cons_cons _
theorem Vj{n:Nd}(h:Wg n):n.cond.ok 0:=((UE n).1 h).1
theorem VA{n:Nd}{l:List Nd}(h:Wd (n::l)):Wd l:=⟨(List.pairwise_cons.1 h.1).2,fun m hm=>h.2 m (.tail _ hm)⟩
theorem Ve:∀(l:List Nd) {d:T},d.ok 0->Wd l->∀c,pL c (UO d l)=if d.at' c then pL c l else []
 | [],d,hd,hl,c=>by simp[UO,pL]
 |⟨k,t,o,s,ks,e⟩::l,d,hd,hl,c=>by
  have h1:=Ve l hd (VA hl) c;have h2:=Ve ks hd (UA (hl.2 _ (.head _))) c;have he:e.ok 0:=Vj (hl.2 _ (.head _));rw[Uy,bV];show pL c (if d.and e=ff then _ else _)=if d.at' c then (if e.at' c then _ else _)else _
  have ha:(d.and e).at' c=(d.at' c && e.at' c):=T.and_at hd he c;by_cases hf:d.and e=ff
  ·rw[SI hf,h1];rw[hf]at ha;cases aa:d.at' c
   ·rfl
   ·rw[aa,Bool.true_and]at ha;rw[<-ha];rfl
  ·rw[Sb hf,bV,h1,h2,ha];cases aa:d.at' c<;>cases ac:e.at' c<;>simp
 termination_by l=>sizeOf l
theorem Vr:∀(n:Nd) {d:T},d.ok 0->Wg n->d.and n.cond≠ff->Wg { n with kids:=UO d n.kids,cond:=d.and n.cond }
 |⟨k,t,o,s,ks,e⟩,d,hd,hn,hf=>by
  have hk:=UA hn;have he:e.ok 0:=Vj hn;refine⟨T.and_ok hd he,hf,fun m hm c hc=>?_,hk.1.sublist (UG d ks),U0.2 fun m hm=>?_⟩
  ·obtain⟨x,h1,h2,h3⟩:=UH.1 hm;rw[h3]at hc;have hx:=Vj (hk.2 x h1);have hc:(d.and x.cond).at' c=true:=hc;rw[T.and_at hd hx,SG]at hc;rw[T.and_at hd he,SG];exact⟨hc.1,((UE _).1 hn).2.2.1 x h1 c hc.2⟩
  ·obtain⟨x,h1,h2,h3⟩:=UH.1 hm;rw[h3];have:sizeOf x<sizeOf ks:=List.sizeOf_lt_of_mem h1;exact Vr x hd (hk.2 x h1) h2
 termination_by n=>sizeOf n
theorem VS{l:List Nd}{d:T}(hd:d.ok 0)(h:Wd l):Wd (UO d l):=⟨h.1.sublist (UG d l),fun m hm=>by
 obtain⟨x,h1,h2,h3⟩:=UH.1 hm;rw[h3];exact Vr x hd (h.2 x h1) h2⟩
def Wi(e:List bX):Prop:=(e.map bX.key).Pairwise (fun a b=>tS a b=true)/\∀d∈e,d.cond.ok 0/\d.cond≠ff
theorem VE{l:List bX}(h:(l.map bX.key).Pairwise (fun a b=>tS a b=true)){n m:bX}(hn:n∈l)(hm:m∈l)(e:n.key=m.key):n=m:=by
 induction l with
 |nil=>exact(SW hn).elim
 |cons x l ih=>
  rw[Tf,Sv]at h;have no:∀y∈l,y.key≠x.key:=fun y hy e=>by
   have:=h.1 y.key (List.mem_map_of_mem hy);rw[e,gQ.irr]at this;cases this
  rcases List.mem_cons.1 hn with a|a<;>rcases List.mem_cons.1 hm with b|b
  ·rw[a,b]
  ·subst a;exact absurd e.symm (no m b)
  ·subst b;exact absurd e (no n a)
  ·exact ih h.2 a b
theorem UM{c:cg}{e:List bX}{x:bX}:x∈JP c e<->∃d∈e,d.cond.at' c=true/\x={ d with cond:=tt }:=by
 unfold JP;simp only[SZ,SY];constructor
 ·rintro⟨d,⟨h1,h2⟩,h3⟩;exact⟨d,h1,h2,h3.symm⟩
 ·rintro⟨d,h1,h2,h3⟩;exact⟨d,⟨h1,h2⟩,h3.symm⟩
theorem UC{c:cg}{e:List bX}{k:Int×Nat}:(∃x∈JP c e,x.key=k)<->∃d∈e,d.key=k/\d.cond.at' c=true:=by
 constructor
 ·rintro⟨x,hx,hk⟩;obtain⟨n,h1,h2,e⟩:=UM.1 hx;exact⟨n,h1,by rw[<-hk,e];rfl,h2⟩
 ·rintro⟨n,h1,h2,h3⟩;exact⟨_,UM.2 ⟨n,h1,h3,rfl⟩,h2⟩
theorem VQ{e f:List bX}(he:Wi e)(hf:Wi f)(h:∀c,JP c e=JP c f):e=f:=by
 have keys:∀{l m:List bX},Wi l->(∀c,JP c l=JP c m)->∀k,k∈l.map bX.key->k∈m.map bX.key:=by
  intro l m hl he k hk;obtain⟨n,h1,h2⟩:=List.mem_map.1 hk;have hn:=hl.2 n h1;obtain⟨c,hc⟩:=T.some_of_ne hn.1 hn.2;obtain⟨x,hx,ac⟩:=UC.2 ⟨n,h1,h2,hc⟩;rw[he c]at hx;obtain⟨y,h3,h4,_⟩:=UC.1 ⟨x,hx,ac⟩;exact List.mem_map.2 ⟨y,h3,h4⟩
 have hk:=kF gQ he.1 hf.1 fun k=>⟨keys he h k,keys hf (fun c=>(h c).symm) k⟩;have hp:∀x∈e,∀y∈f,x.key=y.key->x=y:=fun x hx y hy ek=>by
  have one:∀{l m:List bX} {x y:bX},Wi m->(∀c,JP c l=JP c m)->x∈l->y∈m->x.key=y.key->∀c,x.cond.at' c=true->y.cond.at' c=true:=by
   intro l m x y hm he hx hy e c hc;obtain⟨z,hz,aa⟩:=UC.2 ⟨x,hx,rfl,hc⟩;rw[he c]at hz;obtain⟨w,h3,h4,h5⟩:=UC.1 ⟨z,hz,aa⟩;rw[VE hm.1 hy h3 (by rw[h4,e])];exact h5
  have ec:x.cond=y.cond:=T.ext (he.2 x hx).1 (hf.2 y hy).1 fun c=>by
   cases h1:x.cond.at' c with
   |true=>exact(one hf h hx hy ek c h1).symm
   |false=>
    cases h2:y.cond.at' c with
    |false=>rfl
    |true=>rw[one he (fun c=>(h c).symm) hy hx ek.symm c h2]at h1;cases h1
  cases x;cases y
  simp only[bX.key,S3]at ek;simp only at ec;simp[ek,ec]
 clear h keys
 induction e generalizing f with
 |nil=>
  cases f with
  |nil=>rfl
  |cons y f=>simp at hk
 |cons x e ih=>
  cases f with
  |nil=>simp at hk
  |cons y f=>
   simp only[Tf,TX]at hk;have h1:=he.1;have k1:=hf.1;rw[Tf,Sv]at h1 k1;rw[hp x (.head _) y (.head _) hk.1,ih ⟨h1.2,fun n hn=>he.2 n (.tail _ hn)⟩ ⟨k1.2,fun n hn=>hf.2 n (.tail _ hn)⟩ hk.2 fun a ha b hb=>hp a (.tail _ ha) b (.tail _ hb)]
theorem Vv{e:List bX}(h:xQ e):Wi (yA e):=by
 have hk:(yA e).map bX.key=MT e:=by
  simp only[yA,SK]
  conv=>rhs;rw[<-List.map_id (MT e)]
  exact SL fun k _=>rfl
 refine⟨by rw[hk];exact eE gQ _,fun d hd=>?_⟩;simp only[yA,SZ]at hd;obtain⟨k,hk,rfl⟩:=hd;refine⟨Hf h,fun e0=>?_⟩;unfold MT at hk;rw[j4 gQ]at hk;simp only[SZ,SY,SX]at hk;obtain⟨x,⟨h1,h3⟩,h2⟩:=hk;obtain⟨c,hc⟩:=T.some_of_ne (h x h1) h3;have:=(xU (k:=k) h).2 ⟨x,h1,h2,hc⟩;have e1:qM e k=ff:=e0;rw[e1]at this;cases this
theorem Vy{d:T}{e:List bX}{x:bX}:x∈Vo d e<->∃y∈e,d.and y.cond≠ff/\x={ y with cond:=d.and y.cond }:=by
 unfold Vo;simp only[List.mem_filterMap];constructor
 ·rintro⟨y,h1,h2⟩;split at h2
  ·cases h2
  ·rename_i h;cases h2;exact⟨y,h1,h,rfl⟩
 ·rintro⟨y,h1,h2,h3⟩;exact⟨y,h1,by rw[Sb h2,h3]⟩
theorem UP(d:T):∀(e:List bX),((Vo d e).map bX.key).Sublist (e.map bX.key)
 | []=>List.Sublist.slnil
 |x::e=>by
  unfold Vo;rw[List.filterMap_cons];by_cases h:d.and x.cond=ff
  ·rw[SI h];exact(UP d e).cons _
  ·rw[Sb h];exact(UP d e).cons_cons _
theorem VT{d:T}{e:List bX}(hd:d.ok 0)(h:Wi e):Wi (Vo d e):=⟨h.1.sublist (UP d e),fun x hx=>by
 obtain⟨y,h1,h2,h3⟩:=Vy.1 hx;rw[h3];exact⟨T.and_ok hd (h.2 y h1).1,h2⟩⟩
theorem Vu{d:T}(hd:d.ok 0)(c:cg):∀{e:List bX},(∀x∈e,x.cond.ok 0)->JP c (Vo d e)=if d.at' c then JP c e else []
 | [],_=>by simp[Vo,JP]
 |x::e,h=>by
  have ih:=Vu hd c fun y hy=>h y (.tail _ hy);have hx:=h x (.head _);have ha:=T.and_at hd hx c;unfold Vo at ih |-;rw[List.filterMap_cons];have e2:JP c (x::e)=if x.cond.at' c then { x with cond:=tt }::JP c e else JP c e:=by
   unfold JP;rw[TU];split<;>rfl
  rw[e2];by_cases hf:d.and x.cond=ff
  ·rw[SI hf,ih];rw[hf]at ha;cases aa:d.at' c
   ·rfl
   ·rw[aa,Bool.true_and]at ha;rw[<-ha];rfl
  ·rw[Sb hf];show JP c ({ x with cond:=d.and x.cond }::_)=_;have e3:∀(z:bX) l,JP c (z::l)=if z.cond.at' c then { z with cond:=tt }::JP c l else JP c l:=fun z l=>by unfold JP;rw[TU];split<;>rfl
   rw[e3,ih];show (if (d.and x.cond).at' c then _ else _)=_;rw[ha];cases aa:d.at' c<;>cases ac:x.cond.at' c<;>simp
def Wf(t:Tr):Prop:=Wd t.kids/\Wi t.diags
theorem Vp{t u:Tr}(h:Wf t)(k:Wf u)(e:∀c,prj c t=prj c u):t=u:=by
 have e1:=Vs _ (R7 _) h.1 k.1 fun c=>congrArg Tr.kids (e c);have e2:=VQ h.2 k.2 fun c=>congrArg Tr.diags (e c);cases t;cases u;simp only at e1 e2;rw[e1,e2]
theorem UF{ts:List Tok}(aa:bu ts){w:T}(hw:w.ok 0){t:Tr}(h:Jk ts w t):Wf t:=by
 rcases h with ⟨_,e⟩|⟨ac,r,er,et⟩
 ·subst e;exact⟨⟨List.Pairwise.nil,fun n hn=>(SW hn).elim⟩,⟨List.Pairwise.nil,fun n hn=>(SW hn).elim⟩⟩
 ·obtain⟨q,_,R⟩:=gG aa hw ac er (fun _=>false);obtain⟨o1,o2⟩:=xu R.fok R.lok;subst et;exact⟨U9 _ o1 o2,Vv R.eok⟩
theorem VN{d:T}(hd:d.ok 0){t:Tr}(h:Wf t):Wf (VZ d t):=⟨VS hd h.1,VT hd h.2⟩
theorem VU{d:T}(hd:d.ok 0){t:Tr}(h:Wf t)(c:cg):prj c (VZ d t)=if d.at' c then prj c t else ⟨[],[]⟩:=by
 unfold prj VZ;simp only[Ve t.kids hd h.1 c,Vu hd c fun x hx=>(h.2.2 x hx).1];split<;>rfl
theorem VC{ts:List Tok}(aa:bu ts){w v:T}(hw:w.ok 0)(hv:v.ok 0){t u:Tr}(h:Jk ts w t)(k:Jk ts v u)(ac:∀c,v.at' c=true->w.at' c=true):VZ v t=u:=by
 refine Vp (VN hv (UF aa hw h)) (UF aa hv k) fun c=>?_;rw[VU hv (UF aa hw h)];cases hc:v.at' c with
 |true=>exact BH aa hw hv h k (ac c hc) hc
 |false=>exact(IC aa hv k hc).symm
def V5(x l:List Nd):Prop:=∀n,n∈x<->n∈l
theorem Vf:∀(d:Nat) {x l:List Nd},eX l<=d->Wd l->V5 x l->kH d x=l
 |0,x,l,hd,hl,hc=>by
  have:=uq (Nat.le_zero.1 hd);subst this;rfl
 |d+1,x,l,hd,hl,hc=>by
  have hk:ks x=l.map Nd.key:=kF jN (eE jN _) hl.1 fun k=>by
   show k∈ks x<->_;rw[s6,SZ];constructor
   ·rintro⟨n,h1,h2,_⟩;exact⟨n,(hc n).1 h1,h2⟩
   ·rintro⟨n,h1,h2⟩;exact⟨n,(hc n).2 h1,h2,((UE n).1 (hl.2 n h1)).2.1⟩
  simp only[kH,hk,SK]
  conv=>rhs;rw[<-List.map_id l]
  refine SL fun n hn=>?_;have hN:=(UE n).1 (hl.2 n hn);have mine_eq:∀m∈x.filter (eY n.key),m=n:=fun m hm=>by
   obtain⟨h1,h2⟩:=List.mem_filter.1 hm;simp only[eY,SG,SX]at h2;exact U2 hl ((hc m).1 h1) hn h2.1
  have mine_in:n∈x.filter (eY n.key):=List.mem_filter.2 ⟨(hc n).2 hn,by simp[eY,hN.2.1]⟩;have ek:kH d (cF x n.key)=n.kids:=by
   refine Vf d (by have:=o4 hn;rw[wi]at this;omega) (UA (hl.2 n hn)) fun m=>?_;unfold cF;rw[List.mem_flatMap];constructor
   ·rintro⟨y,h1,h2⟩;rw[mine_eq y h1]at h2;exact h2
   ·intro h;exact⟨n,mine_in,h⟩
  have ec:gH x n.key=n.cond:=by
   unfold gH;have key:∀(m:List Nd),(∀y∈m,y=n)->∀z:T,(z=ff\/z=n.cond)->(z=n.cond\/m≠[])->m.foldl (fun d y=>d.or y.cond) z=n.cond:=by
    intro m
    induction m with
    |nil=>intro _ z _ h;exact h.resolve_right fun h=>h rfl
    |cons y m ih=>
     intro hm z hz _;have e:z.or y.cond=n.cond:=by
      rw[hm y (.head _)];rcases hz with e|e<;>subst e
      ·exact T.ext (T.or_ok (show ff.ok 0 from trivial) hN.1) hN.1 fun c=>by rw[T.or_at (show ff.ok 0 from trivial) hN.1];rfl
      ·exact T.ext (T.or_ok hN.1 hN.1) hN.1 fun c=>by rw[T.or_at hN.1 hN.1,Bool.or_self]
     simp only[Sj,e];exact ih (fun x hx=>hm x (.tail _ hx)) _ (.inr rfl) (.inl rfl)
   exact key _ mine_eq ff (.inl rfl) (.inr fun e=>by rw[e]at mine_in;exact SW mine_in)
  show (⟨n.key.kind,n.key.text,n.key.tok,n.key.slot,kH d (cF x n.key),gH x n.key⟩:Nd)=n;rw[ek,ec];cases n;rfl
theorem Vc:∀(n:Nd),Wg n->No n/\wN n
 |⟨k,t,o,s,ks,e⟩,h=>by
  have hk:=UA h;have hw:=((UE _).1 h).2.2.1;have ih:∀m∈ks,No m/\wN m:=fun m hm=>by
   have:sizeOf m<sizeOf ks:=List.sizeOf_lt_of_mem hm;exact Vc m (hk.2 m hm)
  exact⟨⟨Vj h,fD.2 fun m hm=>(ih m hm).1⟩,(KR _).2 (AR.2 fun m hm=>⟨hw m hm,(ih m hm).2⟩)⟩
 termination_by n=>sizeOf n
theorem U6{l:List Nd}(h:Wd l):fX l/\∀n∈l,wN n:=⟨fD.2 fun n hn=>(Vc n (h.2 n hn)).1,fun n hn=>(Vc n (h.2 n hn)).2⟩
theorem UL(c:cg):∀(l:List Nd),((pL c l).map Nd.key).Sublist (l.map Nd.key)
 | []=>List.Sublist.slnil
 |n::l=>by
  rw[bV];split
  ·exact(UL c l).cons_cons _
  ·exact(UL c l).cons _
theorem VH(c:cg):∀(n:Nd),Wg n->Wg { n with kids:=pL c n.kids,cond:=tt }
 |⟨k,t,o,s,ks,e⟩,h=>by
  have hk:=UA h;refine⟨trivial,EK,fun m _ c _=>rfl,hk.1.sublist (UL c ks),U0.2 fun m hm=>?_⟩;obtain⟨x,h1,h2,h3⟩:=qg.1 hm;rw[h3];have:sizeOf x<sizeOf ks:=List.sizeOf_lt_of_mem h1;exact VH c x (hk.2 x h1)
 termination_by n=>sizeOf n
theorem VY(c:cg){l:List Nd}(h:Wd l):Wd (pL c l):=⟨h.1.sublist (UL c l),fun m hm=>by
 obtain⟨x,h1,h2,h3⟩:=qg.1 hm;rw[h3];exact VH c x (h.2 x h1)⟩
theorem Vh(c:cg):∀(l:List Tr),pL c (l.flatMap (·.kids))=(l.map (prj c)).flatMap (·.kids)
 | []=>rfl
 |t::l=>by rw[TB,dO,Vh c l];rfl
theorem VX{l:List Tr}(h:∀t∈l,Wf t):Wf (Pp l):=by
 have ho:fX (l.flatMap (·.kids))/\∀n∈l.flatMap (·.kids),wN n:=by
  refine⟨fD.2 fun n hn=>?_,fun n hn=>?_⟩<;>obtain⟨t,h1,h2⟩:=List.mem_flatMap.1 hn
  ·exact fD.1 (U6 (h t h1).1).1 n h2
  ·exact(U6 (h t h1).1).2 n h2
 have hd:xQ (l.flatMap (·.diags)):=fun d hd=>by
  obtain⟨t,h1,h2⟩:=List.mem_flatMap.1 hd;exact((h t h1).2.2 d h2).1
 exact⟨U9 _ ho.1 ho.2,Vv hd⟩
theorem VW{l:List Tr}(h:∀t∈l,Wf t){p:Tr}(hp:Wf p){c:cg}(he:∀t∈l,prj c t=p\/prj c t=⟨[],[]⟩)(hs:p=⟨[],[]⟩\/∃t∈l,prj c t=p)(ac:∀d∈p.diags,d.cond=tt):prj c (Pp l)=p:=by
 have ho:fX (l.flatMap (·.kids))/\∀n∈l.flatMap (·.kids),wN n:=by
  refine⟨fD.2 fun n hn=>?_,fun n hn=>?_⟩<;>obtain⟨t,h1,h2⟩:=List.mem_flatMap.1 hn
  ·exact fD.1 (U6 (h t h1).1).1 n h2
  ·exact(U6 (h t h1).1).2 n h2
 have hd:xQ (l.flatMap (·.diags)):=fun d hd=>by
  obtain⟨t,h1,h2⟩:=List.mem_flatMap.1 hd;exact((h t h1).2.2 d h2).1
 have hE:∀x,(∃d∈l.flatMap (·.diags),d.key=x/\d.cond.at' c=true)<->x∈p.diags.map bX.key:=fun x=>by
  constructor
  ·rintro⟨d,h1,h2,h3⟩;obtain⟨t,h4,h5⟩:=List.mem_flatMap.1 h1;obtain⟨y,h6,h7⟩:=UC.2 ⟨d,h5,h2,h3⟩;rcases he t h4 with e|e
   ·have e2:=congrArg Tr.diags e;have:y∈p.diags:=by rw[<-e2];exact h6
    exact List.mem_map.2 ⟨y,this,h7⟩
   ·have e2:JP c t.diags=[]:=congrArg Tr.diags e;rw[e2]at h6;exact(SW h6).elim
  ·intro hx;obtain⟨y,h6,h7⟩:=List.mem_map.1 hx;rcases hs with e|⟨t,h4,e⟩
   ·rw[e]at h6;exact(SW h6).elim
   ·have e2:JP c t.diags=p.diags:=congrArg Tr.diags e;rw[<-e2]at h6;obtain⟨d,h1,h2,h3⟩:=UC.1 ⟨y,h6,h7⟩;exact⟨d,List.mem_flatMap.2 ⟨t,h4,h1⟩,h2,h3⟩
 have e1:pL c (Pp l).kids=p.kids:=by
  show pL c (kH _ _)=_;rw[Bp c _ ho.1 ho.2];have aj:=Av c (l.flatMap (·.kids));have aa:V5 (pL c (l.flatMap (·.kids))) p.kids:=fun n=>by
   rw[Vh,List.mem_flatMap];constructor
   ·rintro⟨t,h1,h2⟩;obtain⟨u,h3,rfl⟩:=List.mem_map.1 h1;rcases he u h3 with e|e<;>rw[e]at h2
    ·exact h2
    ·exact(SW h2).elim
   ·intro hn;rcases hs with e|⟨t,h4,e⟩
    ·rw[e]at hn;exact(SW hn).elim
    ·exact⟨p,List.mem_map.2 ⟨t,h4,e⟩,hn⟩
  have ak:eX p.kids<=eX (pL c (l.flatMap (·.kids))):=BI fun n hn=>o4 ((aa n).2 hn);exact Vf _ (R8 ak aj) hp.1 aa
 have e2:JP c (Pp l).diags=p.diags:=by
  show JP c (yA _)=_;rw[Fc c hd];have hk:lM tS ((pE c (l.flatMap (·.diags))).map fun x=>(x.2,x.1))=p.diags.map bX.key:=kF gQ (eE gQ _) hp.2.1 fun x=>by
   rw[j4 gQ,<-hE x];simp only[pE,SK,SZ,SY,Function.comp,bX.key];constructor
   ·rintro⟨d,⟨h1,h3⟩,h2⟩;exact⟨d,h1,h2,h3⟩
   ·rintro⟨d,h1,h2,h3⟩;exact⟨d,⟨h1,h3⟩,h2⟩
  rw[hk,SK]
  conv=>rhs;rw[<-List.map_id p.diags]
  refine SL fun d hd=>?_;show (⟨d.code,d.tok,tt⟩:bX)=d;have:=ac d hd;cases d;simp only at this;rw[this]
 show (⟨pL c (Pp l).kids,JP c (Pp l).diags⟩:Tr)=p;rw[e1,e2]
theorem VJ(c:cg){t:Tr}(h:Wf t):Wf (prj c t):=⟨VY c h.1,by
 refine⟨?_,fun d hd=>?_⟩
 ·have hs:((JP c t.diags).map bX.key).Sublist (t.diags.map bX.key):=by
   unfold JP;rw[SK];exact(List.filter_sublist (l:=t.diags)).map _
  exact h.2.1.sublist hs
 ·obtain⟨x,h1,h2,h3⟩:=UM.1 hd;rw[h3];exact⟨trivial,EK⟩⟩
theorem VF{ts:List Tok}(aa:bu ts){p q:T}(hp:p.ok 0)(hq:q.ok 0){s t u:Tr}(hs:Jk ts p s)(ht:Jk ts q t)(hu:Jk ts (p.or q) u):Pp [t,s,t]=u:=by
 have ns:=UF aa hp hs;have nt:=UF aa hq ht;have ho:=T.or_ok hp hq;have nu:=UF aa ho hu;have ac:∀x∈[t,s,t],Wf x:=fun x hx=>by
  simp only[Su,SW,or_false]at hx;rcases hx with e|e|e<;>rw[e]<;>assumption
 refine Vp (VX ac) nu fun c=>?_;have ha:=T.or_at hp hq c;refine VW ac (VJ c nu) (fun x hx=>?_) ?_ (fun d hd=>?_)
 ·simp only[Su,SW,or_false]at hx;have ct:prj c t=prj c u\/prj c t=⟨[],[]⟩:=by
   cases hc:q.at' c with
   |true=>exact .inl (BH aa hq ho ht hu hc (by rw[ha,hc,Bool.or_true]))
   |false=>exact .inr (IC aa hq ht hc)
  have cs:prj c s=prj c u\/prj c s=⟨[],[]⟩:=by
   cases hc:p.at' c with
   |true=>exact .inl (BH aa hp ho hs hu hc (by rw[ha,hc,Bool.true_or]))
   |false=>exact .inr (IC aa hp hs hc)
  rcases hx with e|e|e<;>rw[e]<;>assumption
 ·cases hc:q.at' c with
  |true=>exact .inr ⟨t,by simp,BH aa hq ho ht hu hc (by rw[ha,hc,Bool.or_true])⟩
  |false=>
   cases hd:p.at' c with
   |true=>exact .inr ⟨s,by simp,BH aa hp ho hs hu hd (by rw[ha,hd,Bool.true_or])⟩
   |false=>exact .inl (IC aa ho hu (by rw[ha,hc,hd];rfl))
 ·obtain⟨x,_,_,h3⟩:=UM.1 hd;rw[h3]
end Syn
namespace Go.Proofs.YtfaclfkpnmcmlaaGreatDoor
open Go Go.Sx Dg Syn
theorem Vl:∀(d:Nat) {l:List Nd},kG l->kG (kH d l)
 |0,l,_=>trivial
 |d+1,l,h=>iL.2 fun n hn=>by
  obtain⟨k,hk,rfl⟩:=List.mem_map.1 hn;obtain⟨m,hm,e,_⟩:=s6.1 hk;have:=mH.1 (iL.1 h m hm);subst e;exact mH.2 ⟨this.1,Vl d (As h _)⟩
theorem UV{ts:List Syn.Tok}(aj:bu ts)(hl:ts.length<400)(hx:∀t∈ts,t.text.length<2^40){w:T}(hw:w.ok 0){t:Tr}(h:Jk (ts.map refit) w t):
  fX t.kids/\kG t.kids/\cK t.kids<=LL/\xQ t.diags/\t.diags.length<=2^36:=by
 have ac:=j3 aj;have ak:(ts.map refit).length<400:=by simpa using hl
 have nt:=UF ac hw h;refine⟨(U6 nt.1).1,?_,?_,fun d hd=>(nt.2.2 d hd).1,?_⟩
 ·rcases h with ⟨_,e⟩|⟨aa,r,er,e⟩
  ·subst e;trivial
  ·subst e;exact Vl _ (Lu ac Vi (Iz hx) hw aa er)
 ·rcases h with ⟨_,e⟩|⟨aa,r,er,e⟩
  ·subst e;exact S6 _
  ·subst e;exact R8 (Cw _ _) (Ff ac Vi hw aa er)
 ·rcases h with ⟨_,e⟩|⟨aa,r,er,e⟩
  ·subst e;exact S6 _
  ·subst e;have hb:=Ec w (show (ts.map refit).length<=16384 by omega);obtain⟨r',er',q1,q2⟩:=Ce ac fR _ (AA hw aa) hb (Gj w Vi);rw[er]at er';cases er'
   refine R8 (HJ _) ?_;have hc:=w.card_le;have:w.card*((ts.map refit).length+1)<=2^24*400:=Nat.mul_le_mul hc Vi;have am:b8 (ts.map refit) (.seqL true 0 [(0,w)] [] [])<=2^36:=by
    simp only[b8,eG,cQ,lp,S9,Nat.sub_zero];omega
   omega
theorem VR:aP Tryz.prog 37:=⟨_,Tryz.func37,rfl,rfl⟩
theorem Vg(d:T):∀(a b:List Nd),UO d (a++b)=UO d a++UO d b
 | [],b=>rfl
 |n::a,b=>by
  rw[SS,Uy,Uy,Vg d a b];split<;>rfl
theorem UZ(d:T):∀(l:List Nd),cK (UO d l)<=cK l
 | []=>R7 _
 |⟨k,t,o,s,ks,e⟩::l=>by
  have h1:=UZ d ks;have h2:=UZ d l;rw[Uy];split
  ·rw[a8];omega
  ·rw[a8,a8];show cK (UO d ks)+1+_<=cK ks+1+_;omega
theorem V3(d:T):N5 (fun e=>d.and e) (UO d):=⟨rfl,Vg d,fun n=>by rw[Uy];rfl⟩
theorem VO(d:T)(e:List bX):wy (fun x=>d.and x) e=Vo d e:=by
 induction e with
 |nil=>rfl
 |cons x e ih=>
  show (if d.and x.cond=ff then []else [_])++wy (fun x=>d.and x) e=_;rw[ih];unfold Vo;rw[List.filterMap_cons];split<;>rename_i h<;>simp[h]
theorem VV{I0:PH}{vd:Value}{d:T}(h:cu I0 vd d):sZ I0 (.func (.func 94) #[vd] #[]) (fun e=>d.and e):=
 ⟨94,#[vd],#[],rfl,iy,fun{I v e} aa hr=>lE (h.le aa) hr⟩
theorem Vb{I:PH}{v vd:Value}{t:Tr}{d:T}(hT:zW I v t)(hD:cu I vd d)(hz:cK t.kids<=aF)(ac:t.diags.length<=aF):aO Tryz.prog 37 #[v,vd] I [] fun r I2 qs=>qs=[]/\zW I2 r (VZ d t):=by
 obtain⟨vk,ve,rfl,hK,ak,hE,am⟩:=id hT;obtain⟨da,dk,rfl⟩:=hD.shape2;obtain⟨ka,kc,rfl,_⟩:=id hK;obtain⟨ea,ec,rfl,_⟩:=id hE;intro hd;refine ir 9 Tryz.func37 fun w0=>?_
 try simp only[sD,rD,iv]
 refine Un ?_;refine V7 hd rfl LV (NO (V3 d) hT (VV hD) (R8 (UZ _ _) hz) ac) fun v1 I4 qs aj aa hq=>?_;obtain⟨rfl,hr⟩:=hq;obtain⟨wk,wd,rfl,h1,h2,h3,h4⟩:=hr;rw[VO]at h3;obtain⟨xa,xc,rfl,_⟩:=id h1;obtain⟨ya,yc,rfl,_⟩:=id h3;refine Un ?_;exact ai rfl aj (r:=[.agg #[.slice xa (UO d t.kids).length xc,.slice ya (Vo d t.diags).length yc]]) (by simp only[Tryz.results37,go_sem]) aa ⟨rfl,_,_,rfl,h1,h2,h3,h4⟩
theorem tz.ones{I:PH}{c:List Value}{x:Nat×Nat}(h:tz I c x):c.all Sx.one=true:=by rw[h.1];rfl
theorem Hr.of{I:PH}{vk vd:Value}{t:Tr}(h:zW I (.agg #[vk,vd]) t):Hr I [vk,vd] t:=by
 obtain⟨a,b,e,h⟩:=h;simp only[Value.agg.injEq,Array.mk.injEq,TX,TY]at e;obtain⟨rfl,rfl⟩:=e;exact⟨_,_,rfl,h⟩
theorem Vt{I:PH}{vl vx vy:Value}{l:List It}{x y:List (Nat×Nat)}(hV:fN I)(hS:KJ I vl l)(hX:uj I vx x)(hY:uj I vy y)(hb:∀x∈l,Ql x)(hl:l.length<2^40)(hx:x.length<2^39)(hy:y.length<2^39):
  aO Tryz.prog 9 #[vl,vx,vy] I [] fun r I2 qs=>qs=[]/\r=.bool true:=by
 obtain⟨la,lc,rfl,_⟩:=id hS;obtain⟨xa,xc,rfl,_⟩:=id hX;obtain⟨ya,yc,rfl,_⟩:=id hY;intro hd;refine ir 60 Tryz.func9 fun w0=>?_;refine Un ?_;refine dP hd (by exact VL) rfl rfl rfl rfl rfl Vm fun b A d2 b2=>?_;have d9:Ow tz 164 2 I A (.slice (some ⟨b,0,none⟩) 0 0) ([]:List (Nat×Nat)):=⟨aE [],b2,rfl⟩;refine Un ?_;refine aY (R:=tz) (xs:=[]) (ys:=x) d2 (by exact VL) d9 hX (fun{I J c a} h k=>h) (fun{I} c a h=>tz.len (I:=I) c a h) (fun{I} c a h=>tz.ones (I:=I) h) rfl rfl rfl rfl (by simp only[S9];omega) (by simp only[S9];unfold maxLen;omega) fun a1 c1 I2 A2 d1 a3 ds=>?_;simp only[SU]at ds |-;refine Un ?_;refine aY (R:=tz) (xs:=x) (ys:=y) d1 (by exact VL) ds (uj.le hY a3) (fun{I J c a} h k=>h) (fun{I} c a h=>tz.len (I:=I) c a h) (fun{I} c a h=>tz.ones (I:=I) h) rfl rfl rfl rfl Vi (by unfold maxLen;omega) fun a2 c2 I3 A3 d0 b4 d7=>?_;refine Um d0 [0] fun b6=>?_;refine ag b6 fun I4 b6 a0 hf=>?_;have d3:uj I4 (.slice a2 (x++y).length c2) (x++y):=Ow.sl (R:=tz) (fun{I J c a} h k=>h) d7 a0 hf;have k4:=Ui a3 (Ui b4 a0);refine Un ?_;refine V7 b6 rfl MG (J6 (KJ.le hS k4) d3 hb hl (by rw[Tu];omega)) fun v I5 qs c4 b3 hq=>?_;obtain⟨rfl,hq⟩:=hq;have k5:=Ui k4 b3;obtain⟨a,n,k,ga,gn,gc,ok,rfl,bs⟩:=hq.all;cases ok
 ·refine Un ?_;refine V7 c4 rfl EZ (BE (hV.le k5)) fun v I6 qs b5 ak hq=>?_;obtain⟨rfl,rfl⟩:=hq;refine Un ?_;exact ai rfl b5 (r:=[_]) rfl (Ui k5 ak) ⟨rfl,rfl⟩
 obtain⟨hL,hT,dy,rfl,hk⟩:=bs rfl;refine Un ?_;refine V7 c4 rfl EZ (BE (hV.le k5)) fun v I6 qs b5 ak hq=>?_;obtain⟨rfl,rfl⟩:=hq;have k6:=Ui k5 ak;refine Un ?_;refine V7 b5 rfl Ab (Gv (uj.le hX k6) Vi) fun v1 I7 qs dT aS hq=>?_;obtain⟨rfl,hP⟩:=hq;obtain⟨pa,pk,rfl⟩:=hP.shape2;refine Uv ?_;have k7:=Ui k6 aS;refine V7 dT rfl Ab (Gv (uj.le hY k7) Vi) fun v2 I8 qs dI ap hq=>?_;obtain⟨rfl,hQ⟩:=hq;obtain⟨qa,qk,rfl⟩:=hQ.shape2;have k8:=Ui k7 ap;have cy:=hL.le (Ui ak (Ui aS ap));have da:=hP.le ap;refine Uv ?_;refine V8 [6,7,0,1,3,4,2,5,8,9] [] [] ?_;refine Ut ?_;refine IR dI rfl Aw (su (hV.le k8) cy da) fun v3 I9 qs dA ac hq=>?_;obtain⟨rfl,s,cA,c7,dk⟩:=hq;obtain⟨_,_,rfl,⟨sa,sc,rfl,_⟩,_,⟨sa',sc',rfl,_⟩,_⟩:=id c7;refine Ut ?_;refine IR dA rfl Aw (su (hV.le (Ui k8 ac)) (cy.le ac) (hQ.le ac)) fun v4 en qs cp aa hq=>?_;obtain⟨rfl,t,dc,cr,eb⟩:=hq;obtain⟨_,_,rfl,⟨ta,tc,rfl,_⟩,_,⟨ta',tc',rfl,_⟩,_⟩:=id cr;refine Ut ?_;refine aw ?_;refine Uv ?_;have bs:=j3 hL.ok;have c3:(l.map dV).length<400:=by rw[Sz];exact dy
 obtain⟨s1,s2,s3,s4,s5⟩:=UV hL.ok c3 hL.txt (u8 x) cA;obtain⟨t1,t2,t3,t4,t5⟩:=UV hL.ok c3 hL.txt (u8 y) dc;have b1:=Ui k8 (Ui ac aa);have ao:=c7.le aa;have bb:=da.le (Ui ac aa);have cx:=hQ.le (Ui ac aa);have bc:=cy.le (Ui ac aa);refine V8 [0,3,5,1,2,4,6,7,8,9,10,13,14,15,11,12,16,17,18,19,20] [] [] ?_;refine Ut ?_;refine IR cp rfl Bd (bv.keep (Bo _)) fun v5 ea qs cn aj hq=>?_;obtain⟨rfl,rfl⟩:=hq;refine Ut ?_;refine IR cn rfl Aw (su (hV.le (Ui b1 aj)) (bc.le aj) (Fj ea)) fun v6 el qs cm ba hq=>?_;obtain⟨rfl,u,d6,c6,dj⟩:=hq;have c0:=Ui aj ba;obtain⟨_,_,rfl,⟨ua,uc,rfl,_⟩,_,⟨ua',uc',rfl,_⟩,_⟩:=id c6;refine Ut ?_;refine IR cm rfl VR (Vb c6 (bb.le c0) dj.1 dj.2) fun v7 ei qs cl a9 hq=>?_;obtain⟨rfl,ct⟩:=hq;have cB:=Ui c0 a9;rw[VC bs (show (T.lf true).ok 0 from trivial) (u8 x) d6 cA (fun _ _=>rfl)]at ct;obtain⟨_,_,rfl,⟨va,vc,rfl,_⟩,_,⟨va',vc',rfl,_⟩,_⟩:=id ct;refine Ut ?_;refine IR cl rfl LM (K1 ct (ao.le cB) dk.1 dk.2) fun v8 eh qs cj a7 hq=>?_;obtain⟨rfl,rfl⟩:=hq;have dw:=Ui cB a7;refine Ut ?_;refine aZ cj (by exact PU) rfl rfl rfl rfl rfl Vm fun nb dv ci a6 dx=>?_;have bd:=Ui dw a6;have d4:Sl Hr dv (.slice (some ⟨nb,0,none⟩) 3 3) [t,s,t]:=⟨_,_,rfl,.inr ⟨nb,0,_,rfl,(az dx (by simp[aE,Value.cells]) (by simp[aE,Value.cells]):aQ dv nb 0 ([.slice ta t.kids.length tc,.slice ta' t.diags.length tc']++([.slice sa s.kids.length sc,.slice sa' s.diags.length sc']++[.slice ta t.kids.length tc,.slice ta' t.diags.length tc']))),LR.app (.one (Hr.of (cr.le bd))) (LR.app (.one (Hr.of (ao.le bd))) (.one (Hr.of (cr.le bd))))⟩⟩
 have ek:[t,s,t].flatMap (·.kids)=t.kids++(s.kids++t.kids):=by simp
 have ed:[t,s,t].flatMap (·.diags)=t.diags++(s.diags++t.diags):=by simp
 refine Ut ?_;refine IR ci rfl Ls (IE d4 (by simp) (by rw[ek];exact fV.2 ⟨t1,fV.2 ⟨s1,t1⟩⟩) (by rw[ek];exact rL.2 ⟨t2,rL.2 ⟨s2,t2⟩⟩) (by rw[ek,fB,fB];unfold LL at s3 t3;unfold aF;omega) (by rw[ed];exact bP.2 ⟨t4,bP.2 ⟨s4,t4⟩⟩) (by rw[ed,Tu,Tu];unfold aF;omega)) fun v9 eg qs cf a5 hq=>?_;obtain⟨rfl,c8⟩:=hq;have b0:=Ui bd a5;obtain⟨_,_,rfl,⟨ma,mc,rfl,_⟩,_,⟨ma',mc',rfl,_⟩,_⟩:=id c8;refine Ut ?_;refine IR cf rfl sQ (G1 (bb.le b0) (cx.le b0)) fun v10 ef qs cc an hq=>?_;obtain⟨rfl,c9⟩:=hq;have bx:=Ui b0 an;obtain⟨oa,ok,rfl⟩:=c9.shape2;refine Ut ?_;refine IR cc rfl Aw (su (hV.le (Ui b1 bx)) (bc.le bx) c9) fun v11 ee qs cb am hq=>?_;obtain⟨rfl,w,d5,c5,dd⟩:=hq;have em:=VF bs (u8 x) (u8 y) cA dc d5;have cs:=c8.le (Ui an am);obtain⟨_,_,rfl,⟨wa,wc,rfl,_⟩,_,⟨wa',wc',rfl,_⟩,_⟩:=id c5;refine Ut ?_;refine IR cb rfl LM (K1 cs (by rw[em];exact c5) (by rw[em];exact dd.1) (by rw[em];exact dd.2)) fun v12 ec qs ca a4 hq=>?_;obtain⟨rfl,rfl⟩:=hq;refine Ut ?_;refine aw ?_;refine Uv ?_;exact ai rfl ca (r:=[_]) rfl (Ui b1 (Ui bx (Ui am a4))) ⟨rfl,rfl⟩
open Go.ChangeShapes (trodAll_three trodVars_none trodAll_mk1 trodAll_mk3)
open Go.RowKit (shut_bool)
theorem mO{W:World}{n:String}{g:Nat}{cs:Array Value}(hg:Tryz.prog.globalNamed n=some g)(h:W.var? Tryz.prog n=some cs):∃ty fz,W.heap[g]?=some (.cells cs ty fz):=by
 unfold World.var? at h;rw[hg]at h;simp only[Sm]at h;cases hb:W.heap[g]? with
 |none=>rw[hb]at h;cases h
 |some o=>
  rw[hb]at h;cases o with
  |cells c ty fz=>simp only[Sc]at h;subst h;exact⟨ty,fz,rfl⟩
  |_=>cases h
theorem GE{H:Type}{enc:TypeId×Value->H}{W:World}{lO fR t n:Nat}{sp:Nat->Bool}{aa:Bool}{cs:List Value}{T:List bM}{p:List MemPlace}(ht:Tryz.prog.underlying t=some (.array n 9))(ak:Tryz.prog.cellsOf t=n)
  (h:DataW.trod enc Tryz.prog W lO sp aa fR t cs=some (.agg (T.map fun x=>.lit (.string x)),p)):cs=T.map fun x=>.string ⟨⟨x⟩⟩:=by
 obtain⟨xs,m,_,hx,hl,am,aj⟩:=DataW.trod_array ht h;simp only[S3,DataW.agg.injEq]at hx;obtain⟨hx,_⟩:=hx;rw[ak]at hl;have hT:T.length=n:=by
  have:=congrArg List.length hx;simp at this;omega
 apply List.ext_getElem?;intro i;rcases Sw i n with hi|hi
 ·have h1:=aj i hi;obtain⟨y,hy⟩:∃y,xs[i]?=some y:=⟨_,SC Vi⟩;rw[Bm,Nat.mul_one,hy]at h1;obtain⟨s,e1,e2,_⟩:=DataW.trod_string Pe h1;have h2:(xs.map (·.1))[i]?=some (.lit (.string s.data.toList)):=by rw[SA,hy,e2];rfl
  rw[<-hx,SA]at h2;obtain⟨x,ac⟩:∃x,T[i]?=some x:=⟨_,SC Vi⟩;rw[ac]at h2;simp only[So,Sc,DataW.lit.injEq,Lit.string.injEq]at h2;have h3:cs[i]?=some (.string s):=by
   have:=congrArg (fun l:List Value=>l[0]?) e1;simpa[Sg,Sh]using this
  rw[h3,SA,ac,h2];rfl
 ·rw[SF Vi,SF (by rw[Sz];omega)]
theorem OW:Tryz.prog.cellsOf 317=22:=by kernel_rfl
theorem Q1:Tryz.prog.globalNamed "motley/source.signs"=some 0:=by kernel_rfl
theorem QZ:Tryz.prog.globalNamed "strconv.ErrSyntax"=some 1:=by kernel_rfl
theorem Q9:Tryz.prog.globalNamed "strconv.ErrRange"=some 2:=by kernel_rfl
theorem Ri:(Tryz.prog.globals[0]?).map (·.type)=some 317:=by kernel_rfl
theorem RH:(Tryz.prog.globals[1]?).map (·.type)=some 284:=by kernel_rfl
theorem RB:(Tryz.prog.globals[2]?).map (·.type)=some 284:=by kernel_rfl
theorem Rz:(Tryz.prog.globals[3]?).map (·.type)=some 406:=by kernel_rfl
theorem Oc:Tryz.prog.underlying 406=some (.array 20 366):=by kernel_rfl
theorem Oj:Tryz.prog.underlying 366=some (.int .u64):=by kernel_rfl
theorem OV:Tryz.prog.cellsOf 366=1:=by kernel_rfl
theorem Nu:Tryz.prog.cellsOf 406=20:=by kernel_rfl
theorem IW{W:World}(hL:laidMetH Tryz.prog Rows.syntaxWithinUptoRow.laid W):fN (uu W):=by
 rw[MakeChecks.laidMetH_plain _ _ _ (by kernel_rfl)]at hL;have r3:=Lib.laidMet.reads hL (.tail _ (.tail _ (.head _)));have r2:=Lib.laidMet.reads hL (.tail _ (.tail _ (.tail _ (.head _))));have r1:=Lib.laidMet.reads hL (.tail _ (.tail _ (.tail _ (.tail _ (.head _)))));have r0:=Lib.laidMet.reads hL (.tail _ (.tail _ (.tail _ (.tail _ (.tail _ (.head _))))));refine⟨?_,?_,?_,?_⟩
 ·obtain⟨g,t,cs,fR,p,hg,ht,hv,hd⟩:=r0;obtain rfl:=Tk (Q1.symm.trans hg);obtain rfl:=Tk (Ri.symm.trans ht);obtain⟨ty,fz,hb⟩:=mO Q1 hv;have aa:=GE (T:=gI) Kg OW hd;refine⟨cs,ty,fz,hb,?_,?_⟩
  ·have:=congrArg List.length aa;simp only[Sk]at this;rw[this];simp[lP]
  ·rw[Tm,aa];exact T3 (by simp[lP])
 ·obtain⟨g,t,cs,fR,p,hg,ht,hv,hd⟩:=r1;obtain rfl:=Tk (QZ.symm.trans hg);obtain rfl:=Tk (RH.symm.trans ht);obtain⟨ty,fz,hb⟩:=mO QZ hv;obtain⟨_,u,v,aa,_⟩:=iface_of_trod vt.choose_spec hd;exact⟨u,v,cs,ty,fz,hb,by have:=congrArg List.length aa;simp at this;simp[this],by simp[aa]⟩
 ·obtain⟨g,t,cs,fR,p,hg,ht,hv,hd⟩:=r2;obtain rfl:=Tk (Q9.symm.trans hg);obtain rfl:=Tk (RB.symm.trans ht);obtain⟨ty,fz,hb⟩:=mO Q9 hv;obtain⟨_,u,v,aa,_⟩:=iface_of_trod vt.choose_spec hd;exact⟨u,v,cs,ty,fz,hb,by have:=congrArg List.length aa;simp at this;simp[this],by simp[aa]⟩
 ·obtain⟨g,t,cs,fR,p,hg,ht,hv,hd⟩:=r3;obtain rfl:=Tk (Ew.symm.trans hg);obtain rfl:=Tk (Rz.symm.trans ht);obtain⟨ty,fz,hb⟩:=mO Ew hv;have aa:=Lib.cells_of_tab (zs:=Lib.pow10Tab) (k:=.u64) Oc Oj OV Nu hd;refine⟨ty,fz,?_⟩;show W.heap[3]?=_;rw[hb,<-aa]
theorem Nm:ownKnob Tryz.prog.godebug=none:=by kernel_rfl
theorem Cm:laidOutB Tryz.prog=true:=by kernel_rfl
theorem GM(os:Os)(args:Array Value):laidMetH Tryz.prog Rows.syntaxWithinUptoRow.laid ((World.doorLaid Tryz.prog 67 os).forCall (fun _ _=>0) ⟨#[],args,[]⟩).memory:=
 (@laidMetH_of_parts3 _ _ _ 8 (laidMet_of_run' 8 (by kernel_rfl) (by kernel_rfl)) (by kernel_rfl) (by kernel_rfl))
def yl:Array Value:=#[.slice none 0 0,.slice none 0 0,.slice none 0 0]
theorem ym(os:Os){H:Type}(enc:TypeId×Value->H):
  (Rows.OpenSpec.upto Rows.syntaxWithinSpec).preRow enc Tryz.prog Tryz.f9 Rows.syntaxWithinUptoRow.domain false Rows.syntaxWithinUptoRow.laid ((World.doorLaid Tryz.prog 67 os).forCall (fun _ _=>0) ⟨#[],yl,[]⟩).memory yl:=by
 have hw:(DataW.whole enc Tryz.prog ((World.doorLaid Tryz.prog 67 os).forCall (fun _ _=>0) ⟨#[],yl,[]⟩).memory Tryz.f9.params.toList (Rows.OpenSpec.upto Rows.syntaxWithinSpec).vars false yl.toList 8).map (fun x=>(x.1,x.2.1)) =
   some ([.nil,.nil,.nil],[]):=by kernel_rfl
 obtain⟨⟨x1,x2,x3⟩,hx,aa⟩:=Option.map_eq_some_iff.1 hw;simp only[S3]at aa;obtain⟨rfl,rfl⟩:=aa;exact OpenSpec.preRow_of_cond 8 hx (by kernel_rfl) (fun k hk=>by cases hk;rfl) (by kernel_rfl) (GM os _)
set_option maxRecDepth 100000 in
theorem UU(os:Os)(started:os.Started)(H:Type)(enc:TypeId×Value->H)(F:Stop.Interp):
  ReturnsInHanded {} Tryz.checked os 9 .any ((Rows.OpenSpec.upto Rows.syntaxWithinSpec).preRow enc Tryz.prog Tryz.f9 Rows.syntaxWithinUptoRow.domain false Rows.syntaxWithinUptoRow.laid) (((Rows.OpenSpec.upto Rows.syntaxWithinSpec).at F).post enc Tryz.prog Tryz.f9 false true false false):=by
 refine returnsInHanded_of_row (C:=Tryz.checked) (s:=Rows.OpenSpec.upto Rows.syntaxWithinSpec) Nm started (by kernel_rfl) Tryz.func9
  (witness_row_atRef (enc:=enc) (C:=Tryz.checked) false (World.doorLaid Tryz.prog 67 os) yl rfl (by kernel_rfl) (by kernel_rfl) (by kernel_rfl) (ym os enc)) ?_
 intro W lO args ds gs before ac hW _ ak _ hL _ _;have aj:Rows.uptoSmall H (ds++gs)=true:=ak _ rfl;have aa:∀(j:Nat) t v,Tryz.f9.params[j]?=some t->args[j]?=some v->Value.okWide Tryz.prog W .any lO t v:=ac;have an:=hW;obtain⟨p,q,aS,ap,rfl,_,_⟩:=hW;have hA:DataW.TrodAll enc Tryz.prog W 0 (fun _=>true) true Tryz.f9.params.toList args.toList ds p:=aS;rw[Tryz.params9]at hA aa;obtain⟨v0,v1,v2,d0,d1,d2,p0,p1,p2,rfl,rfl,rfl,h0,h1,h2⟩:=trodAll_three hA;obtain⟨rfl,rfl⟩:=trodVars_none ap;have h0k:=h0;have h1k:=h1;have h2k:=h2;clear aS ap ac;simp only[Tq]at an aj;have am:∀x∈p0++p1++p2,x.block<W.heap.size:=fun x hx=>by simpa using an.lt x hx
 have ao:Rows.uptoBulk d0+(Rows.uptoBulk d1+(Rows.uptoBulk d2+0))<=1048576:=TG aj;obtain⟨a0,l0,c0,rfl⟩:=WideShapes.okWide_slice NN (aa 0 22 v0 rfl rfl);obtain⟨a1,l1,c1,rfl⟩:=WideShapes.okWide_slice NY (aa 1 46 v1 rfl rfl);obtain⟨a2,l2,c2,rfl⟩:=WideShapes.okWide_slice NY (aa 2 46 v2 rfl rfl);obtain⟨f0,a6⟩:=h0;obtain⟨f1,a5⟩:=h1;obtain⟨f2,a4⟩:=h2;obtain⟨l,ba,bd,a3⟩:=zS a6;obtain⟨x,a9,bc⟩:=sW a5;obtain⟨y,a7,bb⟩:=sW a4;have hV:=IW hL;have main:=Vt hV ba a9 a7 (fun x hx=>by obtain⟨b1,b2⟩:=a3 x hx;exact⟨Vi,Vi⟩) Vi Vi Vi;refine(aO.calls main).mono ?_;rintro e W' ⟨rfl,bel⟩;have e1:((Rows.OpenSpec.upto Rows.syntaxWithinSpec).at F).fn H ([d0,d1,d2]++[])={ results:=[.lit (.bool true)],args:=[d0,d1,d2] }:=rfl;refine⟨_,rfl,_,_,_,[],p0++(p1++p2),[],an,?_,?_,?_,bel.frame _,fun h=>by cases h⟩
 ·rw[e1];exact trodAll_mk1 (shut_bool Tryz.underlying4 _)
 ·rw[e1];exact trodAll_mk3 (RowKit.Below.trod Cm (by kernel_rfl) (TG (by kernel_rfl)) h0k bel (fun x hx=>am x (by simp[hx]))) (RowKit.Below.trod Cm (by kernel_rfl) (TG (by kernel_rfl)) h1k bel (fun x hx=>am x (by simp[hx]))) (RowKit.Below.trod Cm (by kernel_rfl) (TG (by kernel_rfl)) h2k bel (fun x hx=>am x (by simp[hx])))
 ·rw[e1];rfl
end Go.Proofs.YtfaclfkpnmcmlaaGreatDoor
