import Derived.Test.YtfaclfkpnmcmlaaGreatDoorT07
import Derived.Test.YtfaclfkpnmcmlaaGreatDoorT13
set_option maxHeartbeats 8000000
set_option linter.all false
namespace Syn
open Dg
def KB(K:Nat)(l:List Nd):Prop:=∀n∈l,n.kids.length<=K
def rL(ts:List Tok)(hs:List aB):Prop:=∀h∈hs,kS ts h/\h.at'<ts.length
section
variable (ts:List Tok)
def cU:Call->Nat
 | .line _ _ f _=>3*fe ts.length f
 | .lineL _ _ _ _ l g out=>l.length+3*(fe ts.length g+fe ts.length out)
 | .lineO _ _ _ ops l g=>l.length+3*(fe ts.length g+eT ts.length ops)
 | .unary _ f _=>3*fe ts.length f
 | .unaryH _ h _=>3*hp ts.length h
 | .calls _ _ _ xs names g=>names.length+3*(fe ts.length g+eT ts.length xs)
 | .inside _ f _=>3*fe ts.length f
 | .listed _ _ f=>3*fe ts.length f
 | .listL _ _ l g fin=>l.length+3*(fe ts.length g+fe ts.length fin)
 | .item _ _ f=>3*fe ts.length f
 | .behind _ _ f _ _=>3*fe ts.length f
 | .vrb _ f=>3*fe ts.length f
 | .function _ f=>3*fe ts.length f
 | .block _ f _=>3*fe ts.length f
 | .seqL _ _ f l out=>l.length+3*(fe ts.length f+fe ts.length out)
 | .stmt _ h=>3*hp ts.length h
 | .sCalls _ _ xs l g=>l.length+3*(fe ts.length g+eT ts.length xs)
 | .branch _ h _=>3*hp ts.length h
 | .elses _ xs l out=>l.length+3*(fe ts.length out+eT ts.length xs)
 | .ifs _ ys l out=>l.length+3*(fe ts.length out+eT ts.length ys)
def mu:Call->Nat
 | .line k _ f _=>64*fe ts.length f+(31-2*k)
 | .lineL k _ _ _ _ g _=>64*fe ts.length g+(30-2*k)
 | .lineO _ _ _ ops _ _=>64*eT ts.length ops
 | .unary _ f _=>64*fe ts.length f+19
 | .unaryH _ h _=>64*hp ts.length h+18
 | .calls _ _ _ xs _ _=>64*eT ts.length xs+10
 | .inside _ f _=>64*fe ts.length f+17
 | .listed _ _ f=>64*fe ts.length f+9
 | .listL _ _ _ g _=>64*fe ts.length g+40
 | .item _ _ f=>64*fe ts.length f+39
 | .behind _ _ f _ _=>64*fe ts.length f+38
 | .vrb _ f=>64*fe ts.length f+41
 | .function _ f=>64*fe ts.length f+41
 | .block _ f _=>64*fe ts.length f+9
 | .seqL _ _ f _ _=>64*fe ts.length f+50
 | .stmt _ h=>64*hp ts.length h+45
 | .sCalls _ _ xs _ _=>64*eT ts.length xs+10
 | .branch _ h _=>64*hp ts.length h+42
 | .elses _ xs _ _=>64*eT ts.length xs+43
 | .ifs _ ys _ _=>64*eT ts.length ys+43
def lX:Call->Prop
 | .line k _ f _=>FN ts.length f/\k<=5
 | .lineL k _ _ _ _ g out=>FN ts.length g/\FN ts.length out/\k<=4
 | .lineO k _ _ ops _ g=>rL ts ops/\FN ts.length g/\k<=4
 | .unary _ f _=>FN ts.length f
 | .unaryH _ h _=>kS ts h
 | .calls _ _ _ xs _ g=>rL ts xs/\FN ts.length g
 | .inside _ f _=>FN ts.length f
 | .listed _ _ f=>FN ts.length f
 | .listL _ _ _ g fin=>FN ts.length g/\FN ts.length fin
 | .item _ _ f=>FN ts.length f
 | .behind _ _ f sign _=>FN ts.length f/\sign≠[]
 | .vrb _ f=>FN ts.length f
 | .function _ f=>FN ts.length f
 | .block _ f _=>FN ts.length f
 | .seqL _ _ f _ out=>FN ts.length f/\FN ts.length out
 | .stmt _ h=>kS ts h
 | .sCalls _ _ xs _ g=>rL ts xs/\FN ts.length g
 | .branch _ h _=>kS ts h/\h.at'<ts.length
 | .elses _ xs l out=>rL ts xs/\FN ts.length out/\∀n∈l,n.kids.length+3*eT ts.length xs<=aN
 | .ifs _ ys l out=>rL ts ys/\FN ts.length out/\∀n∈l,n.kids.length+3*eT ts.length ys<=aN
def Bs(b:Nat)(r:bW):Prop:=FN ts.length r.f/\r.e.length+r.l.length+3*fe ts.length r.f<=b
def Wn(f:ar)(r:bW):Prop:=Bs ts (3*fe ts.length f) r/\(f≠[]->r.e.length+r.l.length+3*fe ts.length r.f+1<=3*fe ts.length f)
def Bh(h:aB)(r:bW):Prop:=FN ts.length r.f/\r.e.length+r.l.length+3*fe ts.length r.f+1<=3*hp ts.length h
def lV:Call->bW->Prop
 | .lineO k o slot ops l g,r=>Bs ts (cU ts (.lineO k o slot ops l g)) r/\fe ts.length r.f+ops.length<=fe ts.length g+eT ts.length ops
 | .unary _ f _,r=>Wn ts f r
 | .unaryH _ h _,r=>Bh ts h r
 | .inside _ f _,r=>Wn ts f r
 | .listed _ _ f,r=>Wn ts f r
 | .block _ f _,r=>Wn ts f r
 | .stmt _ h,r=>Bh ts h r
 | .branch _ h _,r=>Bh ts h r
 | .elses o xs l out,r=>Bs ts (cU ts (.elses o xs l out)) r/\∀K,KB K l->KB (K+3*eT ts.length xs) r.l
 | .ifs o xs l out,r=>Bs ts (cU ts (.ifs o xs l out)) r/\∀K,KB K l->KB (K+3*eT ts.length xs) r.l
 |c,r=>Bs ts (cU ts c) r
def lG(rec:sY)(m:Nat):Prop:=∀c,lX ts c->cU ts c<=aN->mu ts c<m->∃r,rec c=some r/\lV ts c r
end
section
variable {ts:List Tok} {rec:sY}
variable{xs:List aB}
def rL.tail{x:aB}(h:rL ts (x::xs)):rL ts xs:=fun y hy=>h y (.tail _ hy)
def rL.head{x:aB}(h:rL ts (x::xs)):kS ts x/\x.at'<ts.length:=h x (.head _)
def rL.all(h:rL ts xs):∀y∈xs,kS ts y:=fun y hy=>(h y hy).1
variable{h:aB}
def kS.lt2(k:kS ts h){s:bq}(hs:s≠[])(e:h.text=s):h.at'<ts.length:=k.lt (.inl (by rw[e];exact hs))
variable{f:ar}
def kG(aa:bT ts)(fn:FN ts.length f){s:bq}(hs:s≠[]):rL ts (aM ts f (bD s)).1:=fun h hh=>by
 obtain⟨h1,h2⟩:=fm aa fn h hh;exact⟨h1,qo hs h1 h2⟩
def sL(ac:bT ts)(fn:FN ts.length f)(hb:3*fe ts.length f<=aN){g:aB->Option bW}
  (hg:∀h∈bE ts f,∃x,g h=some x/\Bh ts h x):∃r,cT ts f g=some r/\Wn ts f r:=by
 have key:∀(hs:List aB) (z:bW),(∀h∈hs,kS ts h/\∃x,g h=some x/\Bh ts h x)->FN ts.length z.f->z.e.length+z.l.length+3*(fe ts.length z.f+eT ts.length hs)<=aN->
   ∃r,lH (fun r h=>match g h with
    |some x=>if (r.l++x.l).length<=aN then some ⟨r.l++x.l,joinAll r.f x.f,r.e++x.e⟩else none
    |none=>none) z hs=some r/\FN ts.length r.f/\r.e.length+r.l.length+3*fe ts.length r.f+hs.length<=z.e.length+z.l.length+3*(fe ts.length z.f+eT ts.length hs):=by
  intro hs
  induction hs with
  |nil=>intro z _ hz _;exact⟨z,rfl,hz,by simp[eT]⟩
  |cons h hs ih=>
   intro z hh hz hb;obtain⟨h0,x,ex,hx,aj⟩:=hh h (.head _);rw[bo]at hb;have hj:=eC (N:=ts.length) hx.ok.all hz.ok;have hl:(z.l++x.l).length<=aN:=by rw[aa9];omega
   obtain⟨r,er,hr,aa⟩:=ih ⟨z.l++x.l,joinAll z.f x.f,z.e++x.e⟩ (fun t ht=>hh t (.tail _ ht)) (hz.joinAll hx) (by simp only[aa9];omega);refine⟨r,?_,hr,?_⟩
   ·simp only[lH,ex,aaq hl];exact er
   ·simp only[aa9]at aa;rw[bo,aaj];omega
 have h3:=hQ ac fn (N:=ts.length);obtain⟨r,er,hr,aa⟩:=key (bE ts f) ⟨[],[],[]⟩ (fun h hh=>⟨b9 ac fn hh,hg h hh⟩) (FN.nil _) (by simp only[aaO,dO];omega);simp only[aaO,dO]at aa;refine⟨r,er,⟨hr,ab⟩,fun ag=>?_⟩;have ak:=vT fn ag;cases hH:bE ts f with
 |nil=>rw[hH]at aa;simp only[aaO,o8]at aa;omega
 |cons h hs=>rw[hH]at aa h3;simp only[aaj]at aa;omega
def Bh.fail(k:kS ts h)(code:Nat):Bh ts h ⟨[],[],cJ h code⟩:=⟨FN.nil _,by
 have:=k.pos;simp only[nh,aaO,dO];omega⟩
variable{o slot:Nat}
def Kl{m k:Nat}(R:lG ts rec (mu ts (.line k o f slot)))(t:lX ts (.line k o f slot))(b:cU ts (.line k o f slot)<=aN):∃r,line rec k o f slot=some r/\lV ts (.line k o f slot) r:=by
 obtain⟨fn,hk⟩:=t;simp only[cU]at b;by_cases h5:k=5
 ·obtain⟨a,ea,qa⟩:=R (.unary o f slot) fn b (by simp only[mu];omega);exact⟨a,by rw[line,aaq h5,ea],qa.1⟩
 ·obtain⟨a,ea,qa⟩:=R (.line (k+1) o f slot) ⟨fn,ab⟩ b (by simp only[mu];omega);have qa2:=qa.2;simp only[cU]at qa2;obtain⟨c,ec,qc⟩:=R (.lineL k o slot true a.l a.f []) ⟨qa.1,FN.nil _,ab⟩ (by simp only[cU,dO];omega) (by simp only[mu];omega);have qc2:=qc.2;simp only[cU,dO]at qc2;refine⟨⟨c.l,c.f,a.e++c.e⟩,by rw[line,ZV h5,ea];simp only[abI,jO,ec],qc.1,?_⟩;simp only[cU,aa9];omega
variable{g:ar}{l:List Nd}
def Ic(aa:bT ts){k:Nat}{first:Bool}{out:ar}(R:lG ts rec (mu ts (.lineL k o slot first l g out)))(t:lX ts (.lineL k o slot first l g out))(b:cU ts (.lineL k o slot first l g out)<=aN):∃r,lineL ts rec k o slot first l g out=some r/\lV ts (.lineL k o slot first l g out) r:=by
 obtain⟨fg,fo,hk⟩:=t;simp only[cU]at b;by_cases h0:g=[]
 ·refine⟨⟨l,out,[]⟩,by rw[lineL,aaq h0],fo,?_⟩;simp only[cU,aaO];omega
 ·by_cases h2:k=2/\first=false
  ·have hj:=eC (N:=ts.length) fg.ok.all fo.ok;refine⟨⟨l,joinAll out g,[]⟩,by rw[lineL,ZV h0,aaq h2],fo.joinAll fg,?_⟩;simp only[cU,aaO];omega
  ·have hs:=iM aa fg (ti k);have ac:=vT fg h0;have ho:rL ts (aM ts g (ti k)).1:=fun h hh=>by
    obtain⟨h1,h3⟩:=fm aa fg h hh;refine⟨h1,h1.lt (.inr fun e=>?_)⟩;simp[ti,e]at h3
   have hr:=dC aa fg (ti k);have hj:=eC (N:=ts.length) hr.ok.all fo.ok;have ag:=wU ho.all;obtain⟨a,ea,qa,qa3⟩:=R (.lineO k o slot (aM ts g (ti k)).1 l []) ⟨ho,FN.nil _,hk⟩ (by simp only[cU,dO];omega) (by simp only[mu];omega);have qa2:=qa.2;simp only[cU,dO]at qa2 qa3;have aj:fe ts.length a.f<fe ts.length g:=by
    cases hq:(aM ts g (ti k)).1 with
    |nil=>rw[hq,o8]at qa3;omega
    |cons x xs=>rw[hq]at qa3 hs;simp only[aaj]at qa3;omega
   obtain⟨c,ec,qc⟩:=R (.lineL k o slot false a.l a.f (joinAll out (aM ts g (ti k)).2)) ⟨qa.1,fo.joinAll hr,hk⟩ (by simp only[cU];omega) (by simp only[mu];omega);have qc2:=qc.2;simp only[cU]at qc2;refine⟨⟨c.l,c.f,a.e++c.e⟩,by rw[lineL,ZV h0,ZV h2];simp only[abI,jO,ea,ec],qc.1,?_⟩;simp only[cU,aa9];omega
def HO{k:Nat}{ops:List aB}(R:lG ts rec (mu ts (.lineO k o slot ops l g)))(t:lX ts (.lineO k o slot ops l g))(b:cU ts (.lineO k o slot ops l g)<=aN):∃r,lineO rec k o slot ops l g=some r/\lV ts (.lineO k o slot ops l g) r:=by
 obtain⟨ho,fg,hk⟩:=t;simp only[cU]at b;cases ops with
 |nil=>exact⟨⟨l,g,[]⟩,rfl,⟨fg,by simp only[cU,aaO];omega⟩,by simp only[aaO];omega⟩
 |cons h ops=>
  obtain⟨h0,aa⟩:=ho.head;have hn:=h0.next;rw[bo]at b;obtain⟨a,ea,qa⟩:=R (.line (k+1) o (bv h) 1) ⟨bH h0 aa,ab⟩ (by simp only[cU,bz];omega) (by simp only[mu,bz,bo];omega);have qa2:=qa.2;simp only[cU,bz]at qa2;have h1:=z7 l h.cond;have h2:=wH l h.cond;have hj:=eC (N:=ts.length) qa.1.ok.all fg.ok;have c1:=tS (l:=fX l h.cond++a.l) (by rw[aa9];omega);have c2:=tS (l:=dH l h.cond++[⟨13,h.text,h.at',slot,fX l h.cond++a.l,h.cond⟩]) (by rw[aa9,aaJ];omega);obtain⟨c,ec,qc,qc3⟩:=R (.lineO k o slot ops (dH l h.cond++[⟨13,h.text,h.at',slot,fX l h.cond++a.l,h.cond⟩]) (joinAll g a.f)) ⟨ho.tail,fg.joinAll qa.1,hk⟩ (by simp only[cU,aa9,aaJ];omega) (by simp only[mu,bo];omega);have qc2:=qc.2;simp only[cU,aa9,aaJ]at qc2;refine⟨⟨c.l,c.f,a.e++c.e⟩,by simp only[lineO,abI,jO,ea,c1,c2,ec],⟨qc.1,?_⟩,?_⟩
  ·simp only[cU,aa9,bo];omega
  ·simp only[bo,aaj];omega
def HT(aa:bT ts)(R:lG ts rec (mu ts (.unary o f slot)))(t:lX ts (.unary o f slot))(b:cU ts (.unary o f slot)<=aN):∃r,cT ts f (fun h=>rec (.unaryH o h slot))=some r/\lV ts (.unary o f slot) r:=by
 have fn:FN ts.length f:=t;simp only[cU]at b;have hh:=hQ aa fn (N:=ts.length);refine sL aa fn b fun h hm=>?_;have ac:=pm ts.length hm;exact R (.unaryH o h slot) (b9 aa fn hm) (by simp only[cU];omega) (by simp only[mu];omega)
def Ez(aa:bT ts)(R:lG ts rec (mu ts (.unaryH o h slot)))(t:lX ts (.unaryH o h slot))(b:cU ts (.unaryH o h slot)<=aN):∃r,unaryH ts rec o h slot=some r/\lV ts (.unaryH o h slot) r:=by
 have h0:kS ts h:=t;have hn:=h0.next;simp only[cU]at b;unfold unaryH;split
 ·rename_i e;have ac:h.at'<ts.length:=e.elim (h0.lt2 bg) (h0.lt2 bg);split
  ·exact⟨_,rfl,Bh.fail h0 11⟩
  ·obtain⟨a,ea,qa⟩:=R (.unary (o+1) (bv h) 0) (bH h0 ac) (by simp only[cU,bz];omega) (by simp only[mu,bz];omega);have qa2:=qa.1.2;simp only[bz]at qa2;refine⟨⟨[⟨14,h.text,h.at',slot,a.l,h.cond⟩],a.f,a.e⟩,by simp only[abI,jO,ea],qa.1.1,?_⟩;simp only[aaJ];omega
 ·split
  ·obtain⟨a,ea,qa⟩:=R (.inside o (bX h) slot) (jk h0) (by simp only[cU,fR];omega) (by simp only[mu,fR];omega);have q2:=qa.2 (by simp[bX]);rw[fR]at q2;exact⟨a,ea,qa.1.1,q2⟩
  ·have leaf:h.at'<ts.length->∀nd,∃r:bW,some (⟨[nd],bv h,[]⟩:bW)=some r/\lV ts (.unaryH o h slot) r:=fun ac nd=>⟨_,rfl,bH h0 ac,by simp only[aaJ,aaO,bz];omega⟩;split
   ·rename_i e;exact leaf (h0.lt (.inr ab)) _
   ·split
    ·rename_i e;exact leaf (e.elim (h0.lt2 bg) (h0.lt2 bg)) _
    ·split
     ·rename_i e;exact leaf (h0.lt2 bg e) _
     ·have fh:=jk h0;obtain⟨⟨_,s1⟩,_⟩:=nz aa fh 18 slot;have s2:=s1 (by simp[bX]);unfold Sp at s2;rw[fR]at s2;have fa:=iy aa fh 18 slot;have ag:=iM aa fa (bD eM);have aj:=h0.pos;obtain⟨c,ec,qc⟩:=R (.calls o h slot (aM ts (named ts (bX h) 18 slot).f (bD eM)).1 (named ts (bX h) 18 slot).l (aM ts (named ts (bX h) 18 slot).f (bD eM)).2) ⟨kG aa fa bg,dC aa fa _⟩ (by simp only[cU];omega) (by simp only[mu];omega);have qc2:=qc.2;simp only[cU]at qc2;refine⟨⟨c.l,c.f,(named ts (bX h) 18 slot).e++c.e⟩,by simp only[abI,jO,ec],qc.1,?_⟩;simp only[aa9];omega
def Ih{names:List Nd}(R:lG ts rec (mu ts (.calls o h slot xs names g)))(t:lX ts (.calls o h slot xs names g))(b:cU ts (.calls o h slot xs names g)<=aN):∃r,calls rec o h slot xs names g=some r/\lV ts (.calls o h slot xs names g) r:=by
 obtain⟨hx,fg⟩:=t;simp only[cU]at b;cases xs with
 |nil=>exact⟨⟨names,g,[]⟩,rfl,fg,by simp only[cU,aaO];omega⟩
 |cons x xs=>
  obtain⟨h0,ac⟩:=hx.head;rw[bo]at b;obtain⟨a,ea,qa⟩:=R (.listed false o (bX x)) (jk h0) (by simp only[cU,fR];omega) (by simp only[mu,fR,bo];omega);have q2:=qa.2 (by simp[bX]);rw[fR]at q2;have hj:=eC (N:=ts.length) qa.1.1.ok.all fg.ok;have aa:=h0.pos;have c1:=tS (l:=kJ names x.cond++[⟨19,h.text,h.at',slot,a.l,x.cond⟩]) (by rw[aa9,aaJ,m7];omega);obtain⟨c,ec,qc⟩:=R (.calls o h slot xs (kJ names x.cond++[⟨19,h.text,h.at',slot,a.l,x.cond⟩]) (joinAll g a.f)) ⟨hx.tail,fg.joinAll qa.1.1⟩ (by simp only[cU,aa9,aaJ,m7];omega) (by simp only[mu,bo];omega);have qc2:=qc.2;simp only[cU,aa9,aaJ,m7]at qc2;refine⟨⟨c.l,c.f,a.e++c.e⟩,by simp only[calls,abI,jO,ea,c1,ec],qc.1,?_⟩;simp only[cU,aa9,bo];omega
def FZ(R:lG ts rec (mu ts (.sCalls o h xs l g)))(t:lX ts (.sCalls o h xs l g))(b:cU ts (.sCalls o h xs l g)<=aN):∃r,sCalls rec o h xs l g=some r/\lV ts (.sCalls o h xs l g) r:=by
 obtain⟨hx,fg⟩:=t;simp only[cU]at b;cases xs with
 |nil=>exact⟨⟨l,g,[]⟩,rfl,fg,by simp only[cU,aaO];omega⟩
 |cons x xs=>
  obtain⟨h0,ac⟩:=hx.head;rw[bo]at b;obtain⟨a,ea,qa⟩:=R (.listed false o (bX x)) (jk h0) (by simp only[cU,fR];omega) (by simp only[mu,fR,bo];omega);have q2:=qa.2 (by simp[bX]);rw[fR]at q2;have hj:=eC (N:=ts.length) qa.1.1.ok.all fg.ok;have aa:=h0.pos;have c1:=tS (l:=l++[⟨19,h.text,h.at',0,a.l,x.cond⟩]) (by rw[aa9,aaJ];omega);obtain⟨c,ec,qc⟩:=R (.sCalls o h xs (kJ (l++[⟨19,h.text,h.at',0,a.l,x.cond⟩]) x.cond) (joinAll g a.f)) ⟨hx.tail,fg.joinAll qa.1.1⟩ (by simp only[cU,aa9,aaJ,m7];omega) (by simp only[mu,bo];omega);have qc2:=qc.2;simp only[cU,aa9,aaJ,m7]at qc2;refine⟨⟨c.l,c.f,a.e++c.e⟩,by simp only[sCalls,abI,jO,ea,c1,ec],qc.1,?_⟩;simp only[cU,aa9,bo];omega
def Fh(aa:bT ts)(R:lG ts rec (mu ts (.inside o f slot)))(t:lX ts (.inside o f slot))(b:cU ts (.inside o f slot)<=aN):∃r,cT ts f (ml ts rec o slot)=some r/\lV ts (.inside o f slot) r:=by
 have fn:FN ts.length f:=t;simp only[cU]at b;have hh:=hQ aa fn (N:=ts.length);refine sL aa fn b fun h hm=>?_;have ag:=pm ts.length hm;have h0:=b9 aa fn hm;have hn:=h0.next;unfold ml;split
 ·exact⟨_,rfl,Bh.fail h0 10⟩
 ·rename_i e;split
  ·exact⟨_,rfl,Bh.fail h0 11⟩
  ·have ac:=h0.lt2 (s:=eM) bg (by simpa using e);obtain⟨a,ea,qa⟩:=R (.line 0 (o+1) (bv h) slot) ⟨bH h0 ac,ab⟩ (by simp only[cU,bz];omega) (by simp only[mu,bz];omega);have qa2:=qa.2;simp only[cU,bz]at qa2;have ht:=i7 aa qa.1 fK;refine⟨⟨a.l,(take ts a.f fK).1,a.e++(take ts a.f fK).2⟩,by simp only[abI,jO,ea],dK aa qa.1 bg,?_⟩;simp only[aa9];omega
variable{par:Bool}
def Ff(aa:bT ts)(R:lG ts rec (mu ts (.listed par o f)))(t:lX ts (.listed par o f))(b:cU ts (.listed par o f)<=aN):∃r,cT ts f (mw ts rec par o)=some r/\lV ts (.listed par o f) r:=by
 have fn:FN ts.length f:=t;simp only[cU]at b;have hh:=hQ aa fn (N:=ts.length);refine sL aa fn b fun h hm=>?_;have ag:=pm ts.length hm;have h0:=b9 aa fn hm;have hn:=h0.next;unfold mw;split
 ·exact⟨_,rfl,Bh.fail h0 10⟩
 ·rename_i e;split
  ·exact⟨_,rfl,Bh.fail h0 11⟩
  ·have ac:=h0.lt2 (s:=eM) bg (by simpa using e);have fa:=bH h0 ac;have hs:=iM aa fa (bD fK);rw[bz]at hs;have hy:=kG aa fa (s:=fK) bg;have hj:=qL (N:=ts.length) (fun x hx=>(hy.all x hx).ok) cq.nil;rw[dO]at hj;obtain⟨a,ea,qa⟩:=R (.listL par (o+1) [] (aM ts (bv h) (bD fK)).2 ((aM ts (bv h) (bD fK)).1.foldl joinH [])) ⟨dC aa fa _,lJ hy.all (FN.nil _)⟩ (by simp only[cU,aaO];omega) (by simp only[mu];omega);have qa2:=qa.2;simp only[cU,aaO]at qa2;have ht:=i7 aa qa.1 fK;refine⟨⟨a.l,(take ts a.f fK).1,a.e++(take ts a.f fK).2⟩,by simp only[abI,jO,ea],dK aa qa.1 bg,?_⟩;simp only[aa9];omega
def Jm(aa:bT ts){fin:ar}(R:lG ts rec (mu ts (.listL par o l g fin)))(t:lX ts (.listL par o l g fin))(b:cU ts (.listL par o l g fin)<=aN):∃r,listL ts rec par o l g fin=some r/\lV ts (.listL par o l g fin) r:=by
 obtain⟨fg,ff'⟩:=t;simp only[cU]at b;cases g with
 |nil=>exact⟨⟨l,fin,[]⟩,rfl,ff',by simp only[cU,aaO];omega⟩
 |cons s g=>
  have fs:FN ts.length [s]:=⟨fg.ok.head,fun x hx=>by simp at hx;subst hx;exact fg.le _ (.head _)⟩;have fg2:FN ts.length g:=⟨fg.ok.tail,fun x hx=>fg.le x (.tail _ hx)⟩;have ac:=vT fs (by simp);have e1:fe ts.length [s]=lp ts.length s.1 s.2:=by simp[fe]
  rw[fO]at b;obtain⟨a,ea,qa⟩:=R (.item par o [s]) fs (by simp only[cU];omega) (by simp only[mu,fO,dO];omega);have qa2:=qa.2;simp only[cU]at qa2;have hs:=iM aa qa.1 (bD bB);have hy:=kG aa qa.1 (s:=bB) bg;have hj:=xu hy.all fg2.ok;have hr:=dC aa qa.1 (bD bB);have aj:=eC (N:=ts.length) hr.ok.all ff'.ok;have c1:=tS (l:=l++a.l) (by rw[aa9];omega);have ag:fe ts.length ((aM ts a.f (bD bB)).1.foldl joinH1 g)<lp ts.length s.1 s.2+fe ts.length g:=by
   cases hq:(aM ts a.f (bD bB)).1 with
   |nil=>simp only[List.foldl_nil];omega
   |cons x xs=>rw[hq]at hj hs;simp only[aaj]at hj;omega
  obtain⟨c,ec,qc⟩:=R (.listL par o (l++a.l) ((aM ts a.f (bD bB)).1.foldl joinH1 g) (joinAll fin (aM ts a.f (bD bB)).2)) ⟨m8 hy fg2,ff'.joinAll hr⟩ (by simp only[cU,aa9];omega) (by simp only[mu,fO];omega);have qc2:=qc.2;simp only[cU,aa9]at qc2;refine⟨⟨c.l,c.f,a.e++c.e⟩,by simp only[listL,abI,jO,ea,c1,ec],qc.1,?_⟩;simp only[cU,aa9,fO];omega
def KB.zero(h:∀n∈l,n.kids=[]):KB 0 l:=fun n hn=>by rw[h n hn];exact ZR _
def Ll(aa:bT ts)(R:lG ts rec (mu ts (.item par o f)))(t:lX ts (.item par o f))(b:cU ts (.item par o f)<=aN):∃r,item ts rec par o f=some r/\lV ts (.item par o f) r:=by
 have fn:FN ts.length f:=t;simp only[cU]at b;cases par with
 |false=>
  obtain⟨a,ea,qa⟩:=R (.line 0 o f 0) ⟨fn,ab⟩ b (by simp only[mu];omega);exact⟨a,by unfold item;simp only[aa5,reduceIte,ea],qa⟩
 |true=>
  obtain⟨⟨s1,_⟩,k1⟩:=nz aa fn 4 0;unfold Sp at s1;have f1:=iy aa fn 4 0;have ht:=i7 aa f1 bA;have f2:=dK aa f1 (s:=bA) bg;obtain⟨s3,_⟩:=uz aa f2 0;unfold Sp at s3;have f3:=sP aa f2 0;obtain⟨g1,g2,_⟩:=dW (KB.zero k1) (ks:=(sW ts (take ts (named ts f 4 0).f bA).1 0).l) ab;refine⟨⟨give (named ts f 4 0).l (sW ts (take ts (named ts f 4 0).f bA).1 0).l,(sW ts (take ts (named ts f 4 0).f bA).1 0).f,(named ts f 4 0).e++(take ts (named ts f 4 0).f bA).2++(sW ts (take ts (named ts f 4 0).f bA).1 0).e⟩,by unfold item;simp only[reduceIte,abI,jO,g1],f3,?_⟩;simp only[cU,aa9,g2];omega
def F0(aa:bT ts){typ:Bool}{sign:bq}(R:lG ts rec (mu ts (.behind typ o f sign slot)))(t:lX ts (.behind typ o f sign slot))(b:cU ts (.behind typ o f sign slot)<=aN):∃r,behind ts rec typ o f sign slot=some r/\lV ts (.behind typ o f sign slot) r:=by
 obtain⟨fn,ac⟩:=t;simp only[cU]at b;have hs:=iM aa fn (bD sign);have hy:=kG aa fn ac;have hr:=dC aa fn (bD sign);have hj:=xu hy.all cq.nil;rw[dO]at hj;have f1:=m8 hy (FN.nil _);have key:∃a,wu ts rec typ o ((aM ts f (bD sign)).1.foldl joinH1 []) slot=some a/\Bs ts (3*fe ts.length ((aM ts f (bD sign)).1.foldl joinH1 [])) a:=by
  cases typ with
  |true=>exact⟨_,rfl,sP aa f1 slot,(uz aa f1 slot).1⟩
  |false=>exact R (.line 0 o ((aM ts f (bD sign)).1.foldl joinH1 []) slot) ⟨f1,ab⟩ (by simp only[cU];omega) (by simp only[mu];omega)
 obtain⟨a,ea,qa1,qa2⟩:=key;have ag:=eC (N:=ts.length) qa1.ok.all hr.ok;refine⟨⟨a.l,joinAll (aM ts f (bD sign)).2 a.f,a.e⟩,by unfold behind;simp only[abI,jO,ea],hr.joinAll qa1,?_⟩;simp only[cU];omega
def Be(aa:bT ts)(R:lG ts rec (mu ts (.vrb o f)))(t:lX ts (.vrb o f))(b:cU ts (.vrb o f)<=aN):∃r,jQ ts rec o f=some r/\lV ts (.vrb o f) r:=by
 have fn:FN ts.length f:=t;simp only[cU]at b;obtain⟨⟨s1,_⟩,k1⟩:=nz aa fn 2 0;unfold Sp at s1;have f1:=iy aa fn 2 0;have ht:=i7 aa f1 bA;have f2:=dK aa f1 (s:=bA) bg;obtain⟨s3,_⟩:=uz aa f2 0;unfold Sp at s3;have f3:=sP aa f2 0;obtain⟨c,ec,qc⟩:=R (.behind false o (sW ts (take ts (named ts f 2 0).f bA).1 0).f su 1) ⟨f3,by decide⟩ (by simp only[cU];omega) (by simp only[mu];omega);have qc2:=qc.2;simp only[cU]at qc2;obtain⟨g1,g2,g3⟩:=dW (KB.zero k1) (ks:=(sW ts (take ts (named ts f 2 0).f bA).1 0).l) ab;obtain⟨g4,g5,_⟩:=dW g3 (ks:=c.l) ab;have ac:=i7 aa qc.1 a8;refine⟨⟨give (give (named ts f 2 0).l (sW ts (take ts (named ts f 2 0).f bA).1 0).l) c.l,(take ts c.f a8).1,(named ts f 2 0).e++(take ts (named ts f 2 0).f bA).2++(sW ts (take ts (named ts f 2 0).f bA).1 0).e++c.e++(take ts c.f a8).2⟩,by unfold jQ;simp only[abI,jO,ec,g1,g4],dK aa qc.1 bg,?_⟩;simp only[cU,aa9,g2,g5];omega
def AX(aa:bT ts)(R:lG ts rec (mu ts (.function o f)))(t:lX ts (.function o f))(b:cU ts (.function o f)<=aN):∃r,function ts rec o f=some r/\lV ts (.function o f) r:=by
 have fn:FN ts.length f:=t;simp only[cU]at b;obtain⟨⟨s1,_⟩,k1⟩:=nz aa fn 3 0;unfold Sp at s1;have f1:=iy aa fn 3 0;obtain⟨c,ec,qc⟩:=R (.listed true o (named ts f 3 0).f) f1 (by simp only[cU];omega) (by simp only[mu];omega);have qc2:=qc.1.2;obtain⟨d,ed,qd⟩:=R (.behind true o c.f bA 1) ⟨qc.1.1,by decide⟩ (by simp only[cU];omega) (by simp only[mu];omega);have qd2:=qd.2;simp only[cU]at qd2;obtain⟨x,ex,qx⟩:=R (.block o d.f 2) qd.1 (by simp only[cU];omega) (by simp only[mu];omega);have qx2:=qx.1.2;obtain⟨g1,g2,g3⟩:=dW (KB.zero k1) (ks:=c.l) ab;obtain⟨g4,g5,g6⟩:=dW g3 (ks:=d.l) ab;obtain⟨g7,g8,_⟩:=dW g6 (ks:=x.l) ab;refine⟨⟨give (give (give (named ts f 3 0).l c.l) d.l) x.l,x.f,(named ts f 3 0).e++c.e++d.e++x.e⟩,by unfold function;simp only[abI,jO,ec,ed,ex,g1,g4,g7],qx.1.1,?_⟩;simp only[cU,aa9,g2,g5,g8];omega
def Iu(aa:bT ts)(R:lG ts rec (mu ts (.block o f slot)))(t:lX ts (.block o f slot))(b:cU ts (.block o f slot)<=aN):∃r,cT ts f (oZ ts rec o slot)=some r/\lV ts (.block o f slot) r:=by
 have fn:FN ts.length f:=t;simp only[cU]at b;have hh:=hQ aa fn (N:=ts.length);refine sL aa fn b fun h hm=>?_;have ag:=pm ts.length hm;have h0:=b9 aa fn hm;have hn:=h0.next;unfold oZ;split
 ·exact⟨_,rfl,Bh.fail h0 10⟩
 ·rename_i e;split
  ·exact⟨_,rfl,Bh.fail h0 11⟩
  ·have ac:=h0.lt2 (s:=Im) bg (by simpa using e);obtain⟨a,ea,qa⟩:=R (.seqL false (o+1) (bv h) [] []) ⟨bH h0 ac,FN.nil _⟩ (by simp only[cU,aaO,bz,dO];omega) (by simp only[mu,bz];omega);have qa2:=qa.2;simp only[cU,aaO,bz,dO]at qa2;have ht:=i7 aa qa.1 qD;refine⟨⟨[⟨6,[],h.at',slot,a.l,h.cond⟩],(take ts a.f qD).1,a.e++(take ts a.f qD).2⟩,by simp only[abI,jO,ea],dK aa qa.1 bg,?_⟩;simp only[aa9,aaJ];omega
end
open Dg
section
variable {ts:List Tok} {rec:sY}
variable{out:ar}{l:List Nd}{o:Nat}
def H5(aa:bT ts){xs:List aB}(R:lG ts rec (mu ts (.elses o xs l out)))(t:lX ts (.elses o xs l out))(b:cU ts (.elses o xs l out)<=aN):∃r,elses ts rec o xs l out=some r/\lV ts (.elses o xs l out) r:=by
 obtain⟨hx,fo,hK⟩:=t;simp only[cU]at b;cases xs with
 |nil=>exact⟨⟨l,out,[]⟩,rfl,⟨fo,by simp only[cU,aaO];omega⟩,fun K hk=>by simpa[o8]using hk⟩
 |cons x xs=>
  obtain⟨h0,ac⟩:=hx.head;have hn:=h0.next;rw[bo]at b hK;have fa:=bH h0 ac;have hs:=iM aa fa (bD kT);rw[bz]at hs;have hr:=dC aa fa (bD kT);obtain⟨a,ea,qa⟩:=R (.block o (aM ts (bv x) (bD kT)).2 2) hr (by simp only[cU];omega) (by simp only[mu,bo];omega);have qa2:=qa.1.2;have hj:=eC (N:=ts.length) qa.1.1.ok.all fo.ok;obtain⟨g1,g2,_⟩:=dW (l:=l) (ks:=a.l) (K:=aN-(3*(hp ts.length x+eT ts.length xs))) (fun n hn=>by have:=hK n hn;omega) ab;have gk:∀K,KB K l->KB (K+a.l.length) (give l a.l):=fun K hk n hn=>by
   obtain⟨m,hm,rfl⟩:=List.mem_map.1 hn;have:=hk m hm;simp only[aa9];omega
  have gk2:∀n∈give l a.l,n.kids.length+3*eT ts.length (aM ts (bv x) (bD kT)).1+3*eT ts.length xs<=aN:=fun n hn=>by
   obtain⟨m,hm,rfl⟩:=List.mem_map.1 hn;have:=hK m hm;simp only[aa9];omega
  obtain⟨c,ec,qc,kc⟩:=R (.ifs o (aM ts (bv x) (bD kT)).1 (give l a.l) (joinAll out a.f)) ⟨kG aa fa bg,fo.joinAll qa.1.1,fun n hn=>by have:=gk2 n hn;omega⟩ (by simp only[cU,g2];omega) (by simp only[mu,bo];omega);have qc2:=qc.2;simp only[cU,g2]at qc2;obtain⟨d,ed,qd,kd⟩:=R (.elses o xs c.l c.f) ⟨hx.tail,qc.1,fun n hn=>by
   have:=kc (aN-3*eT ts.length (aM ts (bv x) (bD kT)).1-3*eT ts.length xs) (fun n hn=>by have:=gk2 n hn;omega) n hn;have hh:=gk2;have:3*eT ts.length (aM ts (bv x) (bD kT)).1+3*eT ts.length xs<=aN:=by omega
   omega⟩ (by simp only[cU];omega) (by simp only[mu,bo];omega)
  have qd2:=qd.2;simp only[cU]at qd2;refine⟨⟨d.l,d.f,a.e++c.e++d.e⟩,by simp only[elses,abI,jO,ea,g1,ec,ed],⟨qd.1,?_⟩,fun K hk n hn=>?_⟩
  ·simp only[cU,aa9,bo];omega
  ·have:=kd _ (kc _ (gk K hk)) n hn;rw[bo];omega
def Ph{ys:List aB}(R:lG ts rec (mu ts (.ifs o ys l out)))(t:lX ts (.ifs o ys l out))(b:cU ts (.ifs o ys l out)<=aN):∃r,ifs rec o ys l out=some r/\lV ts (.ifs o ys l out) r:=by
 obtain⟨hx,fo,hK⟩:=t;simp only[cU]at b;cases ys with
 |nil=>exact⟨⟨l,out,[]⟩,rfl,⟨fo,by simp only[cU,aaO];omega⟩,fun K hk=>by simpa[o8]using hk⟩
 |cons y ys=>
  obtain⟨h0,ac⟩:=hx.head;have aa:=h0.pos;rw[bo]at b hK;by_cases e:o=64
  ·obtain⟨d,ed,qd,kd⟩:=R (.ifs o ys l out) ⟨hx.tail,fo,fun n hn=>by have:=hK n hn;omega⟩ (by simp only[cU];omega) (by simp only[mu,bo];omega);have qd2:=qd.2;simp only[cU]at qd2;refine⟨⟨d.l,d.f,cJ y 11++d.e⟩,by simp only[ifs,aaq e,abI,jO,ed],⟨qd.1,?_⟩,fun K hk n hn=>?_⟩
   ·simp only[cU,aa9,bo,nh];omega
   ·have:=kd K hk n hn;rw[bo];omega
  ·obtain⟨a,ea,qa,qa2⟩:=R (.branch (o+1) y 2) ⟨h0,ac⟩ (by simp only[cU];omega) (by simp only[mu,bo];omega);have hj:=eC (N:=ts.length) qa.ok.all fo.ok;obtain⟨g1,g2,_⟩:=dW (l:=l) (ks:=a.l) (K:=aN-(3*(hp ts.length y+eT ts.length ys))) (fun n hn=>by have:=hK n hn;omega) ab;have gk:∀K,KB K l->KB (K+a.l.length) (give l a.l):=fun K hk n hn=>by
    obtain⟨m,hm,rfl⟩:=List.mem_map.1 hn;have:=hk m hm;simp only[aa9];omega
   obtain⟨d,ed,qd,kd⟩:=R (.ifs o ys (give l a.l) (joinAll out a.f)) ⟨hx.tail,fo.joinAll qa,fun n hn=>by
    obtain⟨m,hm,rfl⟩:=List.mem_map.1 hn;have:=hK m hm;simp only[aa9];omega⟩ (by simp only[cU,g2];omega) (by simp only[mu,bo];omega)
   have qd2:=qd.2;simp only[cU,g2]at qd2;refine⟨⟨d.l,d.f,a.e++d.e⟩,by simp only[ifs,ZV e,abI,jO,ea,g1,ed],⟨qd.1,?_⟩,fun K hk n hn=>?_⟩
   ·simp only[cU,aa9,bo];omega
   ·have:=kd _ (gk K hk) n hn;rw[bo];omega
variable{h:aB}
def ET(aa:bT ts){slot:Nat}(R:lG ts rec (mu ts (.branch o h slot)))(t:lX ts (.branch o h slot))(b:cU ts (.branch o h slot)<=aN):∃r,branch ts rec o h slot=some r/\lV ts (.branch o h slot) r:=by
 obtain⟨h0,ac⟩:=t;have hn:=h0.next;simp only[cU]at b;obtain⟨a,ea,qa⟩:=R (.inside o (bv h) 0) (bH h0 ac) (by simp only[cU,bz];omega) (by simp only[mu,bz];omega);have qa2:=qa.1.2;rw[bz]at qa2;obtain⟨c,ec,qc⟩:=R (.block o a.f 1) qa.1.1 (by simp only[cU];omega) (by simp only[mu];omega);have qc2:=qc.1.2;obtain⟨g1,g2,g3⟩:=dW (l:=[gz 8 h slot]) (K:=0) (ks:=a.l) (fun n hn=>by simp at hn;subst hn;exact ZR _) ab;obtain⟨g4,g5,g6⟩:=dW g3 (ks:=c.l) ab;have hs:=iM aa qc.1.1 (bD dr);have hl:(give (give [gz 8 h slot] a.l) c.l).length=1:=by rw[g5,g2];rfl
 obtain⟨d,ed,qd,_⟩:=R (.elses o (aM ts c.f (bD dr)).1 (give (give [gz 8 h slot] a.l) c.l) (aM ts c.f (bD dr)).2) ⟨kG aa qc.1.1 bg,dC aa qc.1.1 _,fun n hn=>by have:=g6 n hn;omega⟩ (by simp only[cU,hl];omega) (by simp only[mu];omega);have qd2:=qd.2;simp only[cU,hl]at qd2;refine⟨⟨d.l,d.f,a.e++c.e++d.e⟩,by simp only[branch,abI,jO,ea,ec,g1,g4,ed],qd.1,?_⟩;simp only[aa9];omega
def tM(k slot:Nat)(h:aB):KB 0 [gz k h slot]:=fun n hn=>by simp at hn;subst hn;exact ZR _
def JK(aa:bT ts)(R:lG ts rec (mu ts (.stmt o h)))(t:lX ts (.stmt o h))(b:cU ts (.stmt o h)<=aN):∃r,stmt ts rec o h=some r/\lV ts (.stmt o h) r:=by
 have h0:kS ts h:=t;have hn:=h0.next;simp only[cU]at b;unfold stmt;split
 ·rename_i e;have fa:=bH h0 (h0.lt2 bg e);obtain⟨a,ea,qa⟩:=R (.vrb o (bv h)) fa (by simp only[cU,bz];omega) (by simp only[mu,bz];omega);have qa2:=qa.2;simp only[cU,bz]at qa2;exact⟨a,ea,qa.1,ab⟩
 split
 ·rename_i e;exact R (.branch o h 0) ⟨h0,h0.lt2 bg e⟩ b (by simp only[mu];omega)
 split
 ·rename_i e;have fa:=bH h0 (h0.lt2 bg e);obtain⟨a,ea,qa⟩:=R (.inside o (bv h) 0) fa (by simp only[cU,bz];omega) (by simp only[mu,bz];omega);have qa2:=qa.1.2;rw[bz]at qa2;obtain⟨c,ec,qc⟩:=R (.block o a.f 1) qa.1.1 (by simp only[cU];omega) (by simp only[mu];omega);have qc2:=qc.1.2;obtain⟨g1,g2,g3⟩:=dW (tM 9 0 h) (ks:=a.l) ab;obtain⟨g4,g5,g6⟩:=dW g3 (ks:=c.l) ab;have hl:(give (give [gz 9 h 0] a.l) c.l).length=1:=by rw[g5,g2];rfl
  refine⟨⟨give (give [gz 9 h 0] a.l) c.l,c.f,a.e++c.e⟩,by simp only[abI,jO,ea,ec,g1,g4],qc.1.1,?_⟩;simp only[aa9,hl];omega
 split
 ·obtain⟨a,ea,qa⟩:=R (.block o (bX h) 0) (jk h0) (by simp only[cU,fR];omega) (by simp only[mu,fR];omega);have q2:=qa.2 (by simp[bX]);rw[fR]at q2;exact⟨a,ea,qa.1.1,q2⟩
 split
 ·rename_i e;have fa:=bH h0 (h0.lt2 bg e);have hs:=iM aa fa (bD a8);rw[bz]at hs;have hr:=dC aa fa (bD a8);have hy:rL ts (aM ts (bv h) (bD a8)).1:=kG aa fa bg;obtain⟨a,ea,qa⟩:=R (.line 0 o (aM ts (bv h) (bD a8)).2 0) ⟨hr,ab⟩ (by simp only[cU];omega) (by simp only[mu];omega);have qa2:=qa.2;simp only[cU]at qa2;obtain⟨g1,g2,g3⟩:=dW (tM 10 0 h) (ks:=a.l) ab;have hl:(give [gz 10 h 0] a.l).length=1:=by rw[g2];rfl
  have hj:=qL (N:=ts.length) (fun x hx=>(hy.all x hx).ok) qa.1.ok;have fj:=lJ hy.all qa.1;have ht:=i7 aa fj a8;refine⟨⟨give [gz 10 h 0] a.l,(take ts ((aM ts (bv h) (bD a8)).1.foldl joinH a.f) a8).1,a.e++(take ts ((aM ts (bv h) (bD a8)).1.foldl joinH a.f) a8).2⟩,by simp only[abI,jO,ea,g1],dK aa fj bg,?_⟩;simp only[aa9,hl];omega
 split
 ·rename_i e;have fa:=bH h0 (e.elim (h0.lt2 bg) (h0.lt2 bg));obtain⟨a,ea,qa⟩:=R (.line 0 o (bv h) 0) ⟨fa,ab⟩ (by simp only[cU,bz];omega) (by simp only[mu,bz];omega);have qa2:=qa.2;simp only[cU,bz]at qa2;obtain⟨g1,g2,g3⟩:=dW (tM (if h.text=ew then 12 else 11) 0 h) (ks:=a.l) ab;have hl:(give [gz (if h.text=ew then 12 else 11) h 0] a.l).length=1:=by rw[g2];rfl
  have ht:=i7 aa qa.1 a8;refine⟨⟨give [gz (if h.text=ew then 12 else 11) h 0] a.l,(take ts a.f a8).1,a.e++(take ts a.f a8).2⟩,by simp only[abI,jO,ea,g1],dK aa qa.1 bg,?_⟩;simp only[aa9,hl];omega
 have fh:=jk h0;obtain⟨⟨_,s1⟩,k1⟩:=nz aa fh 7 0;have s2:=s1 (by simp[bX]);unfold Sp at s2;rw[fR]at s2;have aj:=h0.pos;have fa:=iy aa fh 7 0;by_cases e:(named ts (bX h) 7 0).l=[]
 ·refine⟨⟨[],[],(named ts (bX h) 7 0).e⟩,by simp only[aaq e],FN.nil _,?_⟩;simp only[aaO,dO];omega
 ·have ag:=iM aa fa (bD eM);have fs:=dC aa fa (bD eM);have ht:=i7 aa fs su;have f2:=dK aa fs (s:=su) bg;obtain⟨a,ea,qa⟩:=R (.line 0 o (take ts (aM ts (named ts (bX h) 7 0).f (bD eM)).2 su).1 0) ⟨f2,ab⟩ (by simp only[cU];omega) (by simp only[mu];omega);have qa2:=qa.2;simp only[cU]at qa2;obtain⟨g1,g2,g3⟩:=dW (KB.zero k1) (ks:=a.l) ab;obtain⟨c,ec,qc⟩:=R (.sCalls o h (aM ts (named ts (bX h) 7 0).f (bD eM)).1 (give (named ts (bX h) 7 0).l a.l) a.f) ⟨kG aa fa bg,qa.1⟩ (by simp only[cU,g2];omega) (by simp only[mu];omega);have qc2:=qc.2;simp only[cU,g2]at qc2;have ac:=i7 aa qc.1 a8;refine⟨⟨c.l,(take ts c.f a8).1,(named ts (bX h) 7 0).e++(take ts (aM ts (named ts (bX h) 7 0).f (bD eM)).2 su).2++a.e++c.e++(take ts c.f a8).2⟩,by simp only[ZV e,abI,jO,ea,g1,ec],dK aa qc.1 bg,?_⟩;simp only[aa9];omega
variable{top:Bool}
def Nh(aa:bT ts){m:Nat}(hm:64*hp ts.length h+45<m)(R:lG ts rec m)(h0:kS ts h)(b:3*hp ts.length h<=aN):∃r,zy rec top o h=some r/\Bh ts h r:=by
 have hn:=h0.next;cases top with
 |false=>exact R (.stmt o h) h0 b (by simp only[mu];omega)
 |true=>
  show ∃r,qj rec o h=some r/\_;unfold qj;split
  ·rename_i e;have fa:=bH h0 (h0.lt2 bg e);obtain⟨a,ea,qa⟩:=R (.vrb o (bv h)) fa (by simp only[cU,bz];omega) (by simp only[mu,bz];omega);have qa2:=qa.2;simp only[cU,bz]at qa2;exact⟨a,ea,qa.1,ab⟩
  split
  ·rename_i e;have fa:=bH h0 (h0.lt2 bg e);obtain⟨a,ea,qa⟩:=R (.function o (bv h)) fa (by simp only[cU,bz];omega) (by simp only[mu,bz];omega);have qa2:=qa.2;simp only[cU,bz]at qa2;exact⟨a,ea,qa.1,ab⟩
  ·exact⟨_,rfl,Bh.fail h0 10⟩
def Mw(aa:bT ts){f:ar}(R:lG ts rec (mu ts (.seqL top o f l out)))(t:lX ts (.seqL top o f l out))(b:cU ts (.seqL top o f l out)<=aN):∃r,seqL ts rec top o f l out=some r/\lV ts (.seqL top o f l out) r:=by
 obtain⟨fn,fo⟩:=t;simp only[cU]at b;have hh:=hQ aa fn (N:=ts.length);have hm:=fun h (hm:h∈bE ts f)=>b9 aa fn hm;unfold seqL;split
 ·refine⟨⟨l,out,[]⟩,rfl,fo,?_⟩;simp only[cU,aaO];omega
 ·rename_i h hs eH;rw[eH]at hh hm;rw[bo]at hh;have h0:=hm h (.head _);have aj:=h0.pos;have ac:=fun x (hx:x∈hs)=>hm x (.tail _ hx);have ag:=fun{z:ar}=>qL (N:=ts.length) (f:=z) (fun x hx=>(ac x hx).ok);split
  ·have hj:=ag cq.nil;rw[dO]at hj;have ak:=jF (N:=ts.length) fo.ok.all (a:=h.at') h0.ok;have am:fe ts.length (joinH out h)<=fe ts.length out+hp ts.length h:=ak;obtain⟨a,ea,qa⟩:=R (.seqL top o (hs.foldl joinH []) l (joinH out h)) ⟨lJ ac (FN.nil _),fo.join h0.le h0.ok⟩ (by simp only[cU];omega) (by simp only[mu];omega);have qa2:=qa.2;simp only[cU]at qa2;refine⟨a,ea,qa.1,?_⟩;simp only[cU];omega
  ·obtain⟨a,ea,qa,qa2⟩:=Nh (top:=top) (o:=o) aa (m:=mu ts (.seqL top o f l out)) (by simp only[mu];omega) R h0 ab;have c1:=tS (l:=l++a.l) (by rw[aa9];omega);have al:=eC (N:=ts.length) qa.ok.all cq.nil;rw[dO]at al;have f0:=(FN.nil ts.length).joinAll qa;have hj:=ag f0.ok;obtain⟨c,ec,qc⟩:=R (.seqL top o (hs.foldl joinH (joinAll [] a.f)) (l++a.l) out) ⟨lJ ac f0,fo⟩ (by simp only[cU,aa9];omega) (by simp only[mu];omega);have qc2:=qc.2;simp only[cU,aa9]at qc2;refine⟨⟨c.l,c.f,a.e++c.e⟩,by simp only[abI,jO,ea,c1,ec],qc.1,?_⟩;simp only[cU,aa9];omega
def G2(aa:bT ts):∀n,lG ts (run ts n) n
 |0=>fun c _ _ h=>absurd h (Nat.not_lt_zero _)
 |n+1=>fun c t b h=>by
  have R:lG ts (run ts n) (mu ts c):=fun d td bd hd=>G2 aa n d td bd ab;show ∃r,step ts (run ts n) c=some r/\_;cases c with
  |line=>exact Kl (m:=0) R t b
  |lineL=>exact Ic aa R t b
  |lineO=>exact HO R t b
  |unary=>exact HT aa R t b
  |unaryH=>exact Ez aa R t b
  |calls=>exact Ih R t b
  |inside=>exact Fh aa R t b
  |listed=>exact Ff aa R t b
  |listL=>exact Jm aa R t b
  |item=>exact Ll aa R t b
  |behind=>exact F0 aa R t b
  |vrb=>exact Be aa R t b
  |function=>exact AX aa R t b
  |block=>exact Iu aa R t b
  |seqL=>exact Mw aa R t b
  |stmt=>exact JK aa R t b
  |sCalls=>exact FZ R t b
  |branch=>exact ET aa R t b
  |elses=>exact H5 aa R t b
  |ifs=>exact Ph R t b
end
open Dg
section
variable {c:bP} {ts:List Tok}
def Good(c:bP)(ts:List Tok)(rec:sY):Prop:=∀x r,rec x=some r->∀y,yZ c ts x y->∃q,PV c ts y q/\RR c r q
theorem mz(c:bP)(ts:List Tok)(p:Option Nat)(is:Nat->Bool):qz c ts p is=(p.map (nx c ts)).filter is:=rfl
def iQ (o : Option Nat) (is : Nat → Bool) : (o.filter is = none) ∨ (o.filter fun i => !is i) = none := by
  cases o with
  | none => exact .inl rfl
  | some i => cases h : is i
              · exact .inl (by simp [Option.filter, h])
              · exact .inr (by simp [Option.filter, h])
def If(aa:bT ts){rec:sY}(G:Good c ts rec){k o slot:Nat}{f:ar}{p:Option Nat}{r:bW}(e:line rec k o f slot=some r)(hf:cq f)(hp:At c f p):∃q,PV c ts (.line k o p slot) q/\RR c r q:=by
 unfold line at e;split at e
 ·rename_i hk;obtain⟨q,h1,h2⟩:=G _ _ e _ (.unary hf hp);exact⟨q,h1.step1 fun r hr=>by simp only[aC,ni,aaq hk];exact hr,h2⟩
 ·rename_i hk;simp only[abI,abJ,ZW]at e;obtain⟨a,ha,b,hb,rfl⟩:=e;obtain⟨q,h1,h2⟩:=G _ _ ha _ (.line hf hp);obtain⟨u,h3,h4⟩:=G _ _ hb _ (.lineL h2.lok h2.l h2.fok h2.f cq.nil (At.nil c) (.inr rfl));exact⟨_,h1.step2 h3 fun r hr hs=>by simp only[aC,ni,ZV hk,hr,abI,jO,hs],h2.app h4⟩
theorem SM(k i:Nat)(d:T):ti k ⟨i,d,K ts i,X ts i⟩=gK ts k i:=rfl
theorem nW(s:bq)(i:Nat)(d:T):bD s ⟨i,d,K ts i,X ts i⟩=pi ts s i:=rfl
def EE (aj : bT ts) {rec : sY} (G : Good c ts rec) {k o slot : Nat} {first : Bool} {l l' : List Nd} {g out : ar} {g' out' : Option Nat} {r : bW} (e : lineL ts rec k o slot first l g out = some r) (hl : iE l) (pl : pL c l = l') (hg : cq g) (pg : At c g g') (ho : cq out) (po : At c out out') (ag : g' = none ∨ out' = none) :
    ∃ q, PV c ts (.lineL k o slot first l' g' out') q ∧ RR c r q := by
  unfold lineL at e
  split at e
  · rename_i hz
    subst hz
    cases e
    have : g' = none := by cases g' with
      | none => rfl
      | some i => simp [At, eS] at pg
    subst this
    exact ⟨⟨l', out', []⟩, PV.step0 fun r => rfl, ho, hl, eU, pl, po, rfl⟩
  · split at e
    · rename_i hk
      cases e
      refine ⟨⟨l', out'.or g', []⟩, PV.step0 fun r => ?_, dY (fun s hs => (hg.1 s hs).1) ho, hl, eU, pl, At.joinAll ho hg po pg (ag.symm), rfl⟩
      simp only [aC, lP]
      cases g' with
      | none => simp
      | some i => have : out' = none := by rcases ag with h | h; cases h; exact h
                  simp [hk, this]
    · rename_i hk
      obtain ⟨s1, s2, s3, s4⟩ := iY aj hg pg (gK ts k) (SM k)
      generalize ak : aM ts g (ti k) = sp at e s1 s2 s3 s4
      obtain ⟨ops, rest⟩ := sp
      simp only [abI, abJ, ZW] at e
      obtain ⟨a, ha, b, hb, rfl⟩ := e
      obtain ⟨q, h1, h2⟩ := G _ _ ha _ (.lineO s1 s3 hl pl cq.nil (At.nil c) (.inr rfl))
      have jo : cq (joinAll out rest) := dY (fun s hs => (s2.1 s hs).1) ho
      cases g' with
      | none =>
        have hq : q = ⟨l', none, []⟩ := h1.det (PV.step0 fun r => rfl)
        subst hq
        have ja : At c (joinAll out rest) out' := by have := At.joinAll ho s2 po s4 (.inr rfl); simpa using this
        obtain ⟨u, h3, h4⟩ := G _ _ hb _ (.lineL h2.lok h2.l h2.fok h2.f jo ja (.inl rfl))
        have hu : u = ⟨l', out', []⟩ := h3.det (PV.step0 fun r => rfl)
        subst hu
        exact ⟨⟨l', out', []⟩, PV.step0 fun r => rfl, h2.app h4⟩
      | some p =>
        have ac : out' = none := by rcases ag with h | h; cases h; exact h
        subst ac
        have ja : At c (joinAll out rest) (qz c ts (some p) fun i => !gK ts k i) := by have := At.joinAll ho s2 po s4 (.inl rfl); simpa [qz] using this
        have aa : q.p = none ∨ (qz c ts (some p) fun i => !gK ts k i) = none := by
          rcases iQ ((some p).map (nx c ts)) (gK ts k) with h | h
          · left
            rw [h] at h1
            have hq : q = ⟨l', none, []⟩ := h1.det (PV.step0 fun r => rfl)
            rw [hq]
          · exact .inr h
        obtain ⟨u, h3, h4⟩ := G _ _ hb _ (.lineL h2.lok h2.l h2.fok h2.f jo ja aa)
        refine ⟨_, h1.step2 h3 fun r hr hs => ?_, h2.app h4⟩
        simp only [aC, lP]
        rw [ZV hk]
        simp only [mz, hr, abI, jO]
        simp only [mz] at hs
        rw [hs]; rfl
def FJ(an:bT ts){rec:sY}(G:Good c ts rec){k o slot:Nat}{ops:List aB}{op:Option Nat}{l l':List Nd}{g:ar}{g':Option Nat}{r:bW}(e:lineO rec k o slot ops l g=some r)(ac:vO ts ops)(pR:ny c ops op)(hl:iE l)(pl:pL c l=l')(hg:cq g)(pg:At c g g')(ag:op=none\/g'=none):
  ∃q,PV c ts (.lineO k o slot op l' g') q/\RR c r q:=by
 unfold lineO at e;cases ops with
 |nil=>
  simp only[ZW]at e;subst e;have:op=none:=by cases op with
   |none=>rfl
   |some i=>simp[ny,rM]at pR
  subst this;exact⟨⟨l',g',[]⟩,PV.step0 fun r=>rfl,hg,hl,eU,pl,pg,rfl⟩
 |cons h ops=>
  simp only[abI,abJ,ZW]at e;obtain⟨a,ha,_,_,_,_,b,hb,rfl⟩:=e;obtain⟨hd,ak⟩:=ac.hd;obtain⟨q,h1,h2⟩:=G _ _ ha _ (.line (iq hd.1 ak) (iA c h));have al:=No hd.1 hl;have aj:=JA hd.1 hl;have aa:iE (dH l h.cond++[⟨13,h.text,h.at',slot,fX l h.cond++a.l,h.cond⟩]):=iN.2 ⟨aj,im hd.1 (iN.2 ⟨al,h2.lok⟩)⟩;have jg:cq (joinAll g a.f):=dY (fun s hs=>(h2.fok.1 s hs).1) hg;rcases pR.cons with ⟨hc,rfl,pop2⟩|⟨hc,pop2⟩
  ·have hi:hI c h=some h.at':=by simp[hI,hc]
   rw[hi]at h1;have am:g'=none:=by rcases ag with h|h;cases h;exact h
   subst am;have pnew:pL c (dH l h.cond++[⟨13,h.text,h.at',slot,fX l h.cond++a.l,h.cond⟩])=[⟨13,X ts h.at',h.at',slot,slot0 l'++q.l,tt⟩]:=by
    rw[fq,zQ c hd.1 hl,aaq hc,gm];simp only[hc,ZT,fq,Mi c hd.1 hl,pl,h2.l,hd.text,aaA]
   have pj:At c (joinAll g a.f) q.p:=by have:=At.joinAll hg h2.fok pg h2.f (.inl rfl);simpa using this
   obtain⟨u,h3,h4⟩:=G _ _ hb _ (.lineO ac.tail pop2 aa pnew jg pj (.inl rfl));have hu:u=⟨[⟨13,X ts h.at',h.at',slot,slot0 l'++q.l,tt⟩],q.p,[]⟩:=h3.det (PV.step0 fun r=>rfl);subst hu;refine⟨_,h1.step1 fun r hr=>?_,h2.app h4⟩;simp only[aC,pY];simp only[Z9]at hr;rw[hr];simp
  ·have hi:hI c h=none:=by simp[hI,hc]
   rw[hi]at h1;have hq:=PV.noneLine h1;subst hq;have pnew:pL c (dH l h.cond++[⟨13,h.text,h.at',slot,fX l h.cond++a.l,h.cond⟩])=l':=by
    rw[fq,zQ c hd.1 hl,gm];simp[hc,pl]
   have pj:At c (joinAll g a.f) g':=by have:=At.joinAll hg h2.fok pg h2.f (.inr rfl);simpa[ap]using this
   obtain⟨u,h3,h4⟩:=G _ _ hb _ (.lineO ac.tail pop2 aa pnew jg pj ag);refine⟨u,h3,?_⟩;have:=h2.app h4;simpa[ap]using this
end
open Dg
section
variable {c:bP} {ts:List Tok}
variable{h:aB}
def fp(hc:h.cond.at' c=true):hI c h=some h.at':=by simp[hI,hc]
def iC(hc:h.cond.at' c=false):hI c h=none:=by simp[hI,hc]
def RR.fail(k:h.cond.ok 0)(code:Nat):RR c ⟨[],[],cJ h code⟩ ⟨[],none,if h.cond.at' c then [(code,(h.at':Int))]else []⟩:=
 ⟨cq.nil,trivial,sI k code,rfl,rfl,lq c h code⟩
theorem RR.take{rec:sY}(aa:bT ts){a:bW}{q:PR}(h:RR c a q)(s:bq):RR c ⟨a.l,(take ts a.f s).1,a.e++(take ts a.f s).2⟩ ⟨q.l,(aW ts c q.p s).1,q.e++(aW ts c q.p s).2⟩:=by
 obtain⟨t1,t2,t3,t4⟩:=iL aa h.fok h.f s;exact⟨t1,h.lok,cI.2 ⟨h.eok,t2⟩,h.l,t3,by rw[cR,h.e,t4]⟩
theorem rH(s:bq):aW ts c none s=(none,[]):=rfl
def RR.trivTake(aa:bT ts){a:bW}(h:RR c a ap)(s:bq):RR c ⟨a.l,(Syn.take ts a.f s).1,a.e++(Syn.take ts a.f s).2⟩ ap:=RR.take (rec:=fun _=>none) aa h s
def EK(aa:bT ts){rec:sY}(G:Good c ts rec){o slot:Nat}{f:ar}{p:Option Nat}{r:bW}(e:cT ts f (fun h=>rec (.unaryH o h slot))=some r)(hf:cq f)(hp:At c f p):∃q,PV c ts (.unary o p slot) q/\RR c r q:=by
 have key:=lh aa hf hp e (P:=fun i q=>PV c ts (.unaryH o (some i) slot) q) fun h x hd ac hx=>by
  obtain⟨q,h1,h2⟩:=G _ _ hx _ (.unaryH hd ac rfl);cases hc:h.cond.at' c with
  |true=>rw[fp hc]at h1;exact⟨q,h1,h2⟩
  |false=>
   rw[iC hc]at h1;have:q=ap:=h1.det (PV.step0 fun r=>rfl);subst this;exact h2
 cases p with
 |none=>exact⟨ap,(PV.step0 fun r=>rfl:PV c ts (.unaryH o none slot) ap).step1 fun r hr=>by simp only[aC,ry];exact hr,key⟩
 |some p=>
  obtain⟨q,h1,h2⟩:=key;exact⟨q,h1.step1 fun r hr=>by simp only[aC,ry];exact hr,h2⟩
def Da(ag:bT ts){rec:sY}(G:Good c ts rec){o slot:Nat}{r:bW}(e:unaryH ts rec o h slot=some r)(hd:Hd ts h)(ac:h.cond≠ff):∃q,PV c ts (.unaryH o (hI c h) slot) q/\RR c r q:=by
 unfold unaryH at e;have hX:=hd.text;have hK:=hd.kind;have ha:=iA c h;have aa:=iq hd.1 ac;cases hc:h.cond.at' c with
 |false=>
  have hi:=iC hc;rw[hi]at ha |-;refine⟨ap,PV.step0 fun r=>rfl,?_⟩;split at e
  ·split at e
   ·cases e;have:=RR.fail (c:=c) hd.1 11;rw[hc]at this;exact this
   ·simp only[abI,abJ,ZW]at e;obtain⟨a,ak,rfl⟩:=e;obtain⟨q,h1,h2⟩:=G _ _ ak _ (.unary aa ha);have:=PV.noneUnary h1;subst this;exact⟨h2.fok,im hd.1 h2.lok,h2.eok,by rw[gm];simp[hc,ap],h2.f,h2.e⟩
  ·split at e
   ·obtain⟨q,h1,h2⟩:=G _ _ e _ (.inside (mo hd.1 ac) (mn c h));rw[hi]at h1;have:=PV.noneInside h1;subst this;exact h2
   ·split at e
    ·cases e;exact⟨aa,im hd.1 trivial,eU,by rw[gm];simp[hc,ap],ha,rfl⟩
    ·split at e
     ·cases e;exact⟨aa,im hd.1 trivial,eU,by rw[gm];simp[hc,ap],ha,rfl⟩
     ·split at e
      ·cases e;exact⟨aa,im hd.1 trivial,eU,by rw[gm];simp[hc,ap],ha,rfl⟩
      ·have hn:=nu ag (mo hd.1 ac) (mn c h) 18 slot;rw[hi]at hn;obtain⟨s1,s2,s3,s4⟩:=iY ag hn.fok hn.f (pi ts eM) (nW eM);dsimp only at e;generalize am:aM ts (named ts (bX h) 18 slot).f (bD eM)=sp at e s1 s2 s3 s4;obtain⟨xs,g⟩:=sp;simp only[abI,abJ,ZW]at e;obtain⟨b,hb,rfl⟩:=e;obtain⟨q,h1,h2⟩:=G _ _ hb _ (.calls hd hi s1 s3 hn.lok hn.l s2 s4 (.inl rfl));have:q=⟨[],none,[]⟩:=h1.det (PV.step0 fun r=>rfl);subst this;exact hn.app h2
 |true=>
  have hi:=fp hc;rw[hi]at ha |-;rw[hX,hK]at e;by_cases h1:X ts h.at'=Fg\/X ts h.at'=jS
  ·rw[aaq h1]at e;split at e
   ·rename_i h2;cases e
    refine⟨_,PV.step0 fun r=>by simp only[aC,fZ];rw[aaq h1,aaq h2],?_⟩;have:=RR.fail (c:=c) hd.1 11;rw[hc]at this;exact this
   ·rename_i h2;simp only[abI,abJ,ZW]at e;obtain⟨a,ak,rfl⟩:=e;obtain⟨q,h3,h4⟩:=G _ _ ak _ (.unary aa ha);refine⟨⟨[⟨14,X ts h.at',h.at',slot,q.l,tt⟩],q.p,q.e⟩,h3.step1 fun r hr=>?_,⟨h4.fok,im hd.1 h4.lok,h4.eok,?_,h4.f,h4.e⟩⟩
    ·simp only[Z9]at hr;simp only[aC,fZ];rw[aaq h1,ZV h2,hr];rfl
    ·rw[gm];simp[hc,h4.l]
  ·rw[ZV h1]at e;by_cases h2:X ts h.at'=eM
   ·rw[aaq h2]at e;obtain⟨q,h3,h4⟩:=G _ _ e _ (.inside (mo hd.1 ac) (mn c h));rw[hi]at h3;refine⟨q,h3.step1 fun r hr=>?_,h4⟩;simp only[aC,fZ];rw[ZV h1,aaq h2,hr]
   ·rw[ZV h2]at e;by_cases h3:K ts h.at'=2
    ·rw[aaq h3]at e;cases e
     refine⟨_,PV.step0 fun r=>by simp only[aC,fZ];rw[ZV h1,ZV h2,aaq h3],?_⟩;exact⟨aa,im hd.1 trivial,eU,by rw[gm];simp[hc,pL],ha,rfl⟩
    ·rw[ZV h3]at e;by_cases h4:X ts h.at'=pH\/X ts h.at'=mK
     ·rw[aaq h4]at e;cases e
      refine⟨_,PV.step0 fun r=>by simp only[aC,fZ];rw[ZV h1,ZV h2,ZV h3,aaq h4],?_⟩;exact⟨aa,im hd.1 trivial,eU,by rw[gm];simp[hc,pL],ha,rfl⟩
     ·rw[ZV h4]at e;by_cases h5:X ts h.at'=qX
      ·rw[aaq h5]at e;cases e
       refine⟨_,PV.step0 fun r=>by simp only[aC,fZ];rw[ZV h1,ZV h2,ZV h3,ZV h4,aaq h5],?_⟩;exact⟨aa,im hd.1 trivial,eU,by rw[gm];simp[hc,pL],ha,rfl⟩
      ·rw[ZV h5]at e;have hn:=nu ag (mo hd.1 ac) (mn c h) 18 slot;rw[hi]at hn;obtain⟨s1,s2,s3,s4⟩:=iY ag hn.fok hn.f (pi ts eM) (nW eM);dsimp only at e;have al:(named ts (bX h) 18 slot).l.tail=[]:=by rw[xT ag hd ac];split<;>rfl
       have aj:(qz c ts (aI ts c (some h.at') 18 slot).p (pi ts eM))=none\/(qz c ts (aI ts c (some h.at') 18 slot).p fun i=>!pi ts eM i)=none/\some h.at'≠none/\pL c (named ts (bX h) 18 slot).l.tail=[]:=by
        cases hy:qz c ts (aI ts c (some h.at') 18 slot).p (pi ts eM)with
        |none=>exact .inl rfl
        |some j=>
         refine .inr ⟨?_,by simp,?_⟩
         ·rcases iQ ((aI ts c (some h.at') 18 slot).p.map (nx c ts)) (pi ts eM)with h|h
          ·rw[mz,h]at hy;cases hy
          ·exact h
         ·rw[al];rfl
       generalize am:aM ts (named ts (bX h) 18 slot).f (bD eM)=sp at e s1 s2 s3 s4;obtain⟨xs,g⟩:=sp;simp only[abI,abJ,ZW]at e;obtain⟨b,hb,rfl⟩:=e;obtain⟨q,h6,h7⟩:=G _ _ hb _ (.calls hd hi s1 s3 hn.lok hn.l s2 s4 aj);refine⟨_,h6.step1 fun r hr=>?_,hn.app h7⟩;simp only[aC,fZ];rw[ZV h1,ZV h2,ZV h3,ZV h4,ZV h5];simp only[mz]at hr |-;rw[hr];rfl
end
end Syn
