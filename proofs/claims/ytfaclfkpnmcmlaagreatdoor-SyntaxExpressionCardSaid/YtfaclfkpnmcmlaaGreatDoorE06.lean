import Derived.Test.YtfaclfkpnmcmlaaGreatDoorE04
import Derived.Test.YtfaclfkpnmcmlaaGreatDoorE05
set_option maxHeartbeats 8000000
set_option linter.all false
namespace Syn
open Dg
abbrev bq:=List UInt8
structure Nd where
 kind:Nat
 text:bq
 tok:Int
 slot:Int
 kids:List Nd
 cond:T
structure cO where
 code:Nat
 tok:Int
 cond:T
deriving DecidableEq
structure Tok where
 kind:Nat
 text:bq
 cond:T
 fits:Bool
structure aB where
 at':Nat
 cond:T
 kind:Nat
 text:bq
abbrev ar:=List (Nat×T)
abbrev ff:T:=.lf false
abbrev tt:T:=.lf true
def ins:ar->Nat->T->ar
 | [],a,d=>[(a,d)]
 |(b,e)::l,a,d=>if b<a then (b,e)::ins l a d else if b=a then (b,e.or d)::l else (a,d)::(b,e)::l
def join(f:ar)(a:Nat)(d:T):ar:=if d=ff then f else ins f a d
def joinAll(f g:ar):ar:=g.foldl (fun f s=>join f s.1 s.2) f
def ii(f:ar):T:=f.foldl (fun d s=>d.or s.2) ff
def spread(at':ar):List Tok->Nat->T->ar
 | [],i,d=>join at' i d
 |t::l,i,d=>if d=ff then at' else spread (join at' i (d.and t.cond)) l (i+1) (d.and t.cond.not)
def eK(ts:List Tok)(f:ar):ar:=f.foldl (fun at' s=>spread at' (ts.drop s.1) s.1 s.2) []
def cQ(ts:List Tok)(s:Nat×T):aB:=match ts[s.1]? with
 |some t=>if t.fits then ⟨s.1,s.2,t.kind,t.text⟩else ⟨s.1,s.2,0,[]⟩
 |none=>⟨s.1,s.2,0,[]⟩
def heads(ts:List Tok)(f:ar):List aB:=((eK ts f).filter (fun s=>decide (s.2≠ff))).map (cQ ts)
def lT:bq:=[118,97,114]
def Gg:bq:=[102,110]
def vM:bq:=[105,110,116]
def oO:bq:=[98,111,111,108]
def kT:bq:=[105,102]
def dr:bq:=[101,108,115,101]
def jG:bq:=[119,104,105,108,101]
def iH:bq:=[114,101,116,117,114,110]
def jU:bq:=[112,114,105,110,116]
def ew:bq:=[97,115,115,101,114,116]
def pH:bq:=[116,114,117,101]
def mK:bq:=[102,97,108,115,101]
def qX:bq:=[114,101,97,100]
def eM:bq:=[40]
def fK:bq:=[41]
def Im:bq:=[123]
def qD:bq:=[125]
def bB:bq:=[44]
def a8:bq:=[59]
def bA:bq:=[58]
def su:bq:=[61]
def Fg:bq:=[33]
def jS:bq:=[45]
def xU:bq:=[124,124]
def nK:bq:=[38,38]
def wT:bq:=[61,61]
def Si:bq:=[33,61]
def Uc:bq:=[60]
def TZ:bq:=[60,61]
def S1:bq:=[62]
def Ss:bq:=[62,61]
def ym:bq:=[43]
def Fi:bq:=[42]
def EG:bq:=[47]
def FM:bq:=[37]
structure bW where
 l:List Nd
 f:ar
 e:List cO
def cJ(h:aB)(code:Nat):List cO:=[⟨12,h.at',ff⟩,⟨code,h.at',h.cond⟩]
def lg{α:Type}(ts:List Tok)(f:ar)(z:α)(g:α->aB->α):α:=(heads ts f).foldl g z
def take(ts:List Tok)(f:ar)(s:bq):ar×List cO:=
 lg ts f ([],[]) fun(out,e) h=>if h.text=s then (join out (h.at'+1) h.cond,e)else (out,e++cJ h 10)
def aM(ts:List Tok)(f:ar)(is:aB->Bool):List aB×ar:=
 lg ts f ([],[]) fun(yes,no) h=>if is h then (yes++[h],no)else (yes,join no h.at' h.cond)
def bD(s:bq)(h:aB):Bool:=decide (h.text=s)
def dG(s:bq):Bool:=[lT,Gg,vM,oO,kT,dr,jG,iH,jU,ew,pH,mK,qX].contains s
def dX(s:bq):Nat:=
 if s=xU then 0
 else if s=nK then 1
 else if [wT,Si,Uc,TZ,S1,Ss].contains s then 2
 else if s=ym\/s=jS then 3
 else if [Fi,EG,FM].contains s then 4
 else 9
def named(ts:List Tok)(f:ar)(kind slot:Nat):bW:=
 lg ts f ⟨[],[],[]⟩ fun r h=>
  if h.kind≠1\/dG h.text=true then { r with e:=r.e++cJ h 10 }
  else ⟨r.l++[⟨kind,h.text,h.at',slot,[],h.cond⟩],join r.f (h.at'+1) h.cond,r.e⟩
def sW(ts:List Tok)(f:ar)(slot:Nat):bW:=
 lg ts f ⟨[],[],[]⟩ fun r h=>
  if h.text≠vM/\h.text≠oO then { r with e:=r.e++cJ h 10 }
  else ⟨r.l++[⟨5,h.text,h.at',slot,[],h.cond⟩],join r.f (h.at'+1) h.cond,r.e⟩
def give(l kids:List Nd):List Nd:=l.map fun n=>{ n with kids:=n.kids++kids }
def bv(h:aB):ar:=[(h.at'+1,h.cond)]
def bX(h:aB):ar:=[(h.at',h.cond)]
def joinH(f:ar)(h:aB):ar:=join f h.at' h.cond
def joinH1(f:ar)(h:aB):ar:=join f (h.at'+1) h.cond
inductive Call where
 |line (k o:Nat) (f:ar) (slot:Nat)
 |lineL (k o:Nat) (slot:Nat) (first:Bool) (l:List Nd) (g out:ar)
 |lineO (k o:Nat) (slot:Nat) (ops:List aB) (l:List Nd) (g:ar)
 |unary (o:Nat) (f:ar) (slot:Nat)
 |unaryH (o:Nat) (h:aB) (slot:Nat)
 |calls (o:Nat) (h:aB) (slot:Nat) (xs:List aB) (names:List Nd) (g:ar)
 |inside (o:Nat) (f:ar) (slot:Nat)
 |listed (par:Bool) (o:Nat) (f:ar)
 |listL (par:Bool) (o:Nat) (l:List Nd) (g fin:ar)
 |item (par:Bool) (o:Nat) (f:ar)
 |behind (typ:Bool) (o:Nat) (f:ar) (sign:bq) (slot:Nat)
 |vrb (o:Nat) (f:ar)
 |function (o:Nat) (f:ar)
 |block (o:Nat) (f:ar) (slot:Nat)
 |seqL (top:Bool) (o:Nat) (f:ar) (l:List Nd) (out:ar)
 |stmt (o:Nat) (h:aB)
 |sCalls (o:Nat) (h:aB) (xs:List aB) (l:List Nd) (g:ar)
 |branch (o:Nat) (h:aB) (slot:Nat)
 |elses (o:Nat) (xs:List aB) (l:List Nd) (out:ar)
 |ifs (o:Nat) (ys:List aB) (l:List Nd) (out:ar)
def aN:Nat:=2^40
def lH{α β:Type}(g:α->β->Option α):α->List β->Option α
 |a,[]=>some a
 |a,x::l=>match g a x with
  |some b=>lH g b l
  |none=>none
def ck(l:List Nd):Option Unit:=if l.length<=aN then some ()else none
def jb(l kids:List Nd):Option (List Nd):=if l.all fun n=>decide (n.kids.length+kids.length<=aN)then some (give l kids)else none
def fX(l:List Nd)(d:T):List Nd:=l.filterMap fun n=>if n.cond.and d=ff then none else some { n with cond:=n.cond.and d,slot:=0 }
def dH(l:List Nd)(d:T):List Nd:=l.filterMap fun n=>if n.cond.and d.not=ff then none else some { n with cond:=n.cond.and d.not }
def kJ(l:List Nd)(d:T):List Nd:=match l with
 | []=>[]
 |n::l=>{ n with cond:=n.cond.and d.not }::l
abbrev sY:=Call->Option bW
def gz(kind:Nat)(h:aB)(slot:Nat):Nd:=⟨kind,[],h.at',slot,[],h.cond⟩
section
variable (ts:List Tok) (rec:sY)
def cT(f:ar)(g:aB->Option bW):Option bW:=
 lH (fun r h=>match g h with
  |some x=>if (r.l++x.l).length<=aN then some ⟨r.l++x.l,joinAll r.f x.f,r.e++x.e⟩else none
  |none=>none) ⟨[],[],[]⟩ (heads ts f)
def line(k o:Nat)(f:ar)(slot:Nat):Option bW:=
 if k=5 then rec (.unary o f slot)
 else do
  let a <-rec (.line (k+1) o f slot)
  let b <-rec (.lineL k o slot true a.l a.f [])
  some ⟨b.l,b.f,a.e++b.e⟩
def ti(k:Nat)(h:aB):Bool:=decide (h.kind=3) && decide (dX h.text=k)
def lineL(k o slot:Nat)(first:Bool)(l:List Nd)(g out:ar):Option bW:=
 if g=[]then some ⟨l,out,[]⟩
 else if k=2/\first=false then some ⟨l,joinAll out g,[]⟩
 else do
  let (ops,rest):=aM ts g (ti k)
  let a <-rec (.lineO k o slot ops l [])
  let b <-rec (.lineL k o slot false a.l a.f (joinAll out rest))
  some ⟨b.l,b.f,a.e++b.e⟩
def lineO(k o slot:Nat)(ops:List aB)(l:List Nd)(g:ar):Option bW:=
 match ops with
 | []=>some ⟨l,g,[]⟩
 |h::ops=>do
  let a <-rec (.line (k+1) o (bv h) 1)
  ck (fX l h.cond++a.l)
  ck (dH l h.cond++[⟨13,h.text,h.at',slot,fX l h.cond++a.l,h.cond⟩])
  let b <-rec (.lineO k o slot ops (dH l h.cond++[⟨13,h.text,h.at',slot,fX l h.cond++a.l,h.cond⟩]) (joinAll g a.f))
  some ⟨b.l,b.f,a.e++b.e⟩
def unaryH(o:Nat)(h:aB)(slot:Nat):Option bW:=
 if h.text=Fg\/h.text=jS then
  if o=64 then some ⟨[],[],cJ h 11⟩
  else do
   let a <-rec (.unary (o+1) (bv h) 0)
   some ⟨[⟨14,h.text,h.at',slot,a.l,h.cond⟩],a.f,a.e⟩
 else if h.text=eM then rec (.inside o (bX h) slot)
 else if h.kind=2 then some ⟨[⟨15,h.text,h.at',slot,[],h.cond⟩],bv h,[]⟩
 else if h.text=pH\/h.text=mK then some ⟨[⟨16,h.text,h.at',slot,[],h.cond⟩],bv h,[]⟩
 else if h.text=qX then some ⟨[⟨17,[],h.at',slot,[],h.cond⟩],bv h,[]⟩
 else do
  let a:=named ts (bX h) 18 slot
  let (xs,g):=aM ts a.f (bD eM)
  let b <-rec (.calls o h slot xs a.l g)
  some ⟨b.l,b.f,a.e++b.e⟩
def calls(o:Nat)(h:aB)(slot:Nat)(xs:List aB)(names:List Nd)(g:ar):Option bW:=
 match xs with
 | []=>some ⟨names,g,[]⟩
 |x::xs=>do
  let a <-rec (.listed false o (bX x))
  ck (kJ names x.cond++[⟨19,h.text,h.at',slot,a.l,x.cond⟩])
  let b <-rec (.calls o h slot xs (kJ names x.cond++[⟨19,h.text,h.at',slot,a.l,x.cond⟩]) (joinAll g a.f))
  some ⟨b.l,b.f,a.e++b.e⟩
def ml(o:Nat)(slot:Nat)(h:aB):Option bW:=
 if h.text≠eM then some ⟨[],[],cJ h 10⟩
 else if o=64 then some ⟨[],[],cJ h 11⟩
 else do
  let a <-rec (.line 0 (o+1) (bv h) slot)
  let (g,e):=take ts a.f fK
  some ⟨a.l,g,a.e++e⟩
def mw(par:Bool)(o:Nat)(h:aB):Option bW:=
 if h.text≠eM then some ⟨[],[],cJ h 10⟩
 else if o=64 then some ⟨[],[],cJ h 11⟩
 else do
  let (yes,g):=aM ts (bv h) (bD fK)
  let a <-rec (.listL par (o+1) [] g (yes.foldl joinH []))
  let (f,e):=take ts a.f fK
  some ⟨a.l,f,a.e++e⟩
def listL(par:Bool)(o:Nat)(l:List Nd)(g fin:ar):Option bW:=
 match g with
 | []=>some ⟨l,fin,[]⟩
 |s::g=>do
  let a <-rec (.item par o [s])
  ck (l++a.l)
  let (more,done):=aM ts a.f (bD bB)
  let b <-rec (.listL par o (l++a.l) (more.foldl joinH1 g) (joinAll fin done))
  some ⟨b.l,b.f,a.e++b.e⟩
def item(par:Bool)(o:Nat)(f:ar):Option bW:=
 if par then do
  let a:=named ts f 4 0
  let (g,e):=take ts a.f bA
  let b:=sW ts g 0
  let l <-jb a.l b.l
  some ⟨l,b.f,a.e++e++b.e⟩
 else rec (.line 0 o f 0)
def wu(typ:Bool)(o:Nat)(f:ar)(slot:Nat):Option bW:=if typ then some (sW ts f slot)else rec (.line 0 o f slot)
def behind(typ:Bool)(o:Nat)(f:ar)(sign:bq)(slot:Nat):Option bW:=do
 let (yes,out):=aM ts f (bD sign)
 let a <-wu ts rec typ o (yes.foldl joinH1 []) slot
 some ⟨a.l,joinAll out a.f,a.e⟩
def jQ(o:Nat)(f:ar):Option bW:=do
 let a:=named ts f 2 0
 let (g1,e1):=take ts a.f bA
 let b:=sW ts g1 0
 let c <-rec (.behind false o b.f su 1)
 let l1 <-jb a.l b.l
 let l2 <-jb l1 c.l
 let (g2,e2):=take ts c.f a8
 some ⟨l2,g2,a.e++e1++b.e++c.e++e2⟩
def function(o:Nat)(f:ar):Option bW:=do
 let a:=named ts f 3 0
 let b <-rec (.listed true o a.f)
 let c <-rec (.behind true o b.f bA 1)
 let d <-rec (.block o c.f 2)
 let l1 <-jb a.l b.l
 let l2 <-jb l1 c.l
 let l3 <-jb l2 d.l
 some ⟨l3,d.f,a.e++b.e++c.e++d.e⟩
def oZ(o:Nat)(slot:Nat)(h:aB):Option bW:=
 if h.text≠Im then some ⟨[],[],cJ h 10⟩
 else if o=64 then some ⟨[],[],cJ h 11⟩
 else do
  let a <-rec (.seqL false (o+1) (bv h) [] [])
  let (f,e):=take ts a.f qD
  some ⟨[⟨6,[],h.at',slot,a.l,h.cond⟩],f,a.e++e⟩
def lF(top:Bool)(h:aB):Bool:=if top then decide (h.at'=ts.length)else decide (h.text=qD)
def qj(o:Nat)(h:aB):Option bW:=
 if h.text=lT then rec (.vrb o (bv h))
 else if h.text=Gg then rec (.function o (bv h))
 else some ⟨[],[],cJ h 10⟩
def zy(top:Bool)(o:Nat)(h:aB):Option bW:=if top then qj rec o h else rec (.stmt o h)
def seqL(top:Bool)(o:Nat)(f:ar)(l:List Nd)(out:ar):Option bW:=
 match heads ts f with
 | []=>some ⟨l,out,[]⟩
 |h::hs=>
  if lF ts top h then rec (.seqL top o (hs.foldl joinH []) l (joinH out h))
  else do
   let a <-zy rec top o h
   ck (l++a.l)
   let b <-rec (.seqL top o (hs.foldl joinH (joinAll [] a.f)) (l++a.l) out)
   some ⟨b.l,b.f,a.e++b.e⟩
def stmt(o:Nat)(h:aB):Option bW:=
 if h.text=lT then rec (.vrb o (bv h))
 else if h.text=kT then rec (.branch o h 0)
 else if h.text=jG then do
  let a <-rec (.inside o (bv h) 0)
  let b <-rec (.block o a.f 1)
  let l1 <-jb [gz 9 h 0] a.l
  let l2 <-jb l1 b.l
  some ⟨l2,b.f,a.e++b.e⟩
 else if h.text=Im then rec (.block o (bX h) 0)
 else if h.text=iH then do
  let (fin,g):=aM ts (bv h) (bD a8)
  let a <-rec (.line 0 o g 0)
  let l1 <-jb [gz 10 h 0] a.l
  let (f,e):=take ts (fin.foldl joinH a.f) a8
  some ⟨l1,f,a.e++e⟩
 else if h.text=jU\/h.text=ew then do
  let a <-rec (.line 0 o (bv h) 0)
  let l1 <-jb [gz (if h.text=ew then 12 else 11) h 0] a.l
  let (f,e):=take ts a.f a8
  some ⟨l1,f,a.e++e⟩
 else
  let a:=named ts (bX h) 7 0
  if a.l=[]then some ⟨[],[],a.e⟩
  else do
   let (xs,g):=aM ts a.f (bD eM)
   let (g1,e1):=take ts g su
   let b <-rec (.line 0 o g1 0)
   let l1 <-jb a.l b.l
   let c <-rec (.sCalls o h xs l1 b.f)
   let (f,e2):=take ts c.f a8
   some ⟨c.l,f,a.e++e1++b.e++c.e++e2⟩
def sCalls(o:Nat)(h:aB)(xs:List aB)(l:List Nd)(g:ar):Option bW:=
 match xs with
 | []=>some ⟨l,g,[]⟩
 |x::xs=>do
  let a <-rec (.listed false o (bX x))
  ck (l++[⟨19,h.text,h.at',0,a.l,x.cond⟩])
  let b <-rec (.sCalls o h xs (kJ (l++[⟨19,h.text,h.at',0,a.l,x.cond⟩]) x.cond) (joinAll g a.f))
  some ⟨b.l,b.f,a.e++b.e⟩
def branch(o:Nat)(h:aB)(slot:Nat):Option bW:=do
 let a <-rec (.inside o (bv h) 0)
 let b <-rec (.block o a.f 1)
 let l1 <-jb [gz 8 h slot] a.l
 let l2 <-jb l1 b.l
 let (xs,out):=aM ts b.f (bD dr)
 let c <-rec (.elses o xs l2 out)
 some ⟨c.l,c.f,a.e++b.e++c.e⟩
def elses(o:Nat)(xs:List aB)(l:List Nd)(out:ar):Option bW:=
 match xs with
 | []=>some ⟨l,out,[]⟩
 |x::xs=>do
  let (ys,rest):=aM ts (bv x) (bD kT)
  let a <-rec (.block o rest 2)
  let l1 <-jb l a.l
  let b <-rec (.ifs o ys l1 (joinAll out a.f))
  let c <-rec (.elses o xs b.l b.f)
  some ⟨c.l,c.f,a.e++b.e++c.e⟩
def ifs(o:Nat)(ys:List aB)(l:List Nd)(out:ar):Option bW:=
 match ys with
 | []=>some ⟨l,out,[]⟩
 |y::ys=>
  if o=64 then do
   let b <-rec (.ifs o ys l out)
   some ⟨b.l,b.f,cJ y 11++b.e⟩
  else do
   let a <-rec (.branch (o+1) y 2)
   let l1 <-jb l a.l
   let b <-rec (.ifs o ys l1 (joinAll out a.f))
   some ⟨b.l,b.f,a.e++b.e⟩
def step:Call->Option bW
 | .line k o f slot=>line rec k o f slot
 | .lineL k o slot first l g out=>lineL ts rec k o slot first l g out
 | .lineO k o slot ops l g=>lineO rec k o slot ops l g
 | .unary o f slot=>cT ts f fun h=>rec (.unaryH o h slot)
 | .unaryH o h slot=>unaryH ts rec o h slot
 | .calls o h slot xs names g=>calls rec o h slot xs names g
 | .inside o f slot=>cT ts f (ml ts rec o slot)
 | .listed par o f=>cT ts f (mw ts rec par o)
 | .listL par o l g fin=>listL ts rec par o l g fin
 | .item par o f=>item ts rec par o f
 | .behind typ o f sign slot=>behind ts rec typ o f sign slot
 | .vrb o f=>jQ ts rec o f
 | .function o f=>function ts rec o f
 | .block o f slot=>cT ts f (oZ ts rec o slot)
 | .seqL top o f l out=>seqL ts rec top o f l out
 | .stmt o h=>stmt ts rec o h
 | .sCalls o h xs l g=>sCalls rec o h xs l g
 | .branch o h slot=>branch ts rec o h slot
 | .elses o xs l out=>elses ts rec o xs l out
 | .ifs o ys l out=>ifs rec o ys l out
end
def run(ts:List Tok):Nat->sY
 |0=>fun _=>none
 |n+1=>step ts (run ts n)
open Dg
theorem BL(c:bP):(ff:T).at' c=false:=rfl
def cq(f:ar):Prop:=(∀s∈f,s.2.ok 0/\s.2≠ff)/\f.Pairwise (fun s t=>s.1<t.1)
def bT(ts:List Tok):Prop:=∀t∈ts,t.cond.ok 0
variable{d:T}{a:Nat}{f:ar}
def GP:∀{s},s∈ins f a d->s.1=a\/∃t∈f,t.1=s.1:=by
 induction f with
 |nil=>intro s h;simp[ins]at h;exact .inl (by rw[h])
 |cons x f ih=>
  obtain⟨b,e⟩:=x;intro s h;simp only[ins]at h;split at h
  ·rcases List.mem_cons.1 h with rfl|h
   ·exact .inr ⟨_,.head _,rfl⟩
   ·rcases ih h with h|⟨t,ht,e⟩
    ·exact .inl h
    ·exact .inr ⟨t,.tail _ ht,e⟩
  ·split at h
   ·rcases List.mem_cons.1 h with rfl|h
    ·exact .inr ⟨_,.head _,rfl⟩
    ·exact .inr ⟨s,.tail _ h,rfl⟩
   ·rcases List.mem_cons.1 h with rfl|h
    ·exact .inl rfl
    ·exact .inr ⟨s,h,rfl⟩
def Vp{a b:T}(ha:a.ok 0)(hb:b.ok 0)(h:b≠ff):a.or b≠ff:=by
 obtain⟨c,hc⟩:=T.some_of_ne hb h;intro e;have:=T.or_at ha hb c;rw[e,hc]at this;simp[T.at']at this
def R6(h:cq f)(hd:d.ok 0)(aa:d≠ff):cq (ins f a d):=by
 induction f with
 |nil=>exact⟨fun s hs=>by simp[ins]at hs;subst hs;exact⟨hd,aa⟩,by simp[ins]⟩
 |cons x f ih=>
  obtain⟨b,e⟩:=x;obtain⟨h1,h2⟩:=h;rw[aae]at h2;have hx:=h1 _ (.head _);have hf:cq f:=⟨fun s hs=>h1 s (.tail _ hs),h2.2⟩;simp only[ins];split
  ·rename_i ac;have:=ih hf;refine⟨fun s hs=>?_,List.pairwise_cons.2 ⟨fun s hs=>?_,this.2⟩⟩
   ·rcases List.mem_cons.1 hs with rfl|hs
    ·exact hx
    ·exact this.1 s hs
   ·rcases GP hs with he|⟨t,ht,he⟩
    ·show b<s.1;omega
    ·have:=h2.1 t ht;show b<s.1;simp only at this;omega
  ·split
   ·refine⟨fun s hs=>?_,List.pairwise_cons.2 ⟨fun s hs=>h2.1 s hs,h2.2⟩⟩;rcases List.mem_cons.1 hs with rfl|hs
    ·exact⟨T.or_ok hx.1 hd,Vp hx.1 hd aa⟩
    ·exact h1 s (.tail _ hs)
   ·refine⟨fun s hs=>?_,List.pairwise_cons.2 ⟨fun s hs=>?_,List.pairwise_cons.2 h2⟩⟩
    ·rcases List.mem_cons.1 hs with rfl|hs
     ·exact⟨hd,aa⟩
     ·exact h1 s hs
    ·rcases List.mem_cons.1 hs with rfl|hs
     ·show a<b;omega
     ·have:=h2.1 s hs;show a<s.1;simp only at this;omega
def eu(h:cq f)(hd:d.ok 0):cq (join f a d):=by
 unfold join;split
 ·exact h
 ·exact R6 h hd (by assumption)
def Lp{s}(h:s∈join f a d):s.1=a\/∃t∈f,t.1=s.1:=by
 unfold join at h;split at h
 ·exact .inr ⟨s,h,rfl⟩
 ·exact GP h
def cq.nil:cq []:=⟨fun s h=>(aaB h).elim,List.Pairwise.nil⟩
variable{g:ar}
def dY(hg:∀s∈g,s.2.ok 0):∀{f:ar},cq f->cq (joinAll f g):=by
 induction g with
 |nil=>intro f h;exact h
 |cons s g ih=>intro f h;exact ih (fun t ht=>hg t (.tail _ ht)) (eu h (hg s (.head _)))
def eS(c:bP)(f:ar):List Nat:=(f.filter fun s=>s.2.at' c).map (·.1)
def At(c:bP)(f:ar)(p:Option Nat):Prop:=eS c f=p.toList
theorem At.nil(c:bP):At c [] none:=rfl
theorem At.one(c:bP)(a:Nat)(d:T):At c [(a,d)] (if d.at' c then some a else none):=by
 unfold At eS;cases h:d.at' c<;>simp[h]
def ou(l:List Nat)(a:Nat):List Nat:=match l with
 | []=>[a]
 |b::l=>if b<a then b::ou l a else if b=a then b::l else a::b::l
def fd(c:bP)(s:Nat×T)(f:ar):eS c (s::f)=if s.2.at' c then s.1::eS c f else eS c f:=by
 unfold eS;cases h:s.2.at' c<;>simp[h]
variable{c:bP}
def Po{b:Nat}(h:∀s∈f,b<s.1):∀p∈eS c f,b<p:=by
 intro p hp;unfold eS at hp;simp only[aaE,aaD]at hp;obtain⟨s,⟨hs,_⟩,rfl⟩:=hp;exact h s hs
def wS{l:List Nat}(h:∀p∈l,a<p):ou l a=a::l:=by
 cases l with
 |nil=>rfl
 |cons b l=>have:=h b (.head _);simp only[ou];rw[ZV ab,ZV ab]
def Ml(c:bP)(h:cq f)(hd:d.ok 0):eS c (ins f a d)=if d.at' c then ou (eS c f) a else eS c f:=by
 induction f with
 |nil=>simp only[ins];rw[fd];rfl
 |cons x f ih=>
  obtain⟨b,e⟩:=x;obtain⟨h1,h2⟩:=h;rw[aae]at h2;have hx:=h1 _ (.head _);have hf:cq f:=⟨fun s hs=>h1 s (.tail _ hs),h2.2⟩;have aa:∀p∈eS c f,b<p:=Po h2.1;simp only[ins];split
  ·rename_i ac;rw[fd,fd,ih hf];simp only;cases he:e.at' c<;>cases hc:d.at' c<;>simp[ou,ac]
  ·split
   ·rename_i _ ag;subst ag;rw[fd,fd];simp only[T.or_at hx.1 hd];cases he:e.at' c<;>cases hc:d.at' c<;>simp[ou,wS aa]
   ·rename_i h3 h4;rw[fd,fd];simp only;have:∀p∈eS c f,a<p:=fun p hp=>by have:=aa p hp;omega
    cases he:e.at' c<;>cases hc:d.at' c<;>simp[ou,wS this,h3,h4]
def fL(c:bP)(h:cq f)(hd:d.ok 0):eS c (join f a d)=if d.at' c then ou (eS c f) a else eS c f:=by
 unfold join;split
 ·rename_i e;subst e;simp[T.at']
 ·exact Ml c h hd
def AE(c:bP)(hg:∀s∈g,s.2.ok 0):∀{f:ar},cq f->eS c (joinAll f g)=(eS c g).foldl ou (eS c f):=by
 induction g with
 |nil=>intro f h;rfl
 |cons s g ih=>
  intro f h;show eS c (joinAll (join f s.1 s.2) g)=_;have hs:=hg s (.head _);rw[ih (fun t ht=>hg t (.tail _ ht)) (eu h hs),fL c h hs,fd];cases hc:s.2.at' c<;>simp
variable{p:Option Nat}
theorem At.joinAll{q:Option Nat}(hf:cq f)(hg:cq g)(h1:At c f p)(h2:At c g q)(h:p=none\/q=none):At c (joinAll f g) (p.or q):=by
 unfold At at *;rw[AE c (fun s hs=>(hg.1 s hs).1) hf,h1,h2];rcases h with rfl|rfl
 ·cases q<;>rfl
 ·cases p<;>rfl
theorem At.join(hf:cq f)(h1:At c f p)(hd:d.ok 0)(h:d.at' c=true->p=none):At c (join f a d) (if d.at' c then some a else p):=by
 unfold At at *;rw[fL c hf hd,h1];cases hc:d.at' c
 ·rfl
 ·rw[h hc];rfl
def lm(c:bP):List Tok->Nat->Nat
 | [],i=>i
 |t::l,i=>if t.cond.at' c then i else lm c l (i+1)
def nx(c:bP)(ts:List Tok)(p:Nat):Nat:=lm c (ts.drop p) p
variable{l:List Tok}
def zD:∀{a:ar} {i:Nat} {d:T},bT l->cq a->d.ok 0->cq (spread a l i d):=by
 induction l with
 |nil=>intro a i d _ ha hd;exact eu ha hd
 |cons t l ih=>
  intro a i d hl ha hd;simp only[spread];split
  ·exact ha
  ·have ht:=hl t (.head _);exact ih (fun x hx=>hl x (.tail _ hx)) (eu ha (T.and_ok hd ht)) (T.and_ok hd (T.not_ok ht))
def HI(c:bP):∀{a:ar} {i:Nat} {d:T},bT l->cq a->d.ok 0->eS c (spread a l i d)=if d.at' c then ou (eS c a) (lm c l i)else eS c a:=by
 induction l with
 |nil=>intro a i d _ ha hd;exact fL c ha hd
 |cons t l ih=>
  intro a i d hl ha hd;simp only[spread];split
  ·rename_i e;subst e;simp[T.at']
  ·have ht:=hl t (.head _);rw[ih (fun x hx=>hl x (.tail _ hx)) (eu ha (T.and_ok hd ht)) (T.and_ok hd (T.not_ok ht)),fL c ha (T.and_ok hd ht),T.and_at hd ht,T.and_at hd (T.not_ok ht),T.not_at];simp only[lm];cases d.at' c<;>cases t.cond.at' c<;>simp
def bT.drop{ts:List Tok}(h:bT ts)(n:Nat):bT (ts.drop n):=fun t ht=>h t (List.mem_of_mem_drop ht)
def mO(c:bP){ts:List Tok}(h:bT ts):∀{f:ar} {a:ar},(∀s∈f,s.2.ok 0)->cq a->cq (f.foldl (fun at' s=>spread at' (ts.drop s.1) s.1 s.2) a)/\
  eS c (f.foldl (fun at' s=>spread at' (ts.drop s.1) s.1 s.2) a)=((eS c f).map (nx c ts)).foldl ou (eS c a):=by
 intro f
 induction f with
 |nil=>intro a _ ha;exact⟨ha,rfl⟩
 |cons s f ih=>
  intro a hf ha;have hs:=hf s (.head _);obtain⟨h1,h2⟩:=ih (fun t ht=>hf t (.tail _ ht)) (zD (i:=s.1) (h.drop s.1) ha hs);refine⟨h1,?_⟩;show eS c (f.foldl _ (spread a (ts.drop s.1) s.1 s.2))=_;rw[h2,HI c (h.drop s.1) ha hs,fd];cases s.2.at' c<;>rfl
def tF{ts:List Tok}(h:bT ts)(hf:cq f):cq (eK ts f):=(mO (fun _=>false) h (fun s hs=>(hf.1 s hs).1) cq.nil).1
def Bf{ts:List Tok}(h:bT ts)(hf:cq f)(hp:At c f p):At c (eK ts f) (p.map (nx c ts)):=by
 have:=(mO c h (fun s hs=>(hf.1 s hs).1) cq.nil).2;unfold At at *;show eS c (f.foldl _ [])=_;rw[this,hp];cases p<;>rfl
def lS{ts:List Tok}(h:bT ts)(hf:cq f):heads ts f=(eK ts f).map (cQ ts):=by
 unfold heads;rw[List.filter_eq_self.2];intro s hs;simpa using ((tF h hf).1 s hs).2
def jX(ts:List Tok)(s:Nat×T):(cQ ts s).at'=s.1:=by
 unfold cQ;split
 ·split<;>rfl
 ·rfl
def jw(ts:List Tok)(s:Nat×T):(cQ ts s).cond=s.2:=by
 unfold cQ;split
 ·split<;>rfl
 ·rfl
def kz(c:bP):∀(l:List Tok) (i:Nat),i<=lm c l i/\lm c (l.drop (lm c l i-i)) (lm c l i)=lm c l i
 | [],i=>by simp[lm]
 |t::l,i=>by
  cases h:t.cond.at' c with
  |true=>
   have e:lm c (t::l) i=i:=by simp[lm,h]
   rw[e];refine⟨ZR _,?_⟩;rw[Nat.sub_self,aa1,e]
  |false=>
   have e:lm c (t::l) i=lm c l (i+1):=by simp[lm,h]
   obtain⟨a,b⟩:=kz c l (i+1);rw[e];refine⟨ab,?_⟩;have:lm c l (i+1)-i=(lm c l (i+1)-(i+1))+1:=by omega
   rw[this,abx];exact b
def rh(c:bP)(ts:List Tok)(p:Nat):p<=nx c ts p:=(kz c _ p).1
def ce(c:bP)(ts:List Tok)(p:Nat):nx c ts (nx c ts p)=nx c ts p:=by
 have:=(kz c (ts.drop p) p).2;unfold nx;rw[aa3]at this;have h:=rh c ts p;unfold nx at h;rw[show p+(lm c (ts.drop p) p-p)=lm c (ts.drop p) p by omega]at this;exact this
section
variable (ts:List Tok)
def K(i:Nat):Nat:=(cQ ts (i,tt)).kind
def X(i:Nat):bq:=(cQ ts (i,tt)).text
def zY(i:Nat)(d:T):cQ ts (i,d)=⟨i,d,K ts i,X ts i⟩:=by
 unfold K X cQ;cases ts[i]? with
 |none=>rfl
 |some t=>simp only;split<;>rfl
end
variable{l:List Nat}
def JW{a p:Nat}(h:p∈ou l a):p=a\/p∈l:=by
 induction l with
 |nil=>simp[ou]at h;exact .inl h
 |cons b l ih=>
  simp only[ou]at h;split at h
  ·rcases List.mem_cons.1 h with rfl|h
   ·exact .inr (.head _)
   ·rcases ih h with h|h
    ·exact .inl h
    ·exact .inr (.tail _ h)
  ·split at h
   ·exact .inr h
   ·rcases List.mem_cons.1 h with rfl|h
    ·exact .inl rfl
    ·exact .inr h
def Fs:∀{a:List Nat} {p:Nat},p∈l.foldl ou a->p∈l\/p∈a:=by
 induction l with
 |nil=>intro a p h;exact .inr h
 |cons x l ih=>
  intro a p h;rcases ih h with h|h
  ·exact .inl (.tail _ h)
  ·rcases JW h with rfl|h
   ·exact .inl (.head _)
   ·exact .inr h
def Hd(ts:List Tok)(h:aB):Prop:=h.cond.ok 0/\h=⟨h.at',h.cond,K ts h.at',X ts h.at'⟩/\∀c,h.cond.at' c=true->nx c ts h.at'=h.at'
def vO(ts:List Tok)(hs:List aB):Prop:=(∀h∈hs,Hd ts h/\h.cond≠ff)/\hs.Pairwise (fun s t=>s.at'<t.at')
def mW{ts:List Tok}(h:bT ts){f:ar}(hf:cq f):vO ts (heads ts f):=by
 rw[lS h hf];have hs:=tF h hf;refine⟨fun x hx=>?_,?_⟩
 ·obtain⟨s,h1,rfl⟩:=List.mem_map.1 hx;rw[Hd,jw,jX];refine⟨⟨(hs.1 s h1).1,zY ts s.1 s.2,fun c hc=>?_⟩,(hs.1 s h1).2⟩;have hm:s.1∈eS c (eK ts f):=List.mem_map.2 ⟨s,List.mem_filter.2 ⟨h1,hc⟩,rfl⟩;have:=(mO c h (fun s hs=>(hf.1 s hs).1) cq.nil).2;unfold eK at hm;rw[this]at hm;rcases Fs hm with hm|hm
  ·obtain⟨p,_,e⟩:=List.mem_map.1 hm;rw[<-e,ce]
  ·cases hm
 ·rw[List.pairwise_map];exact hs.2.imp fun{a b} aa=>by rw[jX,jX];exact aa
def rM(c:bP)(hs:List aB):List Nat:=(hs.filter fun h=>h.cond.at' c).map (·.at')
def ny(c:bP)(hs:List aB)(p:Option Nat):Prop:=rM c hs=p.toList
def Nt(c:bP)(ts:List Tok)(f:ar):rM c (f.map (cQ ts))=eS c f:=by
 induction f with
 |nil=>rfl
 |cons s f ih=>
  unfold rM eS at *;simp only[aaU,aby,jw];cases s.2.at' c
  ·simpa using ih
  ·simp only[ZT,aaU,jX];rw[ih]
def Ld{c:bP}{ts:List Tok}(h:bT ts){f:ar}(hf:cq f){p:Option Nat}(hp:At c f p):ny c (heads ts f) (p.map (nx c ts)):=by
 unfold ny;rw[lS h hf,Nt];exact Bf h hf hp
end Syn
namespace Go.Proofs.YtfaclfkpnmcmlaaGreatDoor
open Go Go.Sx Dg Syn
def LR{α:Type}(R:List Value->α->Prop):List Value->List α->Prop
 |xs,[]=>xs=[]
 |xs,a::l=>∃c ys,xs=c++ys/\R c a/\LR R ys l
section
variable {α:Type} {R:List Value->α->Prop} {n:Nat}
def LR.len(hR:∀c a,R c a->c.length=n):∀{l:List α} {xs:List Value},LR R xs l->xs.length=l.length*n
 | [],xs,h=>by rw[show xs=[] from h];simp
 |a::l,xs,⟨c,ys,e,h1,h2⟩=>by
  rw[e,aa9,hR c a h1,LR.len hR h2,aaj,aaP];omega
def LR.mono{R':List Value->α->Prop}(h:∀c a,R c a->R' c a):∀{l:List α} {xs:List Value},LR R xs l->LR R' xs l
 | [],xs,k=>k
 |a::l,xs,⟨c,ys,e,h1,h2⟩=>⟨c,ys,e,h c a h1,LR.mono h h2⟩
def LR.app:∀{l m:List α} {xs ys:List Value},LR R xs l->LR R ys m->LR R (xs++ys) (l++m)
 | [],m,xs,ys,h,k=>by rw[show xs=[] from h];exact k
 |a::l,m,xs,ys,⟨c,zs,e,h1,h2⟩,k=>⟨c,zs++ys,by rw[e,aaT],h1,LR.app h2 k⟩
variable{c:List Value}
theorem LR.one{a:α}(h:R c a):LR R c [a]:=⟨c,[],by simp,h,rfl⟩
def LR.get(hR:∀c a,R c a->c.length=n):∀{l:List α} {xs:List Value} {i:Nat} {a:α},LR R xs l->l[i]?=some a->R ((xs.drop (i*n)).take n) a
 | [],xs,i,a,h,k=>by simp at k
 |b::l,xs,0,a,⟨c,ys,e,h1,h2⟩,k=>by
  simp only[abh,ZW]at k;subst k;rw[e,Nat.zero_mul,aa1,List.take_left' (hR c b h1)];exact h1
 |b::l,xs,i+1,a,⟨c,ys,e,h1,h2⟩,k=>by
  simp only[abi]at k;rw[e,aaP,abj,Nat.add_comm,<-aa3,List.drop_left' (hR c b h1)];exact LR.get hR h2 k
def LR.split(hR:∀c a,R c a->c.length=n):∀{l:List α} {xs:List Value} (i:Nat),LR R xs l->LR R (xs.take (i*n)) (l.take i)/\LR R (xs.drop (i*n)) (l.drop i)
 |l,xs,0,h=>by simp only[Nat.zero_mul,abz,aa1];exact⟨rfl,h⟩
 | [],xs,i+1,h=>by rw[show xs=[] from h];simp only[List.take_nil,List.drop_nil];exact⟨rfl,rfl⟩
 |b::l,xs,i+1,⟨c,ys,e,h1,h2⟩=>by
  obtain⟨k1,k2⟩:=LR.split hR i h2;have hc:=hR c b h1;rw[e,aaP,abj,Nat.add_comm (i*n)];constructor
  ·have:(c++ys).take (n+i*n)=c++ys.take (i*n):=by rw[<-hc];exact List.take_length_add_append _
   rw[this,abA];exact⟨c,_,rfl,h1,k1⟩
  ·rw[<-aa3,List.drop_left' hc,abx];exact k2
def LR.set(hR:∀c a,R c a->c.length=n){l:List α}{xs:List Value}{i:Nat}{a:α}(h:LR R xs l)(hi:i<l.length)(hc:R c a):LR R (xs.take (i*n)++c++xs.drop ((i+1)*n)) (l.set i a):=by
 obtain⟨h1,h2⟩:=LR.split hR i h;obtain⟨_,h4⟩:=LR.split hR (i+1) h;have e:l.set i a=l.take i++[a]++l.drop (i+1):=by
  rw[List.set_eq_take_append_cons_drop,aaq hi];simp
 rw[e];exact(h1.app (.one hc)).app h4
end
def Sl{α:Type}(R:PH->List Value->α->Prop)(I:PH)(v:Value)(l:List α):Prop:=∃a c,v=.slice a l.length c/\(l=[]\/∃b off xs,a=some ⟨b,off,none⟩/\aP I b off xs/\LR (R I) xs l)
variable{v:Value}{I:PH}
def Sl.le{α:Type}{R:PH->List Value->α->Prop}(hR:∀{I J c a},R I c a->I.le J->R J c a){J:PH}{l:List α}(h:Sl R I v l)(aa:I.le J):Sl R J v l:=by
 obtain⟨a,c,e,h⟩:=h;exact⟨a,c,e,h.imp id fun⟨b,off,xs,e1,e2,e3⟩=>⟨b,off,xs,e1,e2.le aa,e3.mono fun c a h=>hR h aa⟩⟩
def Ow{α:Type}(R:PH->List Value->α->Prop)(e:TypeId)(size:Nat)(I A:PH)(v:Value)(l:List α):Prop:=∃xs,mh A e size v l.length xs/\LR (R I) xs l
variable{A:PH}{size:Nat}{e:TypeId}
def Ow.le{α:Type}{R:PH->List Value->α->Prop}(hR:∀{I J c a},R I c a->I.le J->R J c a){J:PH}{l:List α}(h:Ow R e size I A v l)(aa:I.le J):Ow R e size J A v l:=by
 obtain⟨xs,h1,h2⟩:=h;exact⟨xs,h1,h2.mono fun c a h=>hR h aa⟩
def Ow.nil{α:Type}(R:PH->List Value->α->Prop)(e:TypeId)(size:Nat)(I:PH):Ow R e size I PH.no (.slice none 0 0) ([]:List α):=⟨[],mh.nil e size,rfl⟩
def Ow.sl{α:Type}{R:PH->List Value->α->Prop}(hR:∀{I J c a},R I c a->I.le J->R J c a){e:TypeId}{size:Nat}{I J A:PH}{v:Value}{l:List α}(h:Ow R e size I A v l)(h1:I.le J)(h2:A.le J):Sl R J v l:=by
 obtain⟨xs,h3,h4⟩:=h;obtain⟨a,c,e⟩:=h3.slice;rcases abn l.length with hz|hp
 ·subst e;exact⟨a,c,rfl,.inl (List.length_eq_zero_iff.1 hz)⟩
 ·obtain⟨g,cap,e2,hc⟩:=h3.1.cells hp;exact⟨_,cap,e2,.inr ⟨g,0,xs,rfl,hc.le h2,h4.mono fun c a h=>hR h h1⟩⟩
abbrev abX:=@Ow.sl
def Ow.shape{α:Type}{R:PH->List Value->α->Prop}{l:List α}(h:Ow R e size I A v l):∃a c,v=.slice a l.length c:=by
 obtain⟨xs,h3,_⟩:=h;exact h3.slice
def iD(I:PH)(c:List Value)(s:Nat×T):Prop:=∃sl rt,c=[iv s.1,sl,rt]/\cX I (.agg #[sl,rt]) s.2
variable{s:Nat×T}{c:List Value}
def iD.le{J:PH}(h:iD I c s)(aa:I.le J):iD J c s:=by
 obtain⟨sl,rt,e,h⟩:=h;exact⟨sl,rt,e,cX.le h aa⟩
def iD.len(c:List Value)(s:Nat×T)(h:iD I c s):c.length=3:=by obtain⟨sl,rt,e,_⟩:=h;rw[e];rfl
abbrev eR(I:PH)(v:Value)(f:ar):Prop:=Sl iD I v f
abbrev jy(I A:PH)(v:Value)(f:ar):Prop:=Ow iD 169 3 I A v f
open Go Go.Sx Dg Syn
def Qp:aO Tryz.prog 256:=⟨_,Tryz.func256,rfl,rfl⟩
def Gd:aO Tryz.prog 257:=⟨_,Tryz.func257,rfl,rfl⟩
variable{a:Nat}
def cH{b:Nat}(ha:a<2^62)(hb:b<2^62):IntKind.i64.wrap ((a:Int)-(b:Int))=(a:Int)-(b:Int):=by
 simp only[IntKind.wrap,show IntKind.bits .i64=64 from rfl,show IntKind.signed .i64=true from rfl];rcases aaf a b with h|h
 ·have h1:((a:Int)-(b:Int)) % (2^64:Int)=(a:Int)-(b:Int)+2^64:=by
   rw[<-Int.add_emod_right];exact abm ab ab
  rw[h1,aaq]
  ·omega
  ·simp;omega
 ·have h1:((a:Int)-(b:Int)) % (2^64:Int)=(a:Int)-(b:Int):=abm ab ab;rw[h1,ZV];simp;omega
variable{p:Nat}
def RO{H:PH}{rt0 sl1 sl2:Nat}{sl0:Option Addr}(hp:p<2^62)(ha:a<2^62):bO Tryz.prog 257 #[.agg #[iv p,.slice sl0 sl1 sl2,iv rt0],iv a] H fun v H2=>v=.int .i64 ((p:Int)-(a:Int))/\H2=H:=by
 refine cC Tryz.func257 rfl (by simp[Tryz.ntmps257]) fun w0=>?_;simp only[Tryz.ntmps257,iv];apply RG;simp only[go_sem,cH hp ha];exact aJ (r:=[_]) rfl ⟨rfl,rfl⟩
def qq{n:Nat}(h:n<2^62):IntKind.u64.wrap (n:Int)=(n:Int):=by
 have h1:(n:Int) % (2^64:Int)=n:=abm ab ab;simp only[IntKind.wrap,show IntKind.bits .u64=64 from rfl,show IntKind.signed .u64=false from rfl,h1];simp
def C0{i:Nat}(hi:i<=64):ut .u64 (a:Int) (i:Int)=((a >>> i:Nat):Int):=by
 have:ut .u64 (a:Int) (i:Int)=Int.fdiv (a:Int) (2^(min i 64)):=rfl;have e:min i 64=i:=by omega
 rw[this,e,abs];have:(2^i:Int)=((2^i:Nat):Int):=by simp
 rw[this,Int.fdiv_eq_ediv_of_nonneg _ (abt _)];rfl
def In{α:Type}(R:PH->List Value->α->Prop)(I H:PH)(v:Value)(l:List α):Prop:=∃a c,v=.slice a l.length c/\(l=[]\/∃b off xs,a=some ⟨b,off,none⟩/\aP H b off xs/\LR (R I) xs l)
def Dm(f:ar)(i a:Nat):Bool:=match f[i]? with
 |some s=>decide (s.1=a)
 |none=>false
def Re(vf:Value)(n a:Nat)(x:Nat×Nat):St:=⟨sp 0 49 [(0,.v vf),(1,.v (iv a)),(2,.v (.func (.func 257) #[] #[])),(8,.v (iv n)),(9,.v (iv x.1)),(10,.v (iv x.2))],[]⟩
def Y9(f:ar)(a:Nat)(H0:PH)(x:Nat×Nat)(H:PH):Prop:=H=H0/\x.1<=x.2/\x.2<=f.length/\(∀k s,k<x.1->f[k]?=some s->s.1<a)/\(∀k s,x.2<=k->f[k]?=some s->a<=s.1)
variable{f:ar}{vf:Value}
def H6{H:PH}(hf:In iD I H vf f)(hs:f.Pairwise (fun s t=>s.1<t.1))(hp:∀s∈f,s.1<2^61)(ha:a<2^61)(hl:f.length<2^60):
  bO Tryz.prog 256 #[vf,iv a,.func (.func 257) #[] #[]] H fun v H2=>H2=H/\∃i,i<=f.length/\(∀k s,k<i->f[k]?=some s->s.1<a)/\(∀k s,i<=k->f[k]?=some s->a<=s.1)/\v=.tuple #[iv i,.bool (Dm f i a)]:=by
 obtain⟨za,zc,rfl,hz⟩:=hf;have load:∀i s,f[i]?=some s->∃b off c sl0 sl1 sl2 rt,za=some ⟨b,off,none⟩/\aP H b (off+i*3) c/\c=[iv s.1,.slice sl0 sl1 sl2,iv rt]:=by
  intro i s hi;rcases hz with h0|⟨b,off,xs,rfl,hc,hr⟩
  ·rw[h0]at hi;simp at hi
  ·have ao:i<f.length:=by
    rcases aaf i f.length with h|h
    ·exact h
    ·rw[aan h]at hi;cases hi
   have h1:=hr.get iD.len hi;have aq:=hr.len iD.len;have h2:=hc.sub (i*3) 3 ab;obtain⟨sl,rt,e,al⟩:=h1;obtain⟨x,y,e2⟩:=al.shape;simp only[Value.agg.injEq,Array.mk.injEq,abB,abC]at e2;exact⟨b,off,_,x,s.2.subs.length,y,T.plc s.2.subs s.2,rfl,h2,by rw[e,e2.1,e2.2]⟩
 refine cC Tryz.func256 rfl (by simp[Tryz.ntmps256]) fun w0=>?_;simp only[Tryz.ntmps256,iv];refine aT ?_;refine aA (fun x=>x.2-x.1) (Re (.slice za f.length zc) f.length a) (Y9 f a H) (0,f.length) (by simp only[go_sem,aa6,Re,iv]) (by simp only[go_sem,aa6,Re]) ?_ ?_
 ·exact⟨rfl,aaL _,ZR _,fun k s h=>by omega,fun k s h1 h2=>by rw[aan h1]at h2;cases h2⟩
 rintro⟨i,j⟩ H' ⟨rfl,h1,h2,h3,h4⟩ ag;simp only at h1 h2 h3 h4;simp only[Re];rcases aaf i j with ao|a2
 ·have ak:decide ((i:Int)<(j:Int))=true:=by simp;omega
  have e1:=wrap64 (n:=i+j) ab;have e2:=qq (n:=i+j) ab;have e3:=C0 (a:=i+j) (i:=1) ab;have e4:=wrap64 (n:=(i+j) / 2) ab;have e5:(i+j) >>> 1=(i+j) / 2:=abs _ 1;have ecast:(i:Int)+(j:Int)=((i+j:Nat):Int):=by omega
  simp only[abo]at e3;rw[e5]at e3;obtain⟨m,hm⟩:∃m,m=(i+j) / 2:=⟨_,rfl⟩;rw[<-hm]at e3 e4;have an:i<=m:=by omega
  have a1:m<j:=by omega
  obtain⟨s,aa⟩:∃s,f[m]?=some s:=⟨_,aak ab⟩;have am:=hp s (aaV aa);obtain⟨b,off,c,sl0,sl1,sl2,rt,rfl,hc,rfl⟩:=load m s aa;apply RG;simp only[go_sem,ak,iv,ecast,e1,e2,e3,e4];refine⟨⟨ab,ab⟩,?_⟩;refine XN (l:=[iv s.1,.slice sl0 sl1 sl2,iv rt]) (v:=.agg #[iv s.1,.slice sl0 sl1 sl2,iv rt]) rfl hc (.inl ⟨sM,rfl⟩) ?_;apply RG;simp only[go_sem,iv];refine WZ rfl Gd (RO ab ab) fun v H2 hv=>?_;obtain⟨rfl,rfl⟩:=hv;cases ac:decide ((s.1:Int)-(a:Int)<0)
  ·apply RG;simp only[go_sem,iv,ac];refine ag (i,m) _ _ dt (by simp only[go_sem,aa6,Re,iv]) (by simp only[go_sem,aa6,Re]) ⟨rfl,an,by simp only;omega,h3,fun k t hk ht=>?_⟩;simp only[abp]at ac;rcases aaf m k with h|h
   ·have:s.1<t.1:=by
     obtain⟨l1,e1⟩:=List.getElem?_eq_some_iff.1 aa;obtain⟨l2,e2⟩:=List.getElem?_eq_some_iff.1 ht;have:=List.pairwise_iff_getElem.1 hs m k l1 l2 h;rw[e1,e2]at this;exact this
    omega
   ·have:k=m:=by simp only at hk;omega
    subst this;rw[aa]at ht;cases ht;omega
  ·have e6:=wrap64 (n:=m+1) ab;have e7:(m:Int)+1=((m+1:Nat):Int):=by omega
   apply RG;simp only[go_sem,iv,ac,e7,e6];refine ag (m+1,j) _ _ dt (by simp only[go_sem,aa6,Re,iv]) (by simp only[go_sem,aa6,Re]) ⟨rfl,by simp only;omega,h2,fun k t hk ht=>?_,h4⟩;simp only[aaC]at ac;rcases aaf k m with h|h
   ·have:t.1<s.1:=by
     obtain⟨l1,e1⟩:=List.getElem?_eq_some_iff.1 aa;obtain⟨l2,e2⟩:=List.getElem?_eq_some_iff.1 ht;have:=List.pairwise_iff_getElem.1 hs k m l2 l1 h;rw[e1,e2]at this;exact this
    omega
   ·have:k=m:=by simp only at hk;omega
    subst this;rw[aa]at ht;cases ht;omega
 ·have aS:i=j:=by omega
  subst aS;have ak:=Z6 i;cases aj:decide ((i:Int)<(f.length:Int))
  ·have:f[i]?=none:=aan (by simp at aj;omega);apply RG;simp only[go_sem,ak,iv,aj];refine aJ (r:=[iv i,.bool false]) (by simp only[Tryz.results256,go_sem,iv]) ⟨rfl,i,h2,h3,h4,by simp[gv,iv,Dm,this]⟩
  ·obtain⟨s,aa⟩:∃s,f[i]?=some s:=⟨_,aak (by simp at aj;omega)⟩;have am:=hp s (aaV aa);obtain⟨b,off,c,sl0,sl1,sl2,rt,rfl,hc,rfl⟩:=load i s aa;apply RG;simp only[go_sem,ak,iv,aj];refine⟨⟨ab,by simp at aj;omega⟩,?_⟩;refine XN (l:=[iv s.1,.slice sl0 sl1 sl2,iv rt]) (v:=.agg #[iv s.1,.slice sl0 sl1 sl2,iv rt]) rfl hc (.inl ⟨sM,rfl⟩) ?_;apply RG;simp only[go_sem,iv];refine WZ rfl Gd (RO ab ab) fun v H2 hv=>?_;obtain⟨rfl,rfl⟩:=hv;apply RG;simp only[go_sem,iv];have he:((s.1:Int)-(a:Int) == 0)=decide (s.1=a):=by
    rw[Bool.eq_iff_iff];simp;omega
   refine aJ (r:=[iv i,.bool (Dm f i a)]) ?_ ⟨rfl,i,h2,h3,h4,rfl⟩;simp only[Dm,aa,<-he];simp only[Tryz.results256,go_sem,iv]
def OF:aO Tryz.prog 258:=⟨_,Tryz.func258,rfl,rfl⟩
def xY{g l cap:Nat}(h:l<cap):sO (some ⟨g,0,none⟩) size l cap=some ⟨g,l*size,none⟩:=by
 unfold sO;rw[ZV ab];simp[gG]
def yB{a:Option Addr}{cap:Nat}(h:∀x,a=some x->x.spot=none):sO a size 0 cap=a:=by
 unfold sO;split
 ·rfl
 ·cases a with
  |none=>rfl
  |some x=>
   obtain⟨b,off,sp⟩:=x;have:=h _ rfl;simp only at this;subst this;simp[gG]
theorem UP:(Tryz.f288.name == "runtime.NumGoroutine")=false:=by kernel_rfl
theorem Vk:Tryz.f288.body.isNone=true:=by kernel_rfl
theorem Vl:Extern.findNext Tryz.f288=none:=by kernel_rfl
theorem Wp:Tryz.prog.underlying 154=some (.slice 169):=by kernel_rfl
theorem TO:Extern.find Tryz.f288=some (Extern.SlicesOverlaps.overlaps #[154,154] #[4]):=by kernel_rfl
theorem zG:Tryz.prog.underlying 155=some (.slice 169):=by kernel_rfl
def VZ:∃i,Tryz.prog.info? 169=some i/\i.size=3:=by
 have h:=Rt;unfold Sx.bY at h;cases hi:Tryz.prog.info? 169 with
 |none=>rw[hi]at h;cases h
 |some i=>rw[hi]at h;simp at h;exact⟨i,rfl,h⟩
def iD.ones(h:iD I c s):c.all Sx.one=true:=by
 obtain⟨sl,rt,e,hr⟩:=h;obtain⟨x,y,e2⟩:=hr.shape;simp only[Value.agg.injEq,Array.mk.injEq,abB,abC]at e2;rw[e,e2.1,e2.2];rfl
def LR.ones{α:Type}{R:List Value->α->Prop}(hR:∀c a,R c a->c.all Sx.one=true):∀{l:List α} {xs:List Value},LR R xs l->xs.all Sx.one=true
 | [],xs,h=>by rw[show xs=[] from h];rfl
 |a::l,xs,⟨c,ys,e,h1,h2⟩=>by rw[e,List.all_append,hR c a h1,LR.ones hR h2];rfl
def K1{l ys:List Value}(h:p+c.length+ys.length<=l.length):(br (br l p c) (p+c.length) ys).take (p+c.length+ys.length)=l.take p++c++ys:=by
 rw[fE _ _ _ (by rw[aX];exact h),fE _ _ _ ab];have h1:(l.take p++c).length=p+c.length:=by simp;omega
 have h2:(l.take p++c++l.drop (p+c.length)).take (p+c.length)=l.take p++c:=by rw[<-h1];exact List.take_left
 rw[h2];have h3:(l.take p++c++ys).length=p+c.length+ys.length:=by rw[aa9,h1]
 rw[<-h3];exact List.take_left
def IY{l ys:List Value}(h:p+c.length+ys.length<=l.length):(br (br l (p+c.length) ys) p c).take (p+c.length+ys.length)=l.take p++c++ys:=by
 rw[fE (br l (p+c.length) ys) c p (by rw[aX];omega),fE _ _ _ ab];have h1:(l.take (p+c.length)++ys).length=p+c.length+ys.length:=by simp;omega
 have h4:(l.take (p+c.length)++ys++l.drop (p+c.length+ys.length)).take p=l.take p:=by
  rw[aaT,aaR (by simp;omega),aa4,aaN ab]
 have h5:(l.take (p+c.length)++ys++l.drop (p+c.length+ys.length)).drop (p+c.length)=ys++l.drop (p+c.length+ys.length):=by
  rw[aaT];exact List.drop_left' (by simp;omega)
 rw[h4,h5];have h3:(l.take p++c++ys).length=p+c.length+ys.length:=by simp;omega
 rw[<-aaT,<-h3];exact List.take_left
def Kq{i nb c1:Nat}{ty:TypeId}(hf:jy I A vf f)(hi:i<=f.length)(bx:I nb=some (.cells c.toArray ty (0,0)))(hc:iD I c s)(hl:f.length<2^40):
  aK Tryz.prog 258 #[vf,iv i,.slice (some ⟨nb,0,none⟩) 1 c1] I [A] fun v I2 qs=>∃A2,qs=[A2]/\jy I2 A2 v (f.take i++[s]++f.drop i):=by
 intro hd;obtain⟨xs,am,a7⟩:=hf;have aa:=iD.len _ _ hc;have ac:aP I nb 0 c:=az bx (by simp) (by simp);have ag:=a7.len iD.len;obtain⟨za,zc,rfl⟩:=am.slice;refine cC Tryz.func258 rfl (by simp[Tryz.ntmps258]) fun w0=>?_;simp only[Tryz.ntmps258,iv];rcases aaf i f.length with cp|cs
 ·obtain⟨g,cap,cur,e1,rfl,cc,cj,ba,bd⟩:=am.sg ab;cases e1
  have bb:((i:Int) == (f.length:Int))=false:=by simp;omega
  have e1:=wrap64 (n:=f.length+1) ab;have b6:IntKind.i64.wrap ((f.length:Int)+1)=((f.length+1:Nat):Int):=by rw[<-e1];congr 1
  have e2:IntKind.i64.wrap (((f.length+1:Nat):Int)-(i:Int))=((f.length+1-i:Nat):Int):=by rw[cH ab ab];omega
  have e3:=wrap64 (n:=i+1) ab;have bc:IntKind.i64.wrap ((i:Int)+1)=((i+1:Nat):Int):=by rw[<-e3];congr 1
  obtain⟨inf,ak,a6⟩:=VZ;have aj:(xs.drop (i*3)).length=(f.length-i)*3:=by rw[abD,ag,<-abE]
  have a5:(xs.drop (i*3)).all one=true:=(a7.split iD.len i).2.ones (fun _ _ h=>h.ones);have fin:∀(cells:List Value) (g2 cap2:Nat) (I2:PH),I.le I2->cells.take ((f.length+1)*3)=xs.take (i*3)++c++xs.drop (i*3)->cells.length=cap2*3->f.length+1<=cap2->cap2<=maxLen->
    jy I2 (sg g2 (.cells cells.toArray 169 (0,0))) (.slice (some ⟨g2,0,none⟩) (f.length+1) cap2) (f.take i++[s]++f.drop i):=by
   intro cells g2 cap2 I2 cd h1 h2 h3 h4;obtain⟨k1,k2⟩:=a7.split iD.len i;have bC:(f.take i++[s]++f.drop i).length=f.length+1:=by simp;omega
   refine⟨xs.take (i*3)++c++xs.drop (i*3),?_,((k1.app (.one hc)).app k2).mono fun _ _ h=>h.le cd⟩;rw[bC];refine mh.of_sg ?_ h3 h4 (by simpa using h2) (by simpa using h1);simp only[aa9,abF,aj,aa,ag];have:i*3<=f.length*3:=aaQ _ hi;rw[aaN this,aaP,abE];omega
  have b3:i*3<=f.length*3:=aaQ _ hi;have cr:(i+1)*3=i*3+3:=by omega
  have cl:aP (U [I,sg g (.cells cur 169 (0,0))]) g 0 cur.toList:=cellsU hd (.tail _ (.head _)) (ay (by simp) (by rw[aa1];exact abG (ZR _)));have b0:cur.toList.length=zc*3:=by rw[hZ];exact ba
  have aq:(cur.toList.drop (i*3)).take ((f.length-i)*3)=xs.drop (i*3):=by
   rw[<-bd,List.drop_take,abE]
  rcases aaf zc (f.length+1)with an|an
  ·have b2:decide (((f.length+1:Nat):Int)>(zc:Int))=true:=by simp;omega
   have s1:sO (some ⟨g,0,none⟩) 3 0 zc=some ⟨g,0,none⟩:=yB (by simp);have s2:=xY (g:=g) (l:=i) (cap:=zc) (size:=3) ab;apply RG;simp only[go_sem,iv,bb,b6,e2,bc,b2,s1,s2];refine⟨ab,?_⟩;have aS:aP (U [I,sg g (.cells cur 169 (0,0))]) g 0 (xs.take (i*3)):=by
    have:=cl.sub 0 (i*3) (by simp;omega);rw[aa1]at this;have e:cur.toList.take (i*3)=xs.take (i*3):=by rw[<-bd,aa4,aaN b3]
    rwa [e]at this
   refine F3 (by exact hd) (by exact jH) (by exact S5) rfl rfl rfl rfl aS (by simp[ag];omega) ab ab (by unfold maxLen;omega) ab fun g2 cap2 zs b7 b1 cm a9=>?_;have t1:=xY (g:=g2) (l:=i) (cap:=cap2) (size:=3) ab;have t2:=xY (g:=g2) (l:=i+1) (cap:=cap2) (size:=3) ab;have e5:i+(f.length+1-i)=f.length+1:=by omega
   rw[e5]at b1;apply RG;simp only[go_sem,iv,e5,t1,t2];refine⟨ab,?_⟩;have bs:aP (U [I,sg g2 (.cells (xs.take (i*3)++zs).toArray 169 (0,0)),sg g (.cells cur 169 (0,0))]) nb 0 c:=cellsU a9 (.head _) ac;have ca:(xs.take (i*3)).length=i*3:=by simp[ag];omega
   have ao:(xs.take (i*3)++zs).length=cap2*3:=by
    rw[aa9,ca,b7,abE];have:i*3<=cap2*3:=aaQ _ ab;omega
   have ct:(f.length+1)*3<=cap2*3:=aaQ _ b1;refine CY (by exact a9) (by exact zG) (by exact ak) rfl rfl rfl rfl bs (by rw[a6,aa,aaN ab]) (by rw[aa];simp only[List.size_toArray];omega) hc.ones fun a4=>?_;apply RG;simp only[go_sem,iv];refine dN mixed [0,1,2,3,4,5,6,7,8] [] [] rfl rfl ?_;apply au;simp only[go_sem,iv,bc,t2,s2];refine⟨ab,?_⟩;have b8:f.length*3<=zc*3:=aaQ _ cc;have al:aP (sg g (.cells cur 169 (0,0))) g (i*3) (xs.drop (i*3)):=ay (by rw[aj,ba,abE];omega) (by rw[aj];exact aq);refine Dc (by exact a4) (by exact zG) (by exact ak) rfl rfl rfl rfl rfl rfl (cellsU a4 (.tail _ (.tail _ (.head _))) al) (by rw[a6,aj,aaN ab]) (by rw[aj];simp only[List.size_toArray,aX];omega) a5 fun bF=>?_;refine aw ?_;apply RG;simp only[go_sem,iv];refine nr (c:=.st _) bF [1,0] rfl fun b4=>?_;simp only[vG,aa7,aa8]at b4 |-;refine ae (c:=.st _) b4 fun I6 ci a1 _=>?_;refine af rfl ci (r:=[_]) rfl a1 ⟨_,rfl,?_⟩;refine fin _ g2 cap2 I6 a1 ?_ (by simp only[List.toList_toArray,aX];exact ao) b1 cm;have hL:=K1 (l:=xs.take (i*3)++zs) (c:=c) (ys:=xs.drop (i*3)) (p:=i*3) (by rw[aa,aj,ao,abE];omega);have hp:i*3+c.length=(i+1)*3:=by rw[aa];omega
   have hq:i*3+c.length+(xs.drop (i*3)).length=(f.length+1)*3:=by rw[aa,aj,abE];omega
   rw[hq,hp]at hL;have hA:(xs.take (i*3)++zs).take (i*3)=xs.take (i*3):=by rw[aaR ab,abG ab]
   rw[hL,hA]
  ·have b2:decide (((f.length+1:Nat):Int)>(zc:Int))=false:=by simp;omega
   have s1:sO (some ⟨g,0,none⟩) 3 0 zc=some ⟨g,0,none⟩:=yB (by simp);have s2:=xY (g:=g) (l:=i) (cap:=zc) (size:=3) ab;have s3:=xY (g:=g) (l:=i+1) (cap:=zc) (size:=3) ab;apply RG;simp only[go_sem,iv,bb,b6,e2,bc,b2,s1,s2,s3];refine⟨ab,?_⟩;have cb:nb≠g:=fun e=>by
    have:=(qF hd (.head _)).symm.left (dL g (.cells cur 169 (0,0)));rw[<-e,bx]at this;cases this
   have b8:(f.length+1)*3<=zc*3:=aaQ _ an;refine Dt (by exact RV) (by exact Tryz.func288) (by exact UP) (by exact Vk) (by exact Vl) (by exact TO) rfl rfl rfl rfl (cP hd _ _ bx) (di hd _ _ (dL _ _)) cb ab ?_;apply RG;simp only[go_sem,iv];refine dN mixed [0,1,2,3,4,5,6,7,8] [] [] rfl rfl ?_;apply au;simp only[go_sem,iv,bc,s2,s3];refine⟨ab,?_⟩;have al:aP (sg g (.cells cur 169 (0,0))) g (i*3) (xs.drop (i*3)):=ay (by rw[aj,ba,abE];omega) (by rw[aj];exact aq);refine Dc (by exact hd) (by exact zG) (by exact ak) rfl rfl rfl rfl rfl rfl (cellsU hd (.tail _ (.head _)) al) (by rw[a6,aj,Nat.min_eq_right ab,Nat.add_sub_add_right]) (by rw[aj,ba,abE];omega) a5 fun a4=>?_;refine aw ?_;apply RG;simp only[go_sem,iv,s2];refine⟨ab,?_⟩;refine CY (by exact a4) (by exact zG) (by exact ak) rfl rfl rfl rfl (cellsU a4 (.head _) ac) (by rw[a6,aa,aaN ab]) (by rw[aa];simp only[List.size_toArray,aX,b0];omega) hc.ones fun bF=>?_;apply RG;simp only[go_sem,iv];refine af rfl bF (r:=[_]) rfl (abW _) ⟨_,rfl,?_⟩;refine fin _ g zc I (abW _) ?_ (by simp only[List.toList_toArray,aX,b0]) an cj;have hL:=IY (l:=cur.toList) (c:=c) (ys:=xs.drop (i*3)) (p:=i*3) (by rw[aa,aj,b0,abE];omega);have hp:i*3+c.length=(i+1)*3:=by rw[aa];omega
   have hq:i*3+c.length+(xs.drop (i*3)).length=(f.length+1)*3:=by rw[aa,aj,abE];omega
   rw[hq,hp]at hL;have hA:cur.toList.take (i*3)=xs.take (i*3):=by rw[<-bd,aa4,aaN b3]
   rw[hL,hA]
 ·have cf:i=f.length:=by omega
  subst cf;have bb:((f.length:Int) == (f.length:Int))=true:=by simp
  apply RG;simp only[go_sem,iv,bb];refine⟨ab,?_⟩;refine Dz (m:=1) hd (by exact jH) (by exact Wp) am rfl rfl rfl rfl (cellsU hd (.head _) ac) (by rw[aa]) hc.ones ab (by unfold maxLen;omega) fun v' I2 A2 a9 a3 b5=>?_;obtain⟨a2,c2,rfl⟩:=b5.slice;apply RG;simp only[go_sem,iv];refine af rfl a9 (r:=[_]) rfl a3 ⟨A2,rfl,xs++c,?_,?_⟩
  ·simpa[gv]using b5
  ·rw[aaS,abH,aa6];exact(a7.app (.one hc)).mono fun _ _ h=>h.le a3
def ej:aO Tryz.prog 199:=⟨_,Tryz.func199,rfl,rfl⟩
def Ms:∀{f:ar} {i a:Nat} {d e:T},(∀k s,k<i->f[k]?=some s->s.1<a)->f[i]?=some (a,e)->ins f a d=f.set i (a,e.or d)
 | [],i,a,d,e,_,h=>by simp at h
 |(b,e')::f,0,a,d,e,_,h=>by
  simp only[abh,ZW,aaI]at h;obtain⟨rfl,rfl⟩:=h;simp[ins]
 |(b,e')::f,i+1,a,d,e,h1,h=>by
  have hb:=h1 0 _ ab rfl;simp only at hb;simp only[ins,aaq hb,List.set_cons_succ];rw[Ms (i:=i) (fun k s hk hs=>h1 (k+1) s (Nat.succ_lt_succ hk) (by simpa using hs)) (by simpa using h)]
def GO:∀{f:ar} {i a:Nat} {d:T},i<=f.length->(∀k s,k<i->f[k]?=some s->s.1<a)->(∀s,f[i]?=some s->a<s.1)->ins f a d=f.take i++[(a,d)]++f.drop i
 | [],i,a,d,hi,_,_=>by simp[ins]
 |(b,e')::f,0,a,d,_,_,h=>by
  have:=h _ rfl;simp only at this;simp only[ins];rw[ZV ab,ZV ab];simp
 |(b,e')::f,i+1,a,d,hi,h1,h=>by
  have hb:=h1 0 _ ab rfl;simp only at hb;simp only[ins,aaq hb,abA,abx,aaz];rw[GO (i:=i) (by simpa using hi) (fun k s hk hs=>h1 (k+1) s (Nat.succ_lt_succ hk) (by simpa using hs)) (fun s hs=>h s (by simpa using hs))]
def jy.le'{J:PH}(h:jy I A v f)(aa:I.le J):jy J A v f:=Ow.le (R:=iD) (fun{I J c a} h k=>iD.le h k) h aa
def Ow.inU{α:Type}{R:PH->List Value->α->Prop}{ps:List PH}{l:List α}(h:Ow R e size I A v l)(hd:Dj ps)(hA:A∈ps):In R I (U ps) v l:=by
 obtain⟨xs,h1,h2⟩:=h;obtain⟨a,c,e⟩:=h1.slice;rcases abn l.length with hz|hp
 ·exact⟨a,c,e,.inl (List.length_eq_zero_iff.1 hz)⟩
 ·obtain⟨g,cap,e2,hc⟩:=h1.cellsU hd hA hp;exact⟨_,cap,e2,.inr ⟨g,0,xs,rfl,hc,h2⟩⟩
def bK{vd:Value}{d:T}(hf:jy I A vf f)(aq:cX I vd d)(hs:f.Pairwise (fun s t=>s.1<t.1))(hp:∀s∈f,s.1<2^61)(ha:a<2^61)(hl:f.length<2^40):
  aK Tryz.prog 199 #[vf,iv a,vd] I [A] fun v I2 qs=>∃A2,qs=[A2]/\jy I2 A2 v (Syn.join f a d):=by
 intro hd;obtain⟨da,dc,rfl⟩:=aq.shape;have bs:=hf.inU hd (.tail _ (.head _));obtain⟨za,zc,rfl⟩:=hf.shape;refine cC Tryz.func199 rfl (by simp[Tryz.ntmps199]) fun w0=>?_;simp only[Tryz.ntmps199,iv];refine aT ?_;refine WZ rfl jt (gO aq) fun v H2 hv=>?_;obtain⟨rfl,rfl⟩:=hv;cases ao:decide (d=.lf false)
 ·have ba:d≠ff:=by simpa using ao
  apply RG;simp only[go_sem,iv,ao];refine WZ rfl Qp (H6 bs hs hp ha ab) fun v H2 hv=>?_;obtain⟨rfl,i,hi,h1,h2,rfl⟩:=hv;have hj:Syn.join f a d=ins f a d:=by unfold Syn.join;rw[ZV ba]
  cases an:Dm f i a
  ·apply RG;simp only[go_sem,iv,an];have bx:∀s,f[i]?=some s->a<s.1:=fun s a5=>by
    have:=h2 i s (ZR _) a5;simp only[Dm,a5,abp]at an;omega
   refine ax hd (by exact RV) rfl rfl rfl rfl rfl bg fun nb I2 b0 ac bb=>?_;apply RG;simp only[go_sem,iv];have c1:=Kq (I:=I2) (A:=A) (i:=i) (nb:=nb) (c1:=1) (c:=[iv a,.slice da (T.subs d).length dc,iv (T.plc (T.subs d) d)]) (s:=(a,d)) (jy.le' hf ac) hi (by rw[bb];rfl) ⟨_,_,rfl,aq.le ac⟩ hl;refine DY b0 [0] rfl OF rfl (F:=[]) rfl c1 fun v I3 qs al aa hq=>?_;obtain⟨A2,rfl,b3⟩:=hq;simp only[aa6]at al |-;apply RG;simp only[go_sem,iv];refine af rfl al (r:=[_]) rfl (abV ac aa) ⟨A2,rfl,?_⟩;rw[hj,GO hi h1 bx];exact b3
  ·obtain⟨⟨p,e⟩,ag⟩:∃s,f[i]?=some s:=by
    cases hx:f[i]? with
    |some s=>exact⟨s,rfl⟩
    |none=>simp[Dm,hx]at an
   have a9:p=a:=by simpa[Dm,ag]using an
   subst a9;have bc:i<f.length:=by
    rcases aaf i f.length with h|h
    ·exact h
    ·rw[aan h]at ag;cases ag
   obtain⟨xs,aS,a2⟩:=hf;obtain⟨g,cap,cur,e1,rfl,a6,b2,b1,a4⟩:=aS.sg ab;cases e1
   have a3:=a2.get iD.len ag;have bd:=a2.len iD.len;obtain⟨sl,rt,a7,ak⟩:=a3;obtain⟨ea,ec,e2⟩:=ak.shape;simp only[Value.agg.injEq,Array.mk.injEq,abB,abC]at e2;obtain⟨rfl,rfl⟩:=e2;have b5:i*3+3<=f.length*3:=by omega
   have b4:f.length*3<=zc*3:=aaQ _ a6;have am:aP (sg g (.cells cur 169 (0,0))) g (i*3+1) [.slice ea (T.subs e).length ec,iv (T.plc (T.subs e) e)]:=by
    refine ay (by simp;omega) ?_;have h3:(cur.toList.drop (i*3)).take 3=(xs.drop (i*3)).take 3:=by
     rw[<-a4,List.drop_take,aa4,aaN ab]
    rw[a7]at h3;have:(cur.toList.drop (i*3+1)).take 2=((cur.toList.drop (i*3)).take 3).drop 1:=by
     rw[List.drop_take,aa3]
    simp only[aaj,aaO,ZZ,Nat.reduceAdd];rw[this,h3];rfl
   apply RG;simp only[go_sem,iv,an];refine dN mixed [0,1,2,3,4,5,6,7,8,9,10,11] [6] [] rfl rfl ?_;apply au;simp only[go_sem,iv];refine⟨ab,?_⟩;refine W7 (l:=[.slice ea (T.subs e).length ec,iv (T.plc (T.subs e) e)]) (v:=.agg #[.slice ea (T.subs e).length ec,iv (T.plc (T.subs e) e)]) rfl (by simpa using cellsU hd (.tail _ (.head _)) am) (.inl ⟨r9,rfl⟩) ?_;apply au;simp only[go_sem,iv];refine aE hd [0] [] [_] rfl yj rfl (KP ak aq) fun v I3 qs al aa hq=>?_;obtain⟨rfl,hr⟩:=hq;obtain⟨ra,rc,rfl⟩:=hr.shape;simp only[aaA]at al |-;apply au;simp only[go_sem,iv];refine⟨ab,?_⟩;refine aQ al rfl rfl rfl rfl rfl rfl (by exact Ds) (by simp;omega) fun bF=>?_;refine aw ?_;apply RG;simp only[go_sem,iv];refine af rfl bF (r:=[_]) rfl aa ⟨_,rfl,?_⟩;rw[hj,Ms h1 ag];have a1:LR (iD I3) xs f:=a2.mono fun _ _ h=>h.le aa;have aj:=a1.set iD.len bc (c:=[iv p,.slice ra (T.subs (e.or d)).length rc,iv (T.plc (T.subs (e.or d)) (e.or d))]) (a:=(p,e.or d)) ⟨_,_,rfl,hr⟩;refine⟨_,?_,aj⟩;rw[aa0];refine mh.of_sg ?_ a6 b2 (by simp[aX];exact b1) ?_
   ·rw[aj.len iD.len,aa0]
   ·show (br cur.toList (i*3+1) [.slice ra (T.subs (e.or d)).length rc,iv (T.plc (T.subs (e.or d)) (e.or d))]).take (f.length*3)=_;rw[oC _ _ _ _ (by simp;omega),a4,fE _ _ _ (by simp;omega)];have e1:xs.take (i*3+1)=xs.take (i*3)++[iv p]:=by
     have:xs.take (i*3+1)=xs.take (i*3)++((xs.drop (i*3)).take 3).take 1:=by
      rw[aa4,aaN ab,List.take_add]
     rw[this,a7];rfl
    rw[e1];simp only[aaj,aaO,ZZ,Nat.reduceAdd];rw[show (i+1)*3=i*3+1+2 by omega];simp
 ·have bC:d=ff:=by simpa using ao
  subst bC;apply RG;simp only[go_sem,ao];exact af rfl hd (r:=[_]) rfl (abW _) ⟨A,rfl,by simpa[Syn.join,gv]using hf⟩
end Go.Proofs.YtfaclfkpnmcmlaaGreatDoor
