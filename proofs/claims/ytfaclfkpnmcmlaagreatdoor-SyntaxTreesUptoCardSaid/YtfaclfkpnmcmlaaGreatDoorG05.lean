import Derived.Test.YtfaclfkpnmcmlaaGreatDoorG04
set_option maxHeartbeats 8000000
set_option linter.all false
namespace Go.Ke
open Go Go.Sx
inductive LV where
 |v (x:Value)
 |p (id off:Nat)
 |sl (id off len cap:Nat) (ex:Bool)
 |m (id:Nat)
 |f (fn:Fn) (l c:List LV)
 |i (t:TypeId) (x:LV)
 |ag (cs:List LV)
 |tu (cs:List LV)
 |d0 (id:Nat)
 |d1 (id:Nat)
 |us
 deriving Inhabited
inductive EV where
 |blk (b x:Nat)
 |dia (a b:Value)
abbrev aH:=Nat->Option EV
def aH.le(e e':aH):Prop:=∀id x,e id=some x->e' id=some x
def aH.le_refl(e:aH):e.le e:=fun _ _ h=>h
def aH.le_trans{a b c:aH}(h:a.le b)(k:b.le c):a.le c:=fun i x d=>k i x (h i x d)
def xE:LV->Bool | .v _=>true | .p ..=>true | .sl ..=>true | .m _=>true | .d0 _=>true | .d1 _=>true|_=>false
def x9:LV->Bool | .ag cs=>cs.all xE|x=>xE x
mutual
def VR(e:aH):LV->Value->Prop
 | .v x,y=>y=x
 | .p id off,y=>∃b x,e id=some (.blk b x)/\y=.pointer (some ⟨b,off,none⟩)
 | .sl id off len cap ex,y=>∃b x,e id=some (.blk b x)/\y=.slice (some ⟨b,off,none⟩) len (if ex then cap else cap+x)
 | .m id,y=>∃b x,e id=some (.blk b x)/\y=.map (some b)
 | .f fn l c,y=>∃l' c',y=.func fn l'.toArray c'.toArray/\aK e l l'/\aK e c c'
 | .i t x,y=>∃x',y=.iface t x'/\VR e x x'
 | .ag cs,y=>∃cs',y=.agg cs'.toArray/\aK e cs cs'
 | .tu cs,y=>∃cs',y=.tuple cs'.toArray/\aK e cs cs'
 | .d0 id,y=>∃b s n c,e id=some (.dia y b)/\y=.slice s n c
 | .d1 id,y=>∃a k n,e id=some (.dia a y)/\y=.int k n
 | .us,y=>∃a n c,y=.slice a n c
def aK (e:aH):List LV->List Value->Prop
 | [],l=>l=[]
 |x::xs,l=>∃y ys,l=y::ys/\VR e x y/\aK e xs ys
end
mutual
theorem VR.mono{e e':aH}(h:e.le e'):∀{x:LV} {y:Value},VR e x y->VR e' x y
 | .v x,y,k=>by simpa only[VR]using k
 | .p id off,y,k=>by simp only[VR]at k |-;obtain⟨b,x,a,r⟩:=k;exact⟨b,x,h _ _ a,r⟩
 | .sl id off len cap ex,y,k=>by simp only[VR]at k |-;obtain⟨b,x,a,r⟩:=k;exact⟨b,x,h _ _ a,r⟩
 | .m id,y,k=>by simp only[VR]at k |-;obtain⟨b,x,a,r⟩:=k;exact⟨b,x,h _ _ a,r⟩
 | .f fn l c,y,k=>by simp only[VR]at k |-;obtain⟨l',c',a,r,s⟩:=k;exact⟨l',c',a,aK.mono h r,aK.mono h s⟩
 | .i t x,y,k=>by simp only[VR]at k |-;obtain⟨x',a,r⟩:=k;exact⟨x',a,VR.mono h r⟩
 | .ag cs,y,k=>by simp only[VR]at k |-;obtain⟨x',a,r⟩:=k;exact⟨x',a,aK.mono h r⟩
 | .tu cs,y,k=>by simp only[VR]at k |-;obtain⟨x',a,r⟩:=k;exact⟨x',a,aK.mono h r⟩
 | .d0 id,y,k=>by simp only[VR]at k |-;obtain⟨b,s,n,c,a,r⟩:=k;exact⟨b,s,n,c,h _ _ a,r⟩
 | .d1 id,y,k=>by simp only[VR]at k |-;obtain⟨b,s,n,a,r⟩:=k;exact⟨b,s,n,h _ _ a,r⟩
 | .us,y,k=>by simpa only[VR]using k
theorem aK.mono {e e':aH} (h:e.le e'):∀{xs:List LV} {ys:List Value},aK e xs ys->aK e' xs ys
 | [],l,k=>by simpa only[aK]using k
 |x::xs,l,k=>by simp only[aK]at k |-;obtain⟨y,ys,a,r,s⟩:=k;exact⟨y,ys,a,VR.mono h r,aK.mono h s⟩
end
def aK.length{e:aH}:∀{xs:List LV} {ys:List Value},aK e xs ys->ys.length=xs.length
 | [],l,k=>by simp only[aK]at k;subst k;rfl
 |x::xs,l,k=>by simp only[aK]at k;obtain⟨y,ys,rfl,_,s⟩:=k;simp[aK.length s]
def aK.get{e:aH}:∀{xs:List LV} {ys:List Value},aK e xs ys->∀{i:Nat} {x:LV},xs[i]?=some x->∃y,ys[i]?=some y/\VR e x y
 | [],l,k,i,x,h=>by simp at h
 |x::xs,l,k,0,z,h=>by simp only[aK]at k;obtain⟨y,ys,rfl,r,s⟩:=k;simp at h;subst h;exact⟨y,by simp,r⟩
 |x::xs,l,k,i+1,z,h=>by simp only[aK]at k;obtain⟨y,ys,rfl,r,s⟩:=k;simpa using s.get (by simpa using h)
def aK.append{e:aH}:∀{xs:List LV} {ys:List Value},aK e xs ys->∀{xs':List LV} {ys':List Value},aK e xs' ys'->aK e (xs++xs') (ys++ys')
 | [],l,k,_,_,h=>by simp only[aK]at k;subst k;simpa using h
 |x::xs,l,k,_,_,h=>by simp only[aK]at k;obtain⟨y,ys,rfl,r,s⟩:=k;simp only[gR,aK];exact⟨y,_,rfl,r,s.append h⟩
def aK.take{e:aH}:∀(n:Nat) {xs:List LV} {ys:List Value},aK e xs ys->aK e (xs.take n) (ys.take n)
 |0,_,_,_=>by simp[aK]
 |n+1,[],l,k=>by simp only[aK]at k;subst k;simp[aK]
 |n+1,x::xs,l,k=>by simp only[aK]at k;obtain⟨y,ys,rfl,r,s⟩:=k;simp only[rE,aK];exact⟨y,_,rfl,r,s.take n⟩
def aK.drop{e:aH}:∀(n:Nat) {xs:List LV} {ys:List Value},aK e xs ys->aK e (xs.drop n) (ys.drop n)
 |0,_,_,k=>by simpa using k
 |n+1,[],l,k=>by simp only[aK]at k;subst k;simp[aK]
 |n+1,x::xs,l,k=>by simp only[aK]at k;obtain⟨y,ys,rfl,r,s⟩:=k;simpa using s.drop n
def aK.set{e:aH}:∀{xs:List LV} {ys:List Value},aK e xs ys->∀(n:Nat) {x:LV} {y:Value},VR e x y->aK e (xs.set n x) (ys.set n y)
 | [],l,k,n,x,y,h=>by simp only[aK]at k;subst k;simp[aK]
 |z::xs,l,k,0,x,y,h=>by simp only[aK]at k;obtain⟨a,ys,rfl,r,s⟩:=k;simp only[List.set_cons_zero,aK];exact⟨y,ys,rfl,h,s⟩
 |z::xs,l,k,n+1,x,y,h=>by simp only[aK]at k;obtain⟨a,ys,rfl,r,s⟩:=k;simp only[List.set_cons_succ,aK];exact⟨a,_,rfl,r,s.set n h⟩
def aK.map_v(e:aH):∀(l:List Value),aK e (l.map .v) l
 | []=>by simp[aK]
 |x::l=>by simp only[jW,aK];exact⟨x,l,rfl,by simp[VR],aK.map_v e l⟩
def ke:LV->List LV
 | .ag cs=>cs
 | .v (.agg cs)=>cs.toList.map .v
 |x=>[x]
def setL:List LV->Nat->List LV->List LV
 |l,_,[]=>l
 |l,n,c::cs=>setL (l.set n c) (n+1) cs
theorem aK.setL{e:aH}:∀{cs:List LV} {cs':List Value},aK e cs cs'->∀{xs:List LV} {ys:List Value},aK e xs ys->∀(n:Nat),aK e (setL xs n cs) (bi ys n cs')
 | [],l,k,xs,ys,h,n=>by simp only[aK]at k;subst k;simpa only[Ke.setL,bi]using h
 |x::cs,l,k,xs,ys,h,n=>by simp only[aK]at k;obtain⟨y,a,rfl,r,s⟩:=k;simp only[Ke.setL,bi];exact s.setL (h.set n r) (n+1)
inductive LO where
 |cells (c:List LV) (ty:TypeId) (gr:Bool)
 |ro (c:List LV)
 |map (es:List (Value×LV)) (kt:TypeId)
 |dia (t:Dg.T)
 |dead
abbrev LM:=Nat->Option LO
def LM.up(M:LM)(id:Nat)(o:LO):LM:=fun j=>if j=id then some o else M j
def aH.up(e:aH)(id:Nat)(o:EV):aH:=fun j=>if j=id then some o else e j
variable{id:Nat}
def aH.le_up{e:aH}{o:EV}(h:e id=none):e.le (e.up id o):=fun j x a=>by
 unfold aH.up;by_cases k:j=id
 .subst k;rw[h]at a;cases a
 .rw[ad k];exact a
def aH.up_self(e:aH)(id:Nat)(o:EV):(e.up id o) id=some o:=by simp[aH.up]
def aH.up_other{e:aH}{j:Nat}{o:EV}(h:j≠id):(e.up id o) j=e j:=by simp[aH.up,h]
def LM.up_self(e:LM)(id:Nat)(o:LO):(e.up id o) id=some o:=by simp[LM.up]
def LM.up_other{e:LM}{j:Nat}{o:LO}(h:j≠id):(e.up id o) j=e j:=by simp[LM.up,h]
structure bQ where
 P:Program
 rep:PH->Value->Value->Dg.T->Prop
 mono:∀{I J:PH} {a b:Value} {t:Dg.T},rep I a b t->I.le J->rep J a b t
 keyed:TypeId->Bool
 keyedOk:∀{kt:TypeId},keyed kt=true->Maps.Keyed P kt
def m0(X:bQ)(e:aH)(I H:PH)(id:Nat):LO->Prop
 | .cells c ty gr=>∃b x cs post,e id=some (.blk b x)/\I b=none/\H b=some (.cells (cs++post).toArray ty (0,0))/\aK e c cs/\(∃s,bk X.P ty=some s/\post.length=x*s/\(gr=true->cs.length+x*s<=maxLen*s))/\(gr=false->x=0)
 | .ro c=>∃b x cs post ty d,e id=some (.blk b x)/\H b=some (.cells (cs++post).toArray ty d)/\aK e c cs
 | .map es kt=>∃b,e id=some (.blk b 0)/\I b=none/\dA X.P H b kt (fun y u=>∃k∈es,k.1=y/\VR e k.2 u)/\∀k∈es,(∃u,VR e k.2 u)/\x9 k.2=true
 | .dia t=>∃a b,e id=some (.dia a b)/\X.rep I a b t/\(∃s n c,a=.slice s n c)/\∃k n,b=.int k n
 | .dead=>True
def mq:LO->Bool | .cells ..=>true | .ro _=>true | .map ..=>true|_=>false
structure cD(X:bQ)(e:aH)(M:LM)(I H:PH):Prop where
 le:I.le H
 inj:∀i j oi oj b x y,M i=some oi->M j=some oj->mq oi=true->mq oj=true->e i=some (.blk b x)->e j=some (.blk b y)->i=j
 ob:∀id o,M id=some o->m0 X e I H id o
open Go Go.Sx
abbrev dY:=Operand->Option LV
def nT(P:Program)(T:TypeId)(cs:List LV)(off:Nat):Option LV:=
 match a8 P T with
 |some (some n)=>if off+n<=cs.length then some (.ag ((cs.drop off).take n))else none
 |some none=>cs[off]?
 |none=>none
def allL(ρ:dY):List Operand->Option (List LV)
 | []=>some []
 |x::l=>match ρ x,allL ρ l with
  |some a,some r=>some (a::r)
  |_,_=>none
def allPL(ρ:dY):List (Nat×Operand)->Option (List (Nat×LV))
 | []=>some []
 |(i,x)::l=>match ρ x,allPL ρ l with
  |some a,some r=>some ((i,a)::r)
  |_,_=>none
def o6(a:Nat->Option (Nat×Nat))(cells:List LV):List (Nat×LV)->Option (List LV)
 | []=>some cells
 |(i,v)::rest=>
  match a i with
  |none=>none
  |some (off,size)=>if (ke v).length=size/\off+size<=cells.length then o6 a (setL cells off (ke v)) rest else none
def xK(P:Program)(T:TypeId)(parts:List (Nat×LV)):Option LV:=
 match aZ P T with
 |none=>none
 |some z=>
  match br P T with
  | .arr _ size=>(o6 (fun i=>some (i*size,size)) (z.cells.toList.map .v) parts).map .ag
  |_=>if dD P T then (o6 (s6 P T) (z.cells.toList.map .v) parts).map .ag else none
def nv(n:Nat):Option (Option LV)->Option Int
 |none=>some n
 |some (some (.v (.int _ i)))=>some i
 |_=>none
def pq:Operand->Bool | .const _=>true|_=>false
def FQ(P:Program)(t:TypeId):Bool:=match P.info? t,P.underlying t with
 |some i,some (.int _)=>i.comparable
 |_,_=>false
def xY(P:Program)(d:TypeDesc)(c:Bool)(x y:LV):Option Bool:=
 match d,x,y with
 | .interface _,.i t (.v (.int k n)),.i e (.v (.int h g))=>if t≠e then some false else if FQ P t=true/\k=h then some (n == g)else none
 | .slice _,.v (.slice none _ _),.v (.slice b _ _)=>some b.isNone
 | .slice _,.sl ..,.v (.slice none _ _)=>some false
 | .slice _,.v (.slice none _ _),.sl ..=>some false
 | .interface _,.v .nilIface,.v .nilIface=>if c then some true else none
 | .interface _,.v .nilIface,.i _ _=>some false
 | .interface _,.i _ _,.v .nilIface=>some false
 | .bool,.v (.bool a),.v (.bool b)=>some (a == b)
 | .pointer _,.v (.pointer none),.v (.pointer b)=>some b.isNone
 | .pointer _,.p _ _,.v (.pointer none)=>some false
 | .pointer _,.v (.pointer none),.p _ _=>some false
 | .map _ _,.v (.map none),.v (.map b)=>some b.isNone
 | .map _ _,.m _,.v (.map none)=>some false
 | .func ..,.v .nilFunc,.v .nilFunc=>some true
 | .func ..,.f ..,.v .nilFunc=>some false
 |_,_,_=>none
def Dv(c x y:Option LV):Option LV:=match c with|some (.v (.bool b))=>if b then x else y|_=>none
def se(n:Nat):Option LV->Option LV|some (.p id off)=>some (.p id (off+n))|_=>none
def CS(e:qb)(x i:Option LV):Option LV:=
 match e,x,i with
 | .arr len size,some (.p id off),some (.v (.int _ n))=>if 0<=n/\n<len then some (.p id (off+n.toNat*size))else none
 | .sl size,some (.sl id off len _ _),some (.v (.int _ n))=>if 0<=n/\n<len then some (.p id (off+n.toNat*size))else none
 |_,_,_=>none
def Hm(k:Kd)(x i:Option LV):Option LV:=
 match k,x,i with
 | .str,some (.v (.string s)),some (.v (.int _ n))=>if 0<=n/\n<s.size then some (.v (.int .u8 (ss s n.toNat)))else none
 |_,_,_=>none
def Hl(P:Program)(len:Nat)(a:TypeId)(x i:Option LV):Option LV:=
 match P.info? a,x,i with
 |some j,some (.ag cs),some (.v (.int _ n))=>if 0<=n/\n<len then nT P a cs (n.toNat*j.size)else none
 |_,_,_=>none
def xZ(P:Program)(op:BinOp)(d:Option TypeDesc)(c:Bool)(a b:LV):Option LV:=
 match op,d with
 | .eql,some d=>(xY P d c a b).map fun r=>.v (.bool r)
 | .neq,some d=>(xY P d c a b).map fun r=>.v (.bool !r)
 |_,_=>none
def Bt(P:Program)(op:BinOp)(T:TypeId)(c:Bool)(x y:Option LV):Option LV:=
 match x,y with
 |some (.v a),some (.v b)=>match ux op a b with
  |some r=>some (.v r)
  |none=>xZ P op (P.underlying T) c (.v a) (.v b)
 |some a,some b=>xZ P op (P.underlying T) c a b
 |_,_=>none
def HD(k:Kd):Option LV->Option LV
 |some (.sl _ _ len _ _)=>match k with | .sl=>some (.v (.int .i64 len))|_=>none
 |some (.v (.slice _ len _))=>match k with | .sl=>some (.v (.int .i64 len))|_=>none
 |some (.v (.string s))=>match k with | .str=>some (.v (.int .i64 s.size))|_=>none
 |_=>none
def Fz(k:Kd):Option LV->Option LV
 |some (.sl _ _ _ cap true)=>match k with | .sl=>some (.v (.int .i64 cap))|_=>none
 |some (.v (.slice _ _ cap))=>match k with | .sl=>some (.v (.int .i64 cap))|_=>none
 |_=>none
def uA(P:Program)(ρ:dY)(c:Call):Option LV:=
 match c.callee,c.args.toList,c.argTypes.toList with
 | .builtin .len,[x],[t]=>HD (bm P t) (ρ x)
 | .builtin .cap,[x],[t]=>Fz (bm P t) (ρ x)
 | .builtin .min,[x,y],_=>match ρ x,ρ y with|some (.v a),some (.v b)=>(pD a b).map .v|_,_=>none
 | .builtin .max,[x,y],_=>match ρ x,ρ y with|some (.v a),some (.v b)=>(vD a b).map .v|_,_=>none
 |_,_,_=>none
def Ju(k:Kd)(e:qb)(x:Option LV)(lo hi:Option (Option LV)):Option LV:=
 match k,e,x with
 | .sl,.sl size,some (.sl id off len cap ex)=>match nv 0 lo,nv len hi with
  |some l,some h=>if 0<=l/\l<=h/\h<=cap then (if l<cap then some (.sl id (off+l.toNat*size) (h.toNat-l.toNat) (cap-l.toNat) ex)else if ex then some (.sl id off (h.toNat-l.toNat) (cap-l.toNat) ex)else some .us)else none
  |_,_=>none
 | .sl,.sl _,some (.v (.slice none 0 0))=>match nv 0 lo,nv 0 hi with
  |some 0,some 0=>some (.v (.slice none 0 0))
  |_,_=>none
 | .str,_,some (.v (.string s))=>match nv 0 lo,nv s.size hi with
  |some l,some h=>if 0<=l/\l<=h/\h<=s.size then some (.v (.string (s.extract l.toNat h.toNat)))else none
  |_,_=>none
 |_,_,_=>none
def mB(P:Program)(ρ:dY):Op->Option LV
 | .move x | .assign x=>ρ x
 | .pick c x y=>Dv (ρ c) (ρ x) (ρ y)
 | .fieldAddr T x f=>match bj P T f with|some (n,_)=>se n (ρ x)|none=>none
 | .nilCheck x=>se 0 (ρ x)
 | .indexAddr T x i=>CS (br P T) (ρ x) (ρ i)
 | .index T x i=>match P.underlying T with|some (.array len b)=>Hl P len b (ρ x) (ρ i)|_=>Hm (bm P T) (ρ x) (ρ i)
 | .field T x f=>match bj P T f,ρ x with|some (n,ty),some (.ag cs)=>nT P ty cs n|some (n,ty),some (.v (.agg cs))=>nT P ty (cs.toList.map .v) n|_,_=>none
 | .extract x n=>match ρ x with|some (.tu l)=>l[n]?|some (.v (.tuple l))=>(l.toList[n]?).map .v|_=>none
 | .build T ps=>match allPL ρ ps.toList with|some l=>xK P T l|none=>none
 | .binOp op T x y _=>Bt P op T (pq x || pq y) (ρ x) (ρ y)
 | .unOp op _ x=>match ρ x with|some (.v a)=>(wO op a).map .v|_=>none
 | .convert s d x=>match bE P s,ρ x with|true,some (.v a)=>(uG P d a).map .v|_,_=>none
 | .makeFunc fn f c=>match allL ρ f.toList,allL ρ c.toList with|some l,some m=>some (.f fn l m)|_,_=>none
 | .makeInterface T x=>match P.underlying T,ρ x with|some (.interface _),_=>none|some _,some a=>some (.i T a)|_,_=>none
 | .call c=>uA P ρ c
 | .slice T x lo hi none=>Ju (bm P T) (br P T) (ρ x) (lo.map ρ) (hi.map ρ)
 |_=>none
def OR(e:aH)(ρ:dY)(σ:St):Prop:=∀x v,ρ x=some v->∃y,ev σ x=.v y/\VR e v y
variable{y:Value}{x:LV}
def xM{e:aH}(h:VR e x y):aK e (ke x) y.cells.toList:=by
 have one:∀(z:LV),ke z=[z]->VR e z y->y.cells=#[y]->aK e (ke z) y.cells.toList:=by intro z h1 h2 h3;rw[h1,h3];simp only[aK];exact⟨_,_,rfl,h2,by simp⟩
 have k:=h;cases x with
 |v x=>simp only[VR]at h;subst h;cases y<;>first|exact aK.map_v e _|exact one _ rfl k rfl
 |ag cs=>simp only[VR]at h;obtain⟨cs',rfl,h⟩:=h;simpa only[ke,Value.cells]using h
 |p a b=>simp only[VR]at h;obtain⟨b,x,_,rfl⟩:=h;exact one _ rfl k rfl
 |sl a b c d f=>simp only[VR]at h;obtain⟨b,x,_,rfl⟩:=h;exact one _ rfl k rfl
 |m a=>simp only[VR]at h;obtain⟨b,x,_,rfl⟩:=h;exact one _ rfl k rfl
 |f a b c=>simp only[VR]at h;obtain⟨b,x,rfl,_⟩:=h;exact one _ rfl k rfl
 |i a b=>simp only[VR]at h;obtain⟨b,rfl,_⟩:=h;exact one _ rfl k rfl
 |tu a=>simp only[VR]at h;obtain⟨b,rfl,_⟩:=h;exact one _ rfl k rfl
 |d0 a=>simp only[VR]at h;obtain⟨b,s,n,c,_,rfl⟩:=h;exact one _ rfl k rfl
 |d1 a=>simp only[VR]at h;obtain⟨b,s,n,_,rfl⟩:=h;exact one _ rfl k rfl
 |us=>simp only[VR]at h;obtain⟨b,s,n,rfl⟩:=h;exact one _ rfl k rfl
theorem OR.allL{e:aH}{ρ:dY}{σ:St}(h:OR e ρ σ):∀(l:List Operand) {r:List LV},allL ρ l=some r->∃c,d8 (ev σ) l=some c/\aK e r c
 | [],r,hr=>by simp only[Ke.allL,bv]at hr;subst hr;exact⟨[],rfl,by simp[aK]⟩
 |x::l,r,hr=>by
  simp only[Ke.allL]at hr;split at hr
  .rename_i a f ha b;cases hr
   obtain⟨y,h1,h2⟩:=h x a ha;obtain⟨ys,h3,d⟩:=h.allL l b;exact⟨y::ys,by simp only[d8,h1,h3],by simp only[aK];exact⟨y,ys,rfl,h2,d⟩⟩
  .cases hr
def PR(e:aH):List (Nat×LV)->List (Nat×Value)->Prop
 | [],l=>l=[]
 |(i,x)::r,l=>∃y ys,l=(i,y)::ys/\VR e x y/\PR e r ys
theorem OR.allPL{e:aH}{ρ:dY}{σ:St}(h:OR e ρ σ):∀(l:List (Nat×Operand)) {r:List (Nat×LV)},allPL ρ l=some r->∃c,gm (ev σ) l=some c/\PR e r c
 | [],r,hr=>by simp only[Ke.allPL,bv]at hr;subst hr;exact⟨[],rfl,by simp[PR]⟩
 |(i,x)::l,r,hr=>by
  simp only[Ke.allPL]at hr;split at hr
  .rename_i a f ha b;cases hr
   obtain⟨y,h1,h2⟩:=h x a ha;obtain⟨ys,h3,d⟩:=h.allPL l b;exact⟨(i,y)::ys,by simp only[gm,h1,h3],by simp only[PR];exact⟨y,ys,rfl,h2,d⟩⟩
  .cases hr
def Gk{e:aH}{place:Nat->Option (Nat×Nat)}:∀{parts:List (Nat×LV)} {parts':List (Nat×Value)},PR e parts parts'->∀{c:List LV} {c':List Value},aK e c c'->∀{r:List LV},o6 place c parts=some r->
  ∃a,jP place c' parts'=some a/\aK e r a
 | [],l,k,c,c',b,r,h=>by simp only[PR]at k;subst k;simp only[o6,bv]at h;subst h;exact⟨c',rfl,b⟩
 |(i,x)::parts,l,k,c,c',b,r,h=>by
  simp only[PR]at k;obtain⟨y,ys,rfl,h1,h2⟩:=k;simp only[o6]at h;split at h
  .cases h
  .rename_i off size hp;split at h
   .rename_i f;have d:=xM h1;obtain⟨a,h3,g⟩:=Gk h2 (d.setL b off) h;refine⟨a,?_,g⟩;simp only[jP,hp];rw[ak ⟨by rw[d.length];exact f.1,by rw[b.length];exact f.2⟩];exact h3
   .cases h
variable{P:Program}
def Mv{e:aH}{T:TypeId}{parts:List (Nat×LV)}{parts':List (Nat×Value)}(k:PR e parts parts'){r:LV}(h:xK P T parts=some r):∃c,sn P T parts'=some c/\VR e r c:=by
 unfold xK at h;unfold sn;cases m:aZ P T with
 |none=>rw[m]at h;cases h
 |some z=>
  rw[m]at h;simp only at h |-;have g:∀(i:Nat->Option (Nat×Nat)),(o6 i (z.cells.toList.map .v) parts).map LV.ag=some r->∃c,(jP i z.cells.toList parts').map (fun l=>Value.agg l.toArray)=some c/\VR e r c:=by intro i f;simp only[hH]at f;obtain⟨l,o,rfl⟩:=f;obtain⟨l',h1,h2⟩:=Gk k (aK.map_v e z.cells.toList) o;exact⟨.agg l'.toArray,by rw[h1];rfl,by simp only[VR];exact⟨l',rfl,h2⟩⟩
  have d:(if dD P T then (o6 (s6 P T) (z.cells.toList.map .v) parts).map LV.ag else none)=some r->∃c,(if dD P T then (jP (s6 P T) z.cells.toList parts').map (fun l=>Value.agg l.toArray)else none)=some c/\VR e r c:=by
   intro f;split at f
   .rename_i n;rw[ak n];exact g _ f
   .cases f
  cases j:br P T with
  |arr a b=>rw[j]at h;exact g _ h
  |sl a=>rw[j]at h;exact d h
  |none=>rw[j]at h;exact d h
def vZ{e:aH}{T:TypeId}{cs:List LV}{cs':List Value}(k:aK e cs cs'){off:Nat}{r:LV}(h:nT P T cs off=some r):∃b,gp P T cs' off=some b/\VR e r b:=by
 unfold nT at h;unfold gp;cases ha:a8 P T with
 |none=>rw[ha]at h;cases h
 |some o=>
  cases o with
  |none=>rw[ha]at h;obtain⟨y,h1,h2⟩:=k.get h;exact⟨y,h1,h2⟩
  |some n=>
   rw[ha]at h;simp only at h |-;split at h
   .rename_i a;cases h
    rw[ak (by rw[k.length];exact a)];exact⟨_,rfl,by simp only[VR];exact⟨_,rfl,(k.drop off).take n⟩⟩
   .cases h
def IZ{w:World}{T:TypeId}{d:TypeDesc}(l:P.underlying T=some d){e:aH}{c:Bool}{y:LV}{x' y':Value}{r:Bool}(g:VR e x x')(f:VR e y y')(h:xY P d c x y=some r){ox oy:Operand}(z:c=(pq ox || pq oy)):
  (Op.equal T x' y').run P w=.ok r w/\(∀op,(eqGuard op T ox oy x' y').run P w=.ok () w)/\binOp .eql T x' y'=(do pure (.bool (<-Op.equal T x' y')))/\binOp .neq T x' y'=(do pure (.bool (!(<-Op.equal T x' y')))):=by
 have key:∀k,Op.maxDepth=k+1->(Op.equal T x' y').run P w=.ok r w/\(∀op,(eqGuard op T ox oy x' y').run P w=.ok () w)/\binOp .eql T x' y'=(do pure (.bool (<-Op.equal T x' y')))/\binOp .neq T x' y'=(do pure (.bool (!(<-Op.equal T x' y')))):=by
  intro k j;unfold xY at h;split at h<;>try simp only[VR]at g f
  case h_1=>
   rename_i ms t k1 n v k2 C;obtain⟨B,rfl,g⟩:=g;obtain⟨A,rfl,f⟩:=f;subst g;subst f;refine⟨?_,fun op=>by cases op<;>simp[eqGuard],rfl,rfl⟩;split at h
   .rename_i m;cases h
    unfold Op.equal;rw[j];simp[Op.equalIn,run_underlying l,bY,Result.andThen,m]
   .rename_i m;have m:t=v:=by simpa using m
    subst m;split at h
    .rename_i u;cases h
     obtain⟨o,rfl⟩:=u;unfold FQ at o;cases hi:P.info? t with
     |none=>rw[hi]at o;cases o
     |some i=>
      rw[hi]at o;cases p:P.underlying t with
      |none=>rw[p]at o;cases o
      |some d2=>
       rw[p]at o;cases d2<;>try (cases o;done)
       simp only at o;have s:(typeInfo t).run P w=.ok i w:=by simp[typeInfo,program,Sem.run,hi]
       unfold Op.equal;rw[j];cases k with
       |zero=>exact absurd j aR
       |succ k=>simp[Op.equalIn,run_underlying l,run_underlying p,bY,Result.andThen,s,o]
    .cases h
  case h_2=>
   cases h;subst g;subst f
   rename_i a b c d n;exact⟨by unfold Op.equal;rw[j];cases c<;>simp[Op.equalIn,run_underlying l,bY,Result.andThen],fun op=>by cases op<;>simp[eqGuard],rfl,rfl⟩
  case h_3=>
   cases h;subst f;obtain⟨b,x,_,rfl⟩:=g
   exact⟨by unfold Op.equal;rw[j];simp[Op.equalIn,run_underlying l,bY,Result.andThen],fun op=>by cases op<;>simp[eqGuard],rfl,rfl⟩
  case h_4=>
   cases h;subst g;obtain⟨b,x,_,rfl⟩:=f
   exact⟨by unfold Op.equal;rw[j];simp[Op.equalIn,run_underlying l,bY,Result.andThen],fun op=>by cases op<;>simp[eqGuard],rfl,rfl⟩
  case h_5=>
   split at h
   .cases h;subst g;subst f
    rename_i q;rw[z]at q;refine⟨by unfold Op.equal;rw[j];simp[Op.equalIn,run_underlying l,bY,Result.andThen],fun op=>?_,rfl,rfl⟩;unfold eqGuard;cases ox<;>cases oy<;>first|(exact Bool.noConfusion q)|(cases op<;>simp)
   .cases h
  case h_6=>
   cases h;subst g;obtain⟨b,rfl,_⟩:=f
   exact⟨by unfold Op.equal;rw[j];simp[Op.equalIn,run_underlying l,bY,Result.andThen],fun op=>by cases op<;>simp[eqGuard],rfl,rfl⟩
  case h_7=>
   cases h;subst f;obtain⟨b,rfl,_⟩:=g
   exact⟨by unfold Op.equal;rw[j];simp[Op.equalIn,run_underlying l,bY,Result.andThen],fun op=>by cases op<;>simp[eqGuard],rfl,rfl⟩
  case h_8=>
   cases h;subst g;subst f
   exact⟨by unfold Op.equal;rw[j];simp[Op.equalIn,run_underlying l,bY,Result.andThen],fun op=>by cases op<;>simp[eqGuard],rfl,rfl⟩
  case h_9=>
   cases h;subst g;subst f
   exact⟨by unfold Op.equal;rw[j];simp[Op.equalIn,run_underlying l,bY,Result.andThen],fun op=>by cases op<;>simp[eqGuard],rfl,rfl⟩
  case h_10=>
   cases h;subst f;obtain⟨b,x,_,rfl⟩:=g
   exact⟨by unfold Op.equal;rw[j];simp[Op.equalIn,run_underlying l,bY,Result.andThen],fun op=>by cases op<;>simp[eqGuard],rfl,rfl⟩
  case h_11=>
   cases h;subst g;obtain⟨b,x,_,rfl⟩:=f
   exact⟨by unfold Op.equal;rw[j];simp[Op.equalIn,run_underlying l,bY,Result.andThen],fun op=>by cases op<;>simp[eqGuard],rfl,rfl⟩
  case h_12=>
   cases h;subst g;subst f
   exact⟨by unfold Op.equal;rw[j];simp[Op.equalIn,run_underlying l,bY,Result.andThen],fun op=>by cases op<;>simp[eqGuard],rfl,rfl⟩
  case h_13=>
   cases h;subst f;obtain⟨b,x,_,rfl⟩:=g
   exact⟨by unfold Op.equal;rw[j];simp[Op.equalIn,run_underlying l,bY,Result.andThen],fun op=>by cases op<;>simp[eqGuard],rfl,rfl⟩
  case h_14=>
   cases h;subst g;subst f
   exact⟨by unfold Op.equal;rw[j];simp[Op.equalIn,run_underlying l,bY,Result.andThen],fun op=>by cases op<;>simp[eqGuard],rfl,rfl⟩
  case h_15=>
   cases h;subst f;obtain⟨b,x,rfl,_⟩:=g
   exact⟨by unfold Op.equal;rw[j];simp[Op.equalIn,run_underlying l,bY,Result.andThen],fun op=>by cases op<;>simp[eqGuard],rfl,rfl⟩
  case h_16=>cases h
 exact key 9999 rfl
def px{σ:St}{op:Op}(c:dU op=true)(h:∀x∈op.operands.toList,∃y,ev σ x=.v y):bt σ op=true:=by simp only[bt,c,Bool.true_and,lm];intro x b;obtain⟨y,a⟩:=h x b;rw[a];rfl
def To{e:aH}{ρ:dY}{σ:St}{H:PH}{o:Oper}{v:LV}(p:OR e ρ σ)(h:mB P ρ o.op=some v):∃y,VR e v y/\ql P σ H o (.v y):=by
 obtain⟨dst,op,type,U,after,guard⟩:=o;simp only at h;have ok:∀y,pv P σ.bx (ev σ) op=some (True,.v y)->ql P σ H ⟨dst,op,type,U,after,guard⟩ (.v y):=fun y B=>.inl ⟨True,B,trivial⟩;cases op<;>simp only[mB]at h<;>try (cases h;done)
 case move x=>obtain⟨y,h1,h2⟩:=p _ _ h;exact⟨y,h2,ok y (by simp only[pv,h1])⟩
 case assign x=>obtain⟨y,h1,h2⟩:=p _ _ h;exact⟨y,h2,ok y (by simp only[pv,h1])⟩
 case pick c x y=>
  unfold Dv at h;split at h
  .rename_i b hb;obtain⟨z,h1,h2⟩:=p _ _ hb;simp only[VR]at h2;subst h2;cases b
   .obtain⟨y',h3,u⟩:=p _ _ (by simpa using h);exact⟨y',u,ok _ (by simp[pv,h1,h3])⟩
   .obtain⟨y',h3,u⟩:=p _ _ (by simpa using h);exact⟨y',u,ok _ (by simp[pv,h1,h3])⟩
  .cases h
 case fieldAddr T x f=>
  split at h
  .rename_i n ty hf;unfold se at h;split at h
   .rename_i id off g;cases h
    obtain⟨z,h1,h2⟩:=p _ _ g;simp only[VR]at h2;obtain⟨b,sp,h3,rfl⟩:=h2;exact⟨_,by simp only[VR];exact⟨b,sp,h3,rfl⟩,ok _ (by simp only[pv,hf,h1,vU])⟩
   .cases h
  .cases h
 case nilCheck x=>
  unfold se at h;split at h
  .rename_i id off g;cases h
   obtain⟨z,h1,h2⟩:=p _ _ g;simp only[VR]at h2;obtain⟨b,sp,h3,rfl⟩:=h2;exact⟨_,by simp only[VR,ln];exact⟨b,sp,h3,rfl⟩,ok _ (by simp only[pv,h1,vX])⟩
  .cases h
 case indexAddr T x i=>
  unfold CS at h;split at h
  .rename_i len size id off k n J g hi;split at h
   .rename_i A;cases h
    obtain⟨z,h1,h2⟩:=p _ _ g;obtain⟨R,h3,u⟩:=p _ _ hi;simp only[VR]at h2 u;obtain⟨b,sp,K,rfl⟩:=h2;subst u;exact⟨_,by simp only[VR];exact⟨b,sp,K,rfl⟩,.inl ⟨_,by simp only[pv,J,h1,h3,qN],A⟩⟩
   .cases h
  .rename_i size id off len cap ex k n J g hi;split at h
   .rename_i A;cases h
    obtain⟨z,h1,h2⟩:=p _ _ g;obtain⟨R,h3,u⟩:=p _ _ hi;simp only[VR]at h2 u;obtain⟨b,sp,K,rfl⟩:=h2;subst u;exact⟨_,by simp only[VR];exact⟨b,sp,K,rfl⟩,.inl ⟨_,by simp only[pv,J,h1,h3,qN],A⟩⟩
   .cases h
  .cases h
 case index T x i=>
  split at h
  .rename_i len el Q;unfold Hl at h;split at h
   .rename_i j cs k n hj g hi;split at h
    .rename_i A;obtain⟨z,h1,h2⟩:=p _ _ g;obtain⟨R,h3,u⟩:=p _ _ hi;simp only[VR]at h2 u;obtain⟨cs',rfl,h2⟩:=h2;subst u;obtain⟨y,K,h6⟩:=vZ h2 h;refine⟨y,h6,.inr ⟨y,rfl,px rfl (by simp[Op.operands,h1,h3]),fun w _=>?_⟩⟩;have hp:(part el cs'.toArray (n.toNat*j.size)).run P w=.ok y w:=nY (by simpa using K);have sz:(sizeOf el).run P w=.ok j.size w:=by simp[sizeOf,typeInfo,program,Sem.run,hj]
     have V:(Instr.index T (.agg cs'.toArray) (.int k n)).run P w=.ok y w:=by simp only[Instr.index,bY,asIntOf,dK Q];simp[Result.andThen,dK Q,A,sz,hp]
     simp[execOp,aQ,h1,h3,V,Result.andThen]
    .cases h
   .cases h
  .unfold Hm at h;split at h
   .rename_i s k n J g hi;split at h
    .rename_i A;cases h
     obtain⟨z,h1,h2⟩:=p _ _ g;obtain⟨R,h3,u⟩:=p _ _ hi;simp only[VR]at h2 u;subst h2;subst u;exact⟨.int .u8 (ss s n.toNat),by simp only[VR],.inl ⟨_,by simp only[pv,J,h1,h3,vV],A⟩⟩
    .cases h
   .cases h
 case field T x f=>
  split at h
  .rename_i n ty cs hf g;obtain⟨z,h1,h2⟩:=p _ _ g;simp only[VR]at h2;obtain⟨cs',rfl,h2⟩:=h2;obtain⟨W,h3,u⟩:=vZ h2 h;exact⟨W,u,ok _ (by simp only[pv,hf,h1,h3,fA])⟩
  .rename_i n ty cs hf g;obtain⟨z,h1,h2⟩:=p _ _ g;simp only[VR]at h2;subst h2;obtain⟨W,h3,u⟩:=vZ (aK.map_v e cs.toList) h;exact⟨W,u,ok _ (by simp only[pv,hf,h1,h3,fA])⟩
  .cases h
 case extract x n=>
  split at h
  .rename_i l g;obtain⟨z,h1,h2⟩:=p _ _ g;simp only[VR]at h2;obtain⟨cs',rfl,h2⟩:=h2;obtain⟨W,h3,u⟩:=h2.get h;exact⟨W,u,ok _ (by simp only[pv,h1,h3,fA])⟩
  .rename_i l g;simp only[hH]at h;obtain⟨a,ha,rfl⟩:=h;obtain⟨z,h1,h2⟩:=p _ _ g;simp only[VR]at h2;subst h2;exact⟨a,by simp only[VR],ok _ (by simp only[pv,h1,fA,ha])⟩
  .cases h
 case build T ps=>
  split at h
  .rename_i l M;obtain⟨W,h1,h2⟩:=p.allPL _ M;obtain⟨y,h3,u⟩:=Mv h2 h;exact⟨y,u,ok _ (by simp only[pv,h1,h3,fA])⟩
  .cases h
 case unOp uo T x=>
  split at h
  .rename_i a g;simp only[hH]at h;obtain⟨r,hr,rfl⟩:=h;obtain⟨z,h1,h2⟩:=p _ _ g;simp only[VR]at h2;subst h2;exact⟨r,by simp only[VR],ok _ (by simp only[pv,h1,hr,fA])⟩
  .cases h
 case convert s d x=>
  split at h
  .rename_i a hs g;simp only[hH]at h;obtain⟨r,hr,rfl⟩:=h;obtain⟨z,h1,h2⟩:=p _ _ g;simp only[VR]at h2;subst h2;exact⟨r,by simp only[VR],ok _ (by simp only[pv,hs,h1,hr,fA])⟩
  .cases h
 case makeFunc fn f c=>
  split at h
  .rename_i l m M hm;cases h
   obtain⟨l',h1,h2⟩:=p.allL _ M;obtain⟨m',h3,u⟩:=p.allL _ hm;exact⟨_,by simp only[VR];exact⟨l',m',rfl,h2,u⟩,ok _ (by simp only[pv,h1,h3])⟩
  .cases h
 case makeInterface T x=>
  split at h
  .cases h
  .rename_i d a Q hd ha;cases h
   obtain⟨z,h1,h2⟩:=p _ _ ha;refine⟨.iface T z,by simp only[VR];exact⟨z,rfl,h2⟩,.inr ⟨_,rfl,px rfl (by simp[Op.operands,h1]),fun w _=>?_⟩⟩;have V:(Instr.makeInterface T z).run P w=.ok (.iface T z) w:=by simp only[Instr.makeInterface,bY,dK hd,Result.andThen];cases d<;>first|rfl|exact absurd rfl (Q _)
   simp[execOp,aQ,h1,V,Result.andThen]
  .cases h
 case call c=>
  unfold uA at h;split at h
  .rename_i x t C ha ht;unfold HD at h;split at h<;>rename_i g<;>first|(cases h;done)|skip
   all_goals
    obtain⟨z,h1,h2⟩:=p _ _ g;split at h
    .rename_i D;cases h
     simp only[VR]at h2
     first
     |(obtain⟨b,sp,K,rfl⟩:=h2;exact⟨_,by simp only[VR];rfl,ok _ (by simp only[pv,jn,C,ha,ht,h1,sP,D,fA])⟩)
     |(subst h2;exact⟨_,by simp only[VR];rfl,ok _ (by simp only[pv,jn,C,ha,ht,h1,sP,D,fA])⟩)
    .cases h
  .rename_i x t C ha ht;unfold Fz at h;split at h<;>rename_i g<;>first|(cases h;done)|skip
   all_goals
    obtain⟨z,h1,h2⟩:=p _ _ g;split at h
    .rename_i D;cases h
     simp only[VR]at h2
     first
     |(obtain⟨b,sp,K,rfl⟩:=h2;exact⟨_,by simp only[VR];rfl,ok _ (by simp only[pv,jn,C,ha,ht,h1,sw,D,fA,cY])⟩)
     |(subst h2;exact⟨_,by simp only[VR];rfl,ok _ (by simp only[pv,jn,C,ha,ht,h1,sw,D,fA])⟩)
    .cases h
  .rename_i x y C ha;split at h
   .rename_i a b g B;simp only[hH]at h;obtain⟨r,hr,rfl⟩:=h;obtain⟨z,h1,h2⟩:=p _ _ g;obtain⟨R,h3,u⟩:=p _ _ B;simp only[VR]at h2 u;subst h2;subst u;exact⟨r,by simp only[VR],ok _ (by simp only[pv,jn,C,ha,h1,h3,hr,fA])⟩
   .cases h
  .rename_i x y C ha;split at h
   .rename_i a b g B;simp only[hH]at h;obtain⟨r,hr,rfl⟩:=h;obtain⟨z,h1,h2⟩:=p _ _ g;obtain⟨R,h3,u⟩:=p _ _ B;simp only[VR]at h2 u;subst h2;subst u;exact⟨r,by simp only[VR],ok _ (by simp only[pv,jn,C,ha,h1,h3,hr,fA])⟩
   .cases h
  .cases h
 case binOp bo T x y T2=>
  have Z:∀{a b:LV} {y1 y2:Value},ev σ x=.v y1->ev σ y=.v y2->VR e a y1->VR e b y2->
    xZ P bo (P.underlying T) (pq x || pq y) a b=some v->∃z,VR e v z/\ql P σ H ⟨dst,.binOp bo T x y T2,type,U,after,guard⟩ (.v z):=by
   intro a b y1 y2 g B ha hb A;unfold xZ at A;split at A
   .rename_i d Q;simp only[hH]at A;obtain⟨r,hr,rfl⟩:=A;refine⟨.bool r,by simp only[VR],.inr ⟨_,rfl,px rfl (by simp[Op.operands,g,B]),fun w _=>?_⟩⟩;obtain⟨V,e2,e3,e4⟩:=IZ (w:=w) Q ha hb hr (ox:=x) (oy:=y) rfl;simp[execOp,aQ,g,B,V,e2,e3,Result.andThen]
   .rename_i d Q;simp only[hH]at A;obtain⟨r,hr,rfl⟩:=A;refine⟨.bool !r,by simp only[VR],.inr ⟨_,rfl,px rfl (by simp[Op.operands,g,B]),fun w _=>?_⟩⟩;obtain⟨V,e2,e3,e4⟩:=IZ (w:=w) Q ha hb hr (ox:=x) (oy:=y) rfl;simp[execOp,aQ,g,B,V,e2,e4,Result.andThen]
   .cases A
  unfold Bt at h;split at h
  .rename_i a b g B;obtain⟨z,h1,h2⟩:=p _ _ g;obtain⟨R,h3,u⟩:=p _ _ B;split at h
   .rename_i r hr;cases h
    simp only[VR]at h2 u;subst h2;subst u;exact⟨r,by simp only[VR],ok _ (by simp only[pv,h1,h3,hr,fA])⟩
   .exact Z h1 h3 h2 u h
  .rename_i a b ac g B;obtain⟨z,h1,h2⟩:=p _ _ g;obtain⟨R,h3,u⟩:=p _ _ B;exact Z h1 h3 h2 u h
  .cases h
 case slice T x lo hi mx=>
  cases mx with
  |some m=>simp at h
  |none=>
   simp only at h;have F:∀(n:Nat) (q:Option Operand) (i:Int),nv n (q.map ρ)=some i->ig n (q.map (ev σ))=some i:=by
    intro n q i L;cases q with
    |none=>exact L
    |some y=>
     simp only[fO]at L |-;cases hr:ρ y with
     |none=>rw[hr]at L;simp[nv]at L
     |some a=>
      rw[hr]at L;unfold nv at L;split at L
      .rename_i A;cases A
      .rename_i k j hj;cases L;cases hj
       obtain⟨z,h1,h2⟩:=p _ _ hr;simp only[VR]at h2;subst h2;rw[h1];rfl
      .cases L
   unfold Ju at h;split at h
   .rename_i size id off len cap ex D J g;obtain⟨z,h1,h2⟩:=p _ _ g;have ag:=h2;simp only[VR]at h2;obtain⟨b,sp,K,rfl⟩:=h2;split at h
    .rename_i l A M I;have S:=F _ _ _ M;have G:=F _ _ _ I;split at h
     .rename_i C;obtain⟨c1,c2,c3⟩:=C;have X:cap<=(if ex=true then cap else cap+sp):=by split<;>omega
      generalize N:(if ex=true then cap else cap+sp)=cap' at X h1;have val:∀y,y=Value.slice (eZ (some ⟨b,off,none⟩) size l.toNat cap') (A.toNat-l.toNat) (cap'-l.toNat)->ql P σ H ⟨dst,.slice T x lo hi none,type,U,after,guard⟩ (.v y):=by
       intro y B;subst B;cases hi with
       |none=>exact .inl ⟨0<=l/\l<=A,by simp only[pv,D,J,h1,ku,S];simp only[om]at G |-;simp only[G],⟨c1,c2⟩⟩
       |some q=>exact .inl ⟨(0<=l/\l<=A)/\A<=cap',by simp only[pv,D,J,h1,ku,S];simp only[fO]at G |-;simp only[G],⟨⟨c1,c2⟩,O⟩⟩
      split at h
      .rename_i c4;cases h
       refine⟨_,?_,val _ rfl⟩;simp only[VR];refine⟨b,sp,K,?_⟩;have:eZ (some ⟨b,off,none⟩) size l.toNat cap'=some ⟨b,off+l.toNat*size,none⟩:=by unfold eZ;rw[ad O];simp[l5]
       rw[this,<-N];congr 1;split<;>omega
      .rename_i c4;split at h
       .rename_i aa;cases h
        refine⟨_,?_,val _ rfl⟩;simp only[VR];refine⟨b,sp,K,?_⟩;rw[aa]at N |-;simp only[cY]at N |-;have:eZ (some ⟨b,off,none⟩) size l.toNat cap'=some ⟨b,off,none⟩:=by unfold eZ;rw[ak O]
        rw[this,N]
       .cases h
        refine⟨_,?_,val _ rfl⟩;simp only[VR];exact⟨_,_,_,rfl⟩
     .cases h
    .cases h
   .rename_i size D J g;obtain⟨z,h1,h2⟩:=p _ _ g;simp only[VR]at h2;subst h2;split at h
    .rename_i M I;cases h
     have S:=F _ _ _ M;have G:=F _ _ _ I;refine⟨.slice none 0 0,by simp only[VR],?_⟩;cases hi with
     |none=>exact .inl ⟨(0:Int)<=0/\(0:Int)<=0,by simp only[pv,D,J,h1,ku,S];simp only[om]at G |-;simp only[G];simp[eZ],by simp⟩
     |some q=>exact .inl ⟨((0:Int)<=0/\(0:Int)<=0)/\(0:Int)<=(0:Nat),by simp only[pv,D,J,h1,ku,S];simp only[fO]at G |-;simp only[G];simp[eZ],by simp⟩
    .cases h
   .rename_i s D g;obtain⟨z,h1,h2⟩:=p _ _ g;simp only[VR]at h2;subst h2;split at h
    .rename_i l A M I;have S:=F _ _ _ M;have G:=F _ _ _ I;split at h
     .rename_i C;cases h
      exact⟨.string (s.extract l.toNat A.toNat),by simp only[VR],.inl ⟨(0<=l/\l<=A)/\A<=s.size,by simp only[pv,D,h1,ku,S,G],⟨⟨C.1,C.2.1⟩,C.2.2⟩⟩⟩
     .cases h
    .cases h
   .cases h
inductive Tr (α:Type) where
 |lf
 |nd (l:Tr α) (o:Option α) (r:Tr α)
 noncomputable def Tr.get{α:Type}(t:Tr α):Nat->Option α:=
 Tr.rec (motive:=fun _=>Nat->Option α) (fun _=>none) (fun _ o _ b a n=>Nat.rec (motive:=fun _=>Option α) o (fun m _=>Nat.rec (motive:=fun _=>Option α) (b (Nat.div m 2)) (fun _ _=>a (Nat.div m 2)) (Nat.mod m 2)) n) t
 noncomputable def Tr.one{α:Type}(f n:Nat)(a:α):Tr α:=
 Nat.rec (motive:=fun _=>Nat->Tr α) (fun _=>.lf) (fun _ b n=>Nat.rec (motive:=fun _=>Tr α) (.nd .lf (some a) .lf) (fun m _=>Nat.rec (motive:=fun _=>Tr α) (.nd (b (Nat.div m 2)) none .lf) (fun _ _=>.nd .lf none (b (Nat.div m 2))) (Nat.mod m 2)) n) f n
 noncomputable def Tr.set{α:Type}(t:Tr α)(n:Nat)(a:α):Tr α:=
 Tr.rec (motive:=fun _=>Nat->Tr α) (fun n=>Tr.one 31 n a) (fun l o r c b n=>Nat.rec (motive:=fun _=>Tr α) (.nd l (some a) r) (fun m _=>Nat.rec (motive:=fun _=>Tr α) (.nd (c (Nat.div m 2)) o r) (fun _ _=>.nd l o (b (Nat.div m 2))) (Nat.mod m 2)) n) t n
 noncomputable def Tr.del{α:Type}(t:Tr α):Nat->Tr α:=
 Tr.rec (motive:=fun _=>Nat->Tr α) (fun _=>.lf) (fun l o r b a n=>Nat.rec (motive:=fun _=>Tr α) (.nd l none r) (fun m _=>Nat.rec (motive:=fun _=>Tr α) (.nd (b (Nat.div m 2)) o r) (fun _ _=>.nd l o (a (Nat.div m 2))) (Nat.mod m 2)) n) t
def zv{γ:Type}(m:Nat)(a b:γ):(Nat.rec (motive:=fun _=>γ) a (fun _ _=>b) (Nat.mod m 2):γ)=if m % 2=0 then a else b:=by have:Nat.mod m 2=m % 2:=rfl;rw[this];rcases Nat.mod_two_eq_zero_or_one m with h|h<;>rw[h]<;>rfl
variable{α:Type}
def Tr.get_nd(l:Tr α)(o:Option α)(r:Tr α)(n:Nat):(Tr.nd l o r).get n=if n=0 then o else if (n-1) % 2=0 then l.get ((n-1) / 2)else r.get ((n-1) / 2):=by
 cases n with
 |zero=>rfl
 |succ m=>exact(zv m _ _).trans (by simp;rfl)
def Tr.set_nd(l:Tr α)(o:Option α)(r:Tr α)(n:Nat)(a:α):(Tr.nd l o r).set n a=if n=0 then .nd l (some a) r else if (n-1) % 2=0 then .nd (l.set ((n-1) / 2) a) o r else .nd l o (r.set ((n-1) / 2) a):=by
 cases n with
 |zero=>rfl
 |succ m=>exact(zv m _ _).trans (by simp;rfl)
def Tr.del_nd(l:Tr α)(o:Option α)(r:Tr α)(n:Nat):(Tr.nd l o r).del n=if n=0 then .nd l none r else if (n-1) % 2=0 then .nd (l.del ((n-1) / 2)) o r else .nd l o (r.del ((n-1) / 2)):=by
 cases n with
 |zero=>rfl
 |succ m=>exact(zv m _ _).trans (by simp;rfl)
def Tr.one_s(f n:Nat)(a:α):Tr.one (f+1) n a=if n=0 then .nd .lf (some a) .lf else if (n-1) % 2=0 then .nd (Tr.one f ((n-1) / 2) a) none .lf else .nd .lf none (Tr.one f ((n-1) / 2) a):=by
 cases n with
 |zero=>rfl
 |succ m=>exact(zv m _ _).trans (by simp;rfl)
def Tr.get_step{l l' r r':Tr α}{o o':Option α}{n m:Nat}{x:Option α}(b:n=0->o'=x/\l'=l/\r'=r)(h1:n≠0->o'=o/\(((n-1) % 2=0/\r'=r/\∀k,l'.get k=if k=(n-1) / 2 then x else l.get k)\/((n-1) % 2≠0/\l'=l/\∀k,r'.get k=if k=(n-1) / 2 then x else r.get k))):
  (Tr.nd l' o' r').get m=if m=n then x else (Tr.nd l o r).get m:=by
 rw[Tr.get_nd,Tr.get_nd];by_cases n0:n=0
 .obtain⟨rfl,rfl,rfl⟩:=b n0;subst n0;by_cases a:m=0<;>simp[a]
 .obtain⟨rfl,h⟩:=h1 n0;by_cases a:m=0
  .rw[ak a,ak a,ad O]
  .rw[ad a,ad a];rcases h with ⟨p,rfl,h⟩|⟨p,rfl,h⟩
   .by_cases q:(m-1) % 2=0
    .rw[ak q,ak q,h];by_cases e:m=n
     .rw[ak e,ak O]
     .rw[ad e,ad O]
    .rw[ad q,ad q,ad (by intro e;subst e;exact q p)]
   .by_cases q:(m-1) % 2=0
    .rw[ak q,ak q,ad (by intro e;subst e;exact p q)]
    .rw[ad q,ad q,h];by_cases e:m=n
     .rw[ak e,ak O]
     .rw[ad e,ad O]
def Tr.get_one{α:Type}:∀(f n:Nat) (a:α) (m:Nat),n+1<2^f->(Tr.one f n a).get m=if m=n then some a else none
  |0,n,a,m,h=>by simp at h
  |f+1,n,a,m,h=>by
    have hp:2^(f+1)=2*2^f:=by rw[og,Nat.mul_comm]
    have lf:∀k,(Tr.lf:Tr α).get k=none:=fun _=>rfl;have e0:∀k,(Tr.nd .lf none .lf:Tr α).get k=none:=by intro k;rw[Tr.get_nd];simp[lf]
    have key:(Tr.one (f+1) n a).get m=if m=n then some a else (Tr.nd .lf none .lf:Tr α).get m:=by
     rw[Tr.one_s];by_cases n0:n=0
     · rw[ak n0];exact Tr.get_step (fun _=>⟨rfl,rfl,rfl⟩) (fun h=>(h n0).elim)
     · rw[ad n0]
       by_cases p:(n-1) % 2=0
       · rw[ak p];exact Tr.get_step (fun h=>(n0 h).elim) (fun _=>⟨rfl,.inl ⟨p,rfl,fun k=>by rw[Tr.get_one f _ a k O,lf]⟩⟩)
       · rw[ad p];exact Tr.get_step (fun h=>(n0 h).elim) (fun _=>⟨rfl,.inr ⟨p,rfl,fun k=>by rw[Tr.get_one f _ a k O,lf]⟩⟩)
    rw[key,e0]
def Tr.get_set{α:Type}:∀(t:Tr α) (n:Nat) (a:α) (m:Nat),n<2147483647->(t.set n a).get m=if m=n then some a else t.get m
 | .lf,n,a,m,h=>by show (Tr.one 31 n a).get m=_;rw[Tr.get_one 31 n a m O];rfl
 | .nd l o r,n,a,m,h=>by
  rw[Tr.set_nd];by_cases n0:n=0
  .rw[ak n0];exact Tr.get_step (fun _=>⟨rfl,rfl,rfl⟩) (fun h=>(h n0).elim)
  .rw[ad n0];by_cases p:(n-1) % 2=0
   .rw[ak p];exact Tr.get_step (fun h=>(n0 h).elim) (fun _=>⟨rfl,.inl ⟨p,rfl,fun k=>Tr.get_set l _ a k O⟩⟩)
   .rw[ad p];exact Tr.get_step (fun h=>(n0 h).elim) (fun _=>⟨rfl,.inr ⟨p,rfl,fun k=>Tr.get_set r _ a k O⟩⟩)
def Tr.get_del{α:Type}:∀(t:Tr α) (n m:Nat),(t.del n).get m=if m=n then none else t.get m
 | .lf,n,m=>by show (none:Option α)=if m=n then none else none;split<;>rfl
 | .nd l o r,n,m=>by
  rw[Tr.del_nd];by_cases n0:n=0
  .rw[ak n0];exact Tr.get_step (fun _=>⟨rfl,rfl,rfl⟩) (fun h=>(h n0).elim)
  .rw[ad n0];by_cases p:(n-1) % 2=0
   .rw[ak p];exact Tr.get_step (fun h=>(n0 h).elim) (fun _=>⟨rfl,.inl ⟨p,rfl,fun k=>Tr.get_del l _ k⟩⟩)
   .rw[ad p];exact Tr.get_step (fun h=>(n0 h).elim) (fun _=>⟨rfl,.inr ⟨p,rfl,fun k=>Tr.get_del r _ k⟩⟩)
 noncomputable def Tr.put{α:Type}(t:Tr α)(n:Nat)(a:α):Option (Tr α):=match Nat.blt n 2147483647 with|true=>some (t.set n a)|false=>none
def Tr.get_put{t t':Tr α}{n:Nat}{a:α}(h:t.put n a=some t')(m:Nat):t'.get m=if m=n then some a else t.get m:=by
 unfold Tr.put at h;split at h
 .rename_i hb;cases h;exact Tr.get_set t n a m (by have:n+1<=2147483647:=Nat.le_of_ble_eq_true hb;omega)
 .cases h
def VR.func0{e:aH}{z:Value}(a:xE x=true)(h:VR e x y)(k:VR e x z):y=z:=by
 cases x with
 |v x=>simp only[VR]at h k;rw[h,k]
 |p id off=>simp only[VR]at h k;obtain⟨b,x,h1,rfl⟩:=h;obtain⟨b',x',k1,rfl⟩:=k;rw[h1]at k1;cases k1;rfl
 |sl id off len cap ex=>simp only[VR]at h k;obtain⟨b,x,h1,rfl⟩:=h;obtain⟨b',x',k1,rfl⟩:=k;rw[h1]at k1;cases k1;rfl
 |m id=>simp only[VR]at h k;obtain⟨b,x,h1,rfl⟩:=h;obtain⟨b',x',k1,rfl⟩:=k;rw[h1]at k1;cases k1;rfl
 |d0 id=>simp only[VR]at h k;obtain⟨b,_,_,_,h1,_⟩:=h;obtain⟨b',_,_,_,k1,_⟩:=k;rw[h1]at k1;cases k1;rfl
 |d1 id=>simp only[VR]at h k;obtain⟨b,_,_,h1,_⟩:=h;obtain⟨b',_,_,k1,_⟩:=k;rw[h1]at k1;cases k1;rfl
 |_=>cases a
def aK.func{e:aH}:∀{xs:List LV} {ys zs:List Value},xs.all xE=true->aK e xs ys->aK e xs zs->ys=zs
 | [],y,z,_,h,k=>by simp only[aK]at h k;rw[h,k]
 |x::xs,y,z,a,h,k=>by simp only[List.all_cons,bu]at a;simp only[aK]at h k;obtain⟨f,c,rfl,h1,h2⟩:=h;obtain⟨d,b,rfl,k1,k2⟩:=k;rw[VR.func0 a.1 h1 k1,aK.func a.2 h2 k2]
def VR.func{e:aH}{z:Value}(a:x9 x=true)(h:VR e x y)(k:VR e x z):y=z:=by
 unfold x9 at a;split at a
 .simp only[VR]at h k;obtain⟨c,rfl,h1⟩:=h;obtain⟨b,rfl,k1⟩:=k;rw[aK.func a h1 k1]
 .exact VR.func0 a h k
def m0.blk{X:bQ}{e:aH}{I H:PH}{o:LO}(h:m0 X e I H id o)(c:mq o=true)(d:I.le H):∃b x,e id=some (.blk b x)/\H b≠none:=by
 cases o<;>simp only[mq]at c<;>try (cases c;done)
 .obtain⟨b,x,cs,post,h1,_,h2,_⟩:=h;exact⟨b,x,h1,by rw[h2];simp⟩
 .obtain⟨b,x,cs,post,ty,f,h1,h2,_⟩:=h;exact⟨b,x,h1,by rw[h2];simp⟩
 .obtain⟨b,h1,_,⟨es,a,h2,_⟩,_⟩:=h;exact⟨b,0,h1,by rw[h2];simp⟩
def m0.keep{X:bQ}{e e2:aH}{I H H2:PH}{o:LO}(h:m0 X e I H id o)(d:e.le e2)(hb:mq o=true->∀b x,e id=some (.blk b x)->H2 b=H b):m0 X e2 I H2 id o:=by
 cases o with
 |cells c ty gr=>obtain⟨b,x,cs,post,h1,h2,h3,j,m,l⟩:=h;exact⟨b,x,cs,post,d _ _ h1,h2,by rw[hb rfl b x h1];exact h3,j.mono d,m,l⟩
 |ro c=>obtain⟨b,x,cs,post,ty,n,h1,h2,h3⟩:=h;exact⟨b,x,cs,post,ty,n,d _ _ h1,by rw[hb rfl b x h1];exact h2,h3.mono d⟩
 |map es kt=>
  obtain⟨b,h1,h2,h3,j⟩:=h;refine⟨b,d _ _ h1,h2,?_,fun k f=>⟨let ⟨u,i⟩:=(j k f).1;⟨u,i.mono d⟩,(j k f).2⟩⟩;refine(h3.of_eq (hb rfl b 0 h1)).congr fun y u=>?_;constructor
  .rintro⟨k,f,rfl,i⟩;obtain⟨⟨p,g⟩,hf⟩:=j k f;exact⟨k,f,rfl,by rw[VR.func hf i (g.mono d)];exact g⟩
  .rintro⟨k,f,rfl,i⟩;exact⟨k,f,rfl,i.mono d⟩
 |dia t=>obtain⟨a,b,h1,h2⟩:=h;exact⟨a,b,d _ _ h1,h2⟩
 |dead=>trivial
def cD.write{X:bQ}{e:aH}{M:LM}{I H:PH}(h:cD X e M I H){b x:Nat}{o oi:LO}{ob:Obj}(m:e id=some (.blk b x))(C:I b=none)(B:M id=some oi)(A:mq oi=true)
  (w:m0 X e I (H.put b ob) id o):cD X e (M.up id o) I (H.put b ob):=by
 have l:∀j oj y,j≠id->M j=some oj->mq oj=true->∀b',e j=some (.blk b' y)->b'≠b:=by intro j oj y d u a b' n v;subst v;exact d (h.inj j id oj oi b' y x u B a A n m)
 refine⟨fun c o' t=>?_,fun i j q p b' y z hi d r a k g=>?_,fun j o' d=>?_⟩
 .have:c≠b:=fun v=>by subst v;rw[C]at t;cases t
  simp only[PH.put,ad this];exact h.le _ _ t
 .by_cases s:i=id
  .by_cases f:j=id
   .rw[s,f]
   .exfalso;rw[s,m]at k;cases k;rw[LM.up_other f]at d;exact l j p z f d a _ g rfl
  .rw[LM.up_other s]at hi;by_cases f:j=id
   .exfalso;rw[f,m]at g;cases g;exact l i q y s hi r _ k rfl
   .rw[LM.up_other f]at d;exact h.inj i j q p b' y z hi d r a k g
 .by_cases f:j=id
  .subst f;rw[LM.up_self]at d;cases d;exact w
  .rw[LM.up_other f]at d;refine(h.ob j o' d).keep (aH.le_refl e) fun a b' y n=>?_;have:=l j o' y f d a b' n;simp[PH.put,this]
def cD.fresh{X:bQ}{e:aH}{M:LM}{I H:PH}(h:cD X e M I H){b x:Nat}{o:LO}{ob:Obj}(t:e id=none)(w:M id=none)(hb:H b=none)
  (s:m0 X (e.up id (.blk b x)) I (H.put b ob) id o):cD X (e.up id (.blk b x)) (M.up id o) I (H.put b ob):=by
 have k:∀j oj y,M j=some oj->mq oj=true->∀b',e j=some (.blk b' y)->b'≠b:=by intro j oj y r a b' l u;subst u;obtain⟨b2,v,h1,h2⟩:=(h.ob j oj r).blk a h.le;rw[l]at h1;cases h1;exact h2 hb
 refine⟨Y h.le (PH.le_put hb),fun i j n m b' y z hi f p a d c=>?_,fun j o' f=>?_⟩
 .by_cases q:i=id
  .by_cases g:j=id
   .rw[q,g]
   .exfalso;rw[q,aH.up_self]at d;cases d;rw[LM.up_other g]at f;rw[aH.up_other g]at c;exact k j m z f a _ c rfl
  .rw[LM.up_other q]at hi;rw[aH.up_other q]at d;by_cases g:j=id
   .exfalso;rw[g,aH.up_self]at c;cases c;exact k i n y hi p _ d rfl
   .rw[LM.up_other g]at f;rw[aH.up_other g]at c;exact h.inj i j n m b' y z hi f p a d c
 .by_cases g:j=id
  .subst g;rw[LM.up_self]at f;cases f;exact s
  .rw[LM.up_other g]at f;refine(h.ob j o' f).keep (aH.le_up t) fun a b' y l=>?_;have:=k j o' y f a b' l;simp[PH.put,this]
def cD.kill{X:bQ}{e:aH}{M:LM}{I H:PH}(h:cD X e M I H)(id:Nat):cD X e (M.up id .dead) I H:=by
 refine⟨h.le,fun i j c b b' y z hi a g d n m=>?_,fun j o' a=>?_⟩
 .have f:∀k ok,(M.up id .dead) k=some ok->mq ok=true->M k=some ok:=by
   intro k ok l q;by_cases o:k=id
   .subst o;rw[LM.up_self]at l;cases l;cases q
   .rwa [LM.up_other o]at l
  exact h.inj i j c b b' y z (f i c hi g) (f j b a d) g d n m
 .by_cases p:j=id
  .subst p;rw[LM.up_self]at a;cases a;trivial
  .rw[LM.up_other p]at a;exact h.ob j o' a
structure KS where
 L:Tr LO
 c:Nat
structure HR where
 res:LV
 s:KS
 fp:List Nat
 ws:List Nat
 noncomputable def cJ(M:LM)(ws:List Nat)(lo hi:Nat)(L:Tr LO):LM:=fun id=>if id∈ws\/(lo<=id/\id<hi)then L.get id else M id
 noncomputable def nL(s:KS)(o:LO)(v:Nat->LV):Option HR:=match s.L.put s.c o with|some L=>some ⟨v s.c,⟨L,s.c+1⟩,[],[]⟩|none=>none
 noncomputable def nZ(s:KS)(id:Nat)(o:LO):Option HR:=match s.L.put id o with|some L=>some ⟨.v undef,⟨L,s.c⟩,[id],[id]⟩|none=>none
 noncomputable def vA(P:Program)(T:TypeId)(x:Option LV)(s:KS):Option HR:=
 match x with
 |some (.p id off)=>match s.L.get id with
  |some (.cells c _ _)=>match nT P T c off with|some v=>some ⟨v,s,[id],[]⟩|none=>none
  |some (.ro c)=>match nT P T c off with|some v=>some ⟨v,s,[id],[]⟩|none=>none
  |_=>none
 |_=>none
 noncomputable def vL:LV->Bool | .ag _=>false | .tu _=>false | .v (.agg _)=>false | .v (.tuple _)=>false|_=>true
 noncomputable def wA(P:Program)(T:TypeId)(x y:Option LV)(s:KS):Option HR:=
 match x,y with
 |some (.p id off),some v=>match s.L.get id with
  |some (.cells c ty gr)=>if bk P T=some (ke v).length/\off+(ke v).length<=c.length/\(ke v).all vL=true then nZ s id (.cells (setL c off (ke v)) ty gr)else none
  |_=>none
 |_,_=>none
 noncomputable def zw(size:Nat):Nat->List (Nat×LV)->Bool
 |_,[]=>true
 |j,(i,v)::r=>i == j && (ke v).length == size && zw size (j+1) r
 noncomputable def uT:List (Nat×LV)->List LV
 | []=>[]
 |(_,v)::r=>ke v++uT r
 noncomputable def ww(P:Program)(t:TypeId):Option (TypeId×Nat×Nat):=
 match P.underlying t with
 |some (.slice e)=>match P.info? e with
  |some i=>match i.zero with
   |some z=>if z.cells.size=i.size/\0<i.size then some (e,i.size,i.bytes)else none
   |none=>none
  |none=>none
 |_=>none
def zQ{t e:TypeId}{size bytes:Nat}(h:ww P t=some (e,size,bytes)):ch P t e size bytes:=by
 unfold ww at h;split at h
 .rename_i e' c;split at h
  .rename_i i hi;split at h
   .rename_i z b;split at h
    .rename_i a;cases h
     exact⟨i,z,c,hi,b,rfl,rfl,a.1,a.2⟩
    .cases h
   .cases h
  .cases h
 .cases h
 noncomputable def sj(P:Program)(t:TypeId)(len:Nat)(ps:Option (List (Nat×LV)))(s:KS):Option HR:=
 match ww P t,ps with
 |some (e,size,_),some ps=>if zw size 0 ps=true/\ps.length=len/\len*size<=16777216 then nL s (.cells (uT ps) e false) (fun c=>.sl c 0 len len true)else none
 |_,_=>none
 noncomputable def ft(X:bQ)(ol:List Oper)(o:Oper)(σ:St)(e:aH)(I H:PH)(res:LV)(a:LM)(lo hi:Nat):Prop:=
 ∀K:St->PH->Prop,(∀e2 y I2 H2,e.le e2->(∀id,¬(lo<=id/\id<hi)->e2 id=e id)->VR e2 res y->cD X e2 a I2 H2->I.le I2->K (σ.put o.dst (.v y)) H2)->np X.P ol o K σ H
def Dt(M:LM)(lo:Nat)(L:Tr LO):cJ M [] lo lo L=M:=by funext id;unfold cJ;rw[ad (by simp<;>omega)]
variable{L:Tr LO}
def Tt{M:LM}{lo:Nat}{o:LO}(h:L.get id=some o):cJ M [id] lo lo L=M.up id o:=by
 funext j;unfold cJ LM.up;by_cases e:j=id
 .subst e;simp[h]
 .rw[ad e,ad (by simp[e]<;>omega)]
def IB{M:LM}{lo:Nat}{o:LO}(h:L.get lo=some o):cJ M [] lo (lo+1) L=M.up lo o:=by
 funext j;unfold cJ LM.up;by_cases e:j=lo
 .subst e;simp[h]
 .rw[ad e,ad (by simp<;>omega)]
def Tv{M:LM}{lo:Nat}{o o':LO}(b:id≠lo)(h:L.get lo=some o)(a:L.get id=some o'):cJ M [id] lo (lo+1) L=(M.up id o').up lo o:=by
 funext j;unfold cJ LM.up;by_cases e:j=lo
 .subst e;simp[h]
 .rw[ad e];by_cases e':j=id
  .subst e';simp[a]
  .rw[ad e',ad (by simp[e']<;>omega)]
section
variable {X:bQ} {ol:List Oper} {o:Oper} {σ:St} {e:aH} {M:LM} {I H:PH} {ρ:dY}
def ft.pure{v:LV}(hw:be ol σ o=some true)(a:cD X e M I H)(h:∃y,VR e v y/\ql X.P σ H o (.v y))(lo:Nat):ft X ol o σ e I H v M lo lo:=by intro K b;obtain⟨y,h1,h2⟩:=h;exact .inr ⟨hw,.inl ⟨.v y,h2,b e y I H (aH.le_refl e) (fun _ _=>rfl) h1 a (ax I)⟩⟩
def ft.spec{v:LV}{M2:LM}{lo hi:Nat}(hw:be ol σ o=some true)(a:bt σ o.op=true)
  (h:dg X.P (execOp (aQ σ) o) H fun sv H2=>∃e2 y,(sv=.v y\/(sv=.u/\o.dst=none))/\e.le e2/\(∀id,¬(lo<=id/\id<hi)->e2 id=e id)/\VR e2 v y/\cD X e2 M2 I H2):ft X ol o σ e I H v M2 lo hi:=by
 intro K b;refine .inr ⟨hw,.inr (.inr (.inr ⟨a,h.mono fun sv H2 ⟨e2,y,h1,h2,h3,d,c⟩=>?_⟩))⟩;have:=b e2 y I H2 h2 h3 d c (ax I);rcases h1 with rfl|⟨rfl,hd⟩
 .exact this
 .rw[hd]at this |-;exact this
variable{x:Operand}
def BC{y:Value}(h:ev σ x=.v y):aQ σ x=y:=by unfold aQ;rw[h]
def Sq{T:TypeId}(aa:o.op=.load T x)(hw:be ol σ o=some true)(u:OR e ρ σ){s:KS}{r:HR}(h:vA X.P T (ρ x) s=some r)(l:cD X e M I H)
  (g:∀id∈r.fp,∀ob,s.L.get id=some ob->M id=some ob):r.s=s/\r.ws=[]/\∀lo,ft X ol o σ e I H r.res M lo lo:=by
 unfold vA at h;have f:∀{id off:Nat} {c:List LV} {v:LV} {b x':Nat} {cs post:List Value} {ty:TypeId} {m:Nat×Nat},ρ x=some (.p id off)->nT X.P T c off=some v->e id=some (.blk b x')->H b=some (.cells (cs++post).toArray ty m)->aK e c cs->∀lo,ft X ol o σ e I H v M lo lo:=by
  intro id off c v b x' cs post ty m i hr hb A t lo;obtain⟨z,h1,h2⟩:=u _ _ i;simp only[VR]at h2;obtain⟨b2,C,h3,rfl⟩:=h2;rw[hb]at h3;cases h3;obtain⟨y,d,B⟩:=vZ t hr;refine ft.pure hw l ⟨y,B,.inr ⟨y,rfl,?_,?_⟩⟩ lo
  .exact px (by rw[aa];rfl) (by rw[aa];simp[Op.operands,h1])
  .have a:gp X.P T (cs++post) off=some y:=by
    unfold gp at d |-;split at d
    .split at d
     .rename_i n ha q;cases d
      rw[ak (by simp;omega),List.drop_append_of_le_length O,n9 (by simp;omega)]
     .cases d
    .rename_i ha;have:off<cs.length:=by
      rcases aB off cs.length with h|h
      .exact h
      .rw[fW h]at d;cases d
     rw[mU this];exact d
    .cases d
   intro w j;have:=wl (P:=X.P) (w:=w) (off:=off) (b:=b) (cs:=cs++post) (j _ _ A) a;simp[execOp,aa,BC h1,Instr.loadAt,Instr.sureAddr,this,Result.andThen]
 split at h
 .rename_i id off i;split at h
  .rename_i c ty gr k;split at h
   .rename_i v hv;cases h
    refine⟨rfl,rfl,?_⟩;obtain⟨b,x',cs,post,h1,_,h2,h3,_⟩:=l.ob id _ (g id (.head _) _ k);exact f i hv h1 h2 h3
   .cases h
  .rename_i c k;split at h
   .rename_i v hv;cases h
    refine⟨rfl,rfl,?_⟩;obtain⟨b,x',cs,post,ty,m,h1,h2,h3⟩:=l.ob id _ (g id (.head _) _ k);exact f i hv h1 h2 h3
   .cases h
  .cases h
 .cases h
end
end Go.Ke
