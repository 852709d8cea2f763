import Derived.Test.YtfaclfkpnmcmlaaGreatDoorJ00
import Derived.Test.YtfaclfkpnmcmlaaGreatDoorJ19
import Derived.Sort.AssemblyPlain
set_option maxHeartbeats 8000000
set_option linter.all false
open Go.Proofs.Tryz
namespace Go.Proofs.YtfaclfkpnmcmlaaGreatDoor
open Go Go.Sx Dg Syn
instance:Inhabited M:=⟨⟨0,[],0,0,[],ff⟩⟩
instance:Inhabited aG:=⟨⟨0,0,ff⟩⟩
def Ww{α:Type}[Inhabited α](d:Array α)(i j:Nat):(Sort.swp d i j).toList=(d.toList.set i d[j]!).set j d[i]!:=by simp[Sort.swp]
def iP{α:Type}[Inhabited α](d:Array α)(i j:Nat):(Sort.swp d i j).size=d.size:=by simp[Sort.swp]
def Hz{α:Type}[Inhabited α](d:Array α){i:Nat}(h:i<d.size):d.toList[i]?=some d[i]!:=by simp[h]
def Kq(c cs:List Value)(h:c.length=cs.length):bL c 0 cs=cs:=by rw[nQ _ _ _ O];simp[h]
variable{v:Value}{I A:PH}{size:Nat}{e:TypeId}
def Ow.two{α:Type}[Inhabited α]{R:PH->List Value->α->Prop}{d:Array α}(h:Ow R e size I A v d.toList)(l:∀{I} c a,R I c a->c.length=size)(o:∀{I J c a},R I c a->I.le J->R J c a){i j:Nat}(hi:i<d.size)(p:j<d.size):
  ∃g cap cur r q,v=.slice (some ⟨g,0,none⟩) d.size cap/\A=sg g (.cells cur e (0,0))/\d.size*size<=cur.size/\R I r d[i]!/\R I q d[j]!/\r.length=size/\q.length=size/\aX A g (i*size) r/\aX A g (j*size) q/\
   ∀J,I.le J->Ow R e size J (sg g (.cells (bL (bL cur.toList (i*size) q) (j*size) r).toArray e (0,0))) v (Sort.swp d i j).toList:=by
 obtain⟨g,cap,cur,xs,ev,rfl,c1,c2,c3,c4,c5,b⟩:=h.open' (by simp;omega) fun c a k=>l c a k;have n:d.toList.length=d.size:=by simp
 rw[n]at ev c1 c4 c5;have K:d.size*size<=cap*size:=ch _ c1;have w:=b.get (fun c a k=>l c a k) (Hz d hi);have u:=b.get (fun c a k=>l c a k) (Hz d p);have z:=l _ _ w;have H:=l _ _ u;have C:=pH (k:=0) (m:=size) (e:=e) (g:=g) (cur:=cur) (fun c a k=>l c a k) b (i:=i) (by rw[n];exact hi) (by rw[n];omega) (by rw[n];exact c4) rfl O;have B:=pH (k:=0) (m:=size) (e:=e) (g:=g) (cur:=cur) (fun c a k=>l c a k) b (i:=j) (by rw[n];exact p) (by rw[n];omega) (by rw[n];exact c4) rfl O;rw[gV,n9,Nat.min_self,sw]at C B;refine⟨g,cap,cur,_,_,ev,rfl,O,w,u,z,H,C,B,fun J t=>?_⟩;have G:(i+1)*size<=d.size*size:=ch _ hi;have F:(j+1)*size<=d.size*size:=ch _ p;rw[ig,qJ]at G F;have y:=qd (fun c a k=>l c a k) (b.mono fun _ _ k=>o k t) (i:=i) (by rw[n];exact hi) rfl (k:=0) (cs:=(xs.drop (j*size)).take size) (a:=d[j]!) O (by rw[Kq _ _ O];exact o u t);rw[sw]at y;have f:(bL xs (i*size) ((xs.drop (j*size)).take size)).length=d.size*size:=by rw[eC];exact c5
 have x:=qd (fun c a k=>l c a k) y (i:=j) (by simp;exact p) rfl (k:=0) (cs:=(xs.drop (i*size)).take size) (a:=d[i]!) O (by rw[Kq _ _ (by rw[z];simp[f];omega)];exact o w t)
 rw[sw]at x;rw[Ww];refine⟨_,?_,x⟩;rw[ev];have s:((d.toList.set i d[j]!).set j d[i]!).length=d.size:=by simp
 rw[s];refine dE.of_sg (by rw[eC];exact f) c1 c2 (by simp[eC];exact c3) ?_;show (bL (bL cur.toList (i*size) _) (j*size) _).take (d.size*size)=_;rw[Br _ _ _ _ O,Br _ _ _ _ O,c4]
def Ow.one'{α:Type}[Inhabited α]{R:PH->List Value->α->Prop}{d:Array α}(h:Ow R e size I A v d.toList):∃a c,v=.slice a d.size c:=by obtain⟨a,c,rfl⟩:=h.shape;exact⟨a,c,by simp⟩
def dF{cs:List Value}(h:cs.all Sx.one=true):mB (.agg cs.toArray)=some cs:=by simp only[mB,h,reduceIte]
def bi.ones{c:List Value}{n:aG}(h:bi I c n):c.all Sx.one=true:=by obtain⟨a,k,e,_⟩:=h;rw[e];rfl
def Ow.addr{α:Type}[Inhabited α]{R:PH->List Value->α->Prop}{d:Array α}(h:Ow R e size I A v d.toList)(a:0<d.size):∃g c,v=.slice (some ⟨g,0,none⟩) d.size c:=by obtain⟨xs,h1,_⟩:=h;obtain⟨g,cap,cur,e1,_⟩:=h1.sg (by simpa using a);exact⟨g,cap,by simpa using e1⟩
def Ku{g:Nat}{cur cur':Array Value}(h:sg g (.cells cur e (0,0))=sg g (.cells cur' e (0,0))):cur=cur':=by have:=congrFun h g;simp only[sg,reduceIte,a8,Obj.cells.injEq,dV]at this;exact this
def pd{j:Nat}(h:j+1<2^62):IntKind.i64.wrap (((j+1:Nat):Int)-1)=(j:Int):=by have:=fu (a:=j+1) (b:=1) O O;rw[show ((1:Nat):Int)=1 from rfl]at this;rw[this];omega
def P5:ax prog 271:=⟨_,func271,rfl,rfl⟩
def xu(v a vb vc:Value)(i:Nat):St:=⟨dn 53 [(0,.v v),(1,.v a),(2,.v vb),(3,.v vc),(8,.v (E i))],[]⟩
def Ai(v a vb vc:Value)(i:Nat)(j:Nat):St:=⟨dn 53 [(0,.v v),(1,.v a),(2,.v vb),(3,.v vc),(8,.v (E i)),(9,.v (E j))],[]⟩
theorem Rn{vc:Value}{d:Array M}{a b:Nat}(hA:ar I A v d.toList)(hc:ik ae aQ vc)(hb:b<=d.size)(hn:d.size<=ao)(ha:a<=d.size):
  aT prog 271 #[v,E a,E b,vc] I [A] fun _ B qs=>∃C,qs=[C]/\ar B C v (Sort.insertionSort aQ d a b).toList:=by
 intro hd;unfold ao at hn;obtain⟨f,first,cap,rfl,gf,cf⟩:=id hc;obtain⟨va,Z,rfl⟩:=Ow.one' hA;have w1:=wrap64 (n:=a+1) O;have w1':IntKind.i64.wrap ((a:Int)+1)=((a+1:Nat):Int):=by rw[<-w1];congr 1
 refine aP 53 func271 fun w0=>?_
 try simp only[E]
 refine dq w1' ?_;refine bY (fun i=>b-i) (xu (.slice va d.size Z) (E a) (E b) (.func (.func f) first cap)) (fun i H=>∃B C L,H=U [B,C]/\Dj [B,C]/\I.le B/\a+1<=i/\L.size=d.size/\ar B C (.slice va d.size Z) L.toList/\Sort.insOuter aQ a b i L=Sort.insertionSort aQ d a b) (a+1) ak (by simp only[go_sem,Y,xu]) ?_ ?_
 .exact⟨I,A,d,rfl,hd,aC _,aR _,rfl,hA,rfl⟩
 rintro i H ⟨B,C,L,rfl,ac,K,a6,aq,an,x⟩ p;simp only[xu];rcases aI i b with aS|a5
 .have R:decide ((i:Int)<(b:Int))=true:=by simp;omega
  have e1:=wrap64 (n:=i+1) O;have ap:IntKind.i64.wrap ((i:Int)+1)=((i+1:Nat):Int):=by rw[<-e1];congr 1
  rw[Sort.insOuter,ag aS]at x;refine be R ?_;refine bY (fun j=>j) (Ai (.slice va d.size Z) (E a) (E b) (.func (.func f) first cap) i) (fun j H=>∃W A3 T,H=U [W,A3]/\Dj [W,A3]/\B.le W/\j<=i/\T.size=d.size/\ar W A3 (.slice va d.size Z) T.toList/\Sort.insInner aQ a j T=Sort.insInner aQ a i L) i ak (by simp only[go_sem,Y,Ai]) ?_ ?_
  .exact⟨B,C,L,rfl,ac,aC _,aR _,aq,an,rfl⟩
  rintro j H ⟨W,A3,T,rfl,w,G,a4,t,P,e⟩ u;simp only[Ai];have fin:∀{V A4:PH} {d4:Array M},W.le V->ar V A4 (.slice va d.size Z) d4.toList->d4.size=d.size->d4=Sort.insInner aQ a i L->∃N X S,U [V,A4]=U [N,X]/\(Dj [V,A4]->Dj [N,X])/\I.le N/\a+1<=i+1/\S.size=d.size/\ar N X (.slice va d.size Z) S.toList/\Sort.insOuter aQ a b (i+1) S=Sort.insertionSort aQ d a b:=fun h1 h2 h3 h4=>⟨_,_,_,rfl,id,D K (D G h1),O,h3,h2,by rw[h4];exact x⟩;rcases aI a j with am|am
  .obtain⟨j,rfl⟩:∃j',j=j'+1:=⟨j-1,O⟩;have Q:decide (((j+1:Nat):Int)>(a:Int))=true:=bl O;have F:=pd (j:=j) O;obtain⟨g,cp,cur,y,cj,ev,rfl,a2,rj1,rj,s,lj,kj1,kj,aa⟩:=Ow.two P (fun{I} c a h=>ae.len c a h) (fun{I J c a} h k=>ae.le h k) (i:=j+1) (j:=j) O O;rw[t]at ev a2;cases ev
   refine bF ?_;refine bE [0,1,2,3,4,5,6,7,8,9,10,11,12,13,14,15,16] [8,13] [] ?_;refine kL Q F ?_;refine⟨O,?_⟩;refine X6 (l:=y) (v:=.agg y.toArray) rfl (cellsU w (.tail _ (.head _)) (by simpa using kj1)) (.inl ⟨by rw[s];exact b9,rfl⟩) ?_;refine bJ F ?_;refine⟨O,?_⟩;refine X6 (l:=cj) (v:=.agg cj.toArray) rfl (cellsU w (.tail _ (.head _)) (by simpa using kj)) (.inl ⟨by rw[lj];exact b9,rfl⟩) ?_;refine bJ F ?_;refine cE w [0] [] [_] rfl gf rfl (cf W _ _ _ _ rj1 rj) ?_;rintro v V qs q o⟨rfl,z,rfl,hz⟩;simp only[Z3]at q |-;refine bR ?_;apply aL;cases m:aQ T[j+1]! T[j]! with
   |true=>rw[m]at hz;rw[Sort.insInner,ag (by simp[am,m])]at e;refine be hz ?_;refine bE [0,1,2,3,4,5,6,7,8,9,10,11,12,13,14,15,16,17] [9,13] [] ?_;refine bJ F ?_;refine⟨O,?_⟩;refine X6 (l:=cj) (v:=.agg cj.toArray) rfl (cellsU q (.tail _ (.head _)) (by simpa using kj)) (.inl ⟨by rw[lj];exact b9,rfl⟩) ?_;refine bJ F ?_;refine⟨O,?_⟩;refine X6 (l:=y) (v:=.agg y.toArray) rfl (cellsU q (.tail _ (.head _)) (by simpa using kj1)) (.inl ⟨by rw[s];exact b9,rfl⟩) ?_;refine bJ F ?_;refine⟨O,?_⟩;have m1:(j+1+1)*7<=d.size*7:=ch _ O;refine cT q rfl rfl rfl rfl rfl (dF (ae.ones rj)) (by rw[lj];exact ep) (by rw[lj];omega) fun a1=>?_;refine bJ F ?_;refine⟨O,?_⟩;refine cT a1 rfl rfl rfl rfl rfl (dF (ae.ones rj1)) (by rw[s];exact ep) (by rw[s];simp[eC];omega) fun a0=>?_;apply aL;refine be F ?_;exact u j _ _ O ak (by simp only[go_sem,Y,Ai]) ⟨V,_,_,rfl,a0,D G o,O,by rw[iP];exact t,aa V o,e⟩
   |false=>rw[m]at hz;rw[Sort.insInner,ab (by simp[m])]at e;refine be hz ?_;obtain⟨N,X,S,e1,e2,e3⟩:=fin o (ar.le P o) t e;refine dq ap ?_;exact p (i+1) _ _ O ak (by simp only[go_sem,Y,xu]) ⟨N,X,S,e1,e2 q,e3⟩
  .have Q:decide ((j:Int)>(a:Int))=false:=cd O;have a3:T=Sort.insInner aQ a i L:=by
    cases j with
    |zero=>exact e
    |succ j=>rw[Sort.insInner,ab (by simp;omega)]at e;exact e
   refine bF ?_;refine bE [0,1,2,3,4,5,6,7,8,9,10,11,12,13,14,15,16] [8,13] [] ?_;refine bJ Q ?_;apply aL;refine be ap ?_;obtain⟨N,X,S,e1,e2,e3⟩:=fin (aC _) P t a3;exact p (i+1) _ _ O ak (by simp only[go_sem,Y,xu]) ⟨N,X,S,e1,e2 w,e3⟩
 .have R:decide ((i:Int)<(b:Int))=false:=by simp;omega
  rw[Sort.insOuter,ab O]at x;refine be R ?_;exact jM rfl ac (r:=[]) rfl K ⟨C,rfl,by rw[<-x];exact an⟩
def H5:ax prog 283:=⟨_,func283,rfl,rfl⟩
def xt(v a vb vc:Value)(i:Nat):St:=⟨dn 53 [(0,.v v),(1,.v a),(2,.v vb),(3,.v vc),(8,.v (E i))],[]⟩
def Ah(v a vb vc:Value)(i:Nat)(j:Nat):St:=⟨dn 53 [(0,.v v),(1,.v a),(2,.v vb),(3,.v vc),(8,.v (E i)),(9,.v (E j))],[]⟩
theorem Rm{vc:Value}{d:Array aG}{a b:Nat}(hA:bj I A v d.toList)(hc:ik bi cQ vc)(hb:b<=d.size)(hn:d.size<=ao)(ha:a<=d.size):
  aT prog 283 #[v,E a,E b,vc] I [A] fun _ B qs=>∃C,qs=[C]/\bj B C v (Sort.insertionSort cQ d a b).toList:=by
 intro hd;unfold ao at hn;obtain⟨f,first,cap,rfl,gf,cf⟩:=id hc;obtain⟨va,Z,rfl⟩:=Ow.one' hA;have w1:=wrap64 (n:=a+1) O;have w1':IntKind.i64.wrap ((a:Int)+1)=((a+1:Nat):Int):=by rw[<-w1];congr 1
 refine aP 53 func283 fun w0=>?_
 try simp only[E]
 refine dq w1' ?_;refine bY (fun i=>b-i) (xt (.slice va d.size Z) (E a) (E b) (.func (.func f) first cap)) (fun i H=>∃B C L,H=U [B,C]/\Dj [B,C]/\I.le B/\a+1<=i/\L.size=d.size/\bj B C (.slice va d.size Z) L.toList/\Sort.insOuter cQ a b i L=Sort.insertionSort cQ d a b) (a+1) ak (by simp only[go_sem,Y,xt]) ?_ ?_
 .exact⟨I,A,d,rfl,hd,aC _,aR _,rfl,hA,rfl⟩
 rintro i H ⟨B,C,L,rfl,ac,K,a6,aq,an,x⟩ p;simp only[xt];rcases aI i b with aS|a5
 .have R:decide ((i:Int)<(b:Int))=true:=by simp;omega
  have e1:=wrap64 (n:=i+1) O;have ap:IntKind.i64.wrap ((i:Int)+1)=((i+1:Nat):Int):=by rw[<-e1];congr 1
  rw[Sort.insOuter,ag aS]at x;refine be R ?_;refine bY (fun j=>j) (Ah (.slice va d.size Z) (E a) (E b) (.func (.func f) first cap) i) (fun j H=>∃W A3 T,H=U [W,A3]/\Dj [W,A3]/\B.le W/\j<=i/\T.size=d.size/\bj W A3 (.slice va d.size Z) T.toList/\Sort.insInner cQ a j T=Sort.insInner cQ a i L) i ak (by simp only[go_sem,Y,Ah]) ?_ ?_
  .exact⟨B,C,L,rfl,ac,aC _,aR _,aq,an,rfl⟩
  rintro j H ⟨W,A3,T,rfl,w,G,a4,t,P,e⟩ u;simp only[Ah];have fin:∀{V A4:PH} {d4:Array aG},W.le V->bj V A4 (.slice va d.size Z) d4.toList->d4.size=d.size->d4=Sort.insInner cQ a i L->∃N X S,U [V,A4]=U [N,X]/\(Dj [V,A4]->Dj [N,X])/\I.le N/\a+1<=i+1/\S.size=d.size/\bj N X (.slice va d.size Z) S.toList/\Sort.insOuter cQ a b (i+1) S=Sort.insertionSort cQ d a b:=fun h1 h2 h3 h4=>⟨_,_,_,rfl,id,D K (D G h1),O,h3,h2,by rw[h4];exact x⟩;rcases aI a j with am|am
  .obtain⟨j,rfl⟩:∃j',j=j'+1:=⟨j-1,O⟩;have Q:decide (((j+1:Nat):Int)>(a:Int))=true:=bl O;have F:=pd (j:=j) O;obtain⟨g,cp,cur,y,cj,ev,rfl,a2,rj1,rj,s,lj,kj1,kj,aa⟩:=Ow.two P (fun{I} c a h=>bi.len c a h) (fun{I J c a} h k=>bi.le h k) (i:=j+1) (j:=j) O O;rw[t]at ev a2;cases ev
   refine bF ?_;refine bE [0,1,2,3,4,5,6,7,8,9,10,11,12,13,14,15,16] [8,13] [] ?_;refine kL Q F ?_;refine⟨O,?_⟩;refine X6 (l:=y) (v:=.agg y.toArray) rfl (cellsU w (.tail _ (.head _)) (by simpa using kj1)) (.inl ⟨by rw[s];exact gA,rfl⟩) ?_;refine bJ F ?_;refine⟨O,?_⟩;refine X6 (l:=cj) (v:=.agg cj.toArray) rfl (cellsU w (.tail _ (.head _)) (by simpa using kj)) (.inl ⟨by rw[lj];exact gA,rfl⟩) ?_;refine bJ F ?_;refine cE w [0] [] [_] rfl gf rfl (cf W _ _ _ _ rj1 rj) ?_;rintro v V qs q o⟨rfl,z,rfl,hz⟩;simp only[Z3]at q |-;refine bR ?_;apply aL;cases m:cQ T[j+1]! T[j]! with
   |true=>rw[m]at hz;rw[Sort.insInner,ag (by simp[am,m])]at e;refine be hz ?_;refine bE [0,1,2,3,4,5,6,7,8,9,10,11,12,13,14,15,16,17] [9,13] [] ?_;refine bJ F ?_;refine⟨O,?_⟩;refine X6 (l:=cj) (v:=.agg cj.toArray) rfl (cellsU q (.tail _ (.head _)) (by simpa using kj)) (.inl ⟨by rw[lj];exact gA,rfl⟩) ?_;refine bJ F ?_;refine⟨O,?_⟩;refine X6 (l:=y) (v:=.agg y.toArray) rfl (cellsU q (.tail _ (.head _)) (by simpa using kj1)) (.inl ⟨by rw[s];exact gA,rfl⟩) ?_;refine bJ F ?_;refine⟨O,?_⟩;have m1:(j+1+1)*4<=d.size*4:=ch _ O;refine cT q rfl rfl rfl rfl rfl (dF (bi.ones rj)) (by rw[lj];exact o4) (by rw[lj];omega) fun a1=>?_;refine bJ F ?_;refine⟨O,?_⟩;refine cT a1 rfl rfl rfl rfl rfl (dF (bi.ones rj1)) (by rw[s];exact o4) (by rw[s];simp[eC];omega) fun a0=>?_;apply aL;refine be F ?_;exact u j _ _ O ak (by simp only[go_sem,Y,Ah]) ⟨V,_,_,rfl,a0,D G o,O,by rw[iP];exact t,aa V o,e⟩
   |false=>rw[m]at hz;rw[Sort.insInner,ab (by simp[m])]at e;refine be hz ?_;obtain⟨N,X,S,e1,e2,e3⟩:=fin o (bj.le P o) t e;refine dq ap ?_;exact p (i+1) _ _ O ak (by simp only[go_sem,Y,xt]) ⟨N,X,S,e1,e2 q,e3⟩
  .have Q:decide ((j:Int)>(a:Int))=false:=cd O;have a3:T=Sort.insInner cQ a i L:=by
    cases j with
    |zero=>exact e
    |succ j=>rw[Sort.insInner,ab (by simp;omega)]at e;exact e
   refine bF ?_;refine bE [0,1,2,3,4,5,6,7,8,9,10,11,12,13,14,15,16] [8,13] [] ?_;refine bJ Q ?_;apply aL;refine be ap ?_;obtain⟨N,X,S,e1,e2,e3⟩:=fin (aC _) P t a3;exact p (i+1) _ _ O ak (by simp only[go_sem,Y,xt]) ⟨N,X,S,e1,e2 w,e3⟩
 .have R:decide ((i:Int)<(b:Int))=false:=by simp;omega
  rw[Sort.insOuter,ab O]at x;refine be R ?_;exact jM rfl ac (r:=[]) rfl K ⟨C,rfl,by rw[<-x];exact an⟩
end Go.Proofs.YtfaclfkpnmcmlaaGreatDoor
namespace Syn
open Go Go.Sort
variable {α:Type} [Inhabited α] {lt:α->α->Bool}
variable{i:Nat}
theorem E1(d:Array α){j:Nat}(hi:i<d.size)(a:j<d.size)(k:Nat):(swp d i j)[k]! = if k=j then d[i]! else if k=i then d[j]! else d[k]!:=by
 by_cases h1:k=j
 .rw[ag h1,h1];exact swp_right d i j a
 .rw[ab h1];by_cases h2:k=i
  .rw[ag h2,h2];exact swp_left d i j hi (fun e=>h1 (h2.trans e))
  .rw[ab h2];exact swp_other d i j k h2 h1
def nn(a b i:Nat)(d e:Array α):Prop:=∀k,e[k]! = if a<=k/\k<a+i then d[k-a+b]! else if b<=k/\k<b+i then d[k-b+a]! else d[k]!
theorem nn.zero(a b:Nat)(d:Array α):nn a b 0 d d:=fun k=>by rw[ab O,ab O]
theorem nn.step{a b n:Nat}{d e:Array α}(h:nn a b i d e)(hs:e.size=d.size)(hi:i<n)(c:a+n<=b)(hb:b+n<=d.size):nn a b (i+1) d (swp e (a+i) (b+i)):=fun k=>by
 rw[E1 e O O k,h k,h (a+i),h (b+i)];clear h
 repeat' split
 all_goals first|rfl|(exfalso;omega)|(congr 1;omega)
def iX(m i j:Nat)(c t:Array α):Prop:=∀k,t[k]! = if m-i<=k/\k<m-i+j then c[k+i]! else if m-i+j<=k/\k<m+j then c[k-j]! else c[k]!
variable{m:Nat}
theorem iX.left{j:Nat}{c c' t:Array α}(h:iX m i j c t)(hs:nn (m-i) m j c c')(b:j<i)(a:i<=m):iX m (i-j) j c' t:=fun k=>by
 rw[h k,hs k,hs (k+(i-j)),hs (k-j)];clear h hs
 repeat' split
 all_goals first|rfl|(exfalso;omega)|(congr 1;omega)
theorem iX.right{j:Nat}{c c' t:Array α}(h:iX m i j c t)(hs:nn (m-i) (m+j-i) i c c')(b:i<j)(a:i<=m):iX m i (j-i) c' t:=fun k=>by
 rw[h k,hs k,hs (k+i),hs (k-(j-i))];clear h hs
 repeat' split
 all_goals first|rfl|(exfalso;omega)|(congr 1;omega)
theorem iX.last{c c' t:Array α}(h:iX m i i c t)(hs:nn (m-i) m i c c')(b:i<=m)(a:t.size=c'.size):t=c':=by
 have key:∀k,t[k]! = c'[k]!:=fun k=>by
  rw[h k,hs k];clear h hs
  repeat' split
  all_goals first|rfl|(exfalso;omega)|(congr 1;omega)
 refine Array.ext a fun k h1 h2=>?_;have:=key k
 rwa [getElem!_pos t k h1,getElem!_pos c' k h2]at this
theorem iX.ex(m i j:Nat)(c:Array α)(b:i<=m)(d:m+j<=c.size):∃t,t.size=c.size/\iX m i j c t:=by
 refine⟨Array.ofFn (n:=c.size) fun k=>if m-i<=k.1/\k.1<m-i+j then c[k.1+i]! else if m-i+j<=k.1/\k.1<m+j then c[k.1-j]! else c[k.1]!,by simp,fun k=>?_⟩;by_cases a:k<c.size
 .rw[getElem!_pos _ k (by simpa using a)];simp[a]
 .rw[getElem!_neg _ k (by simpa using a),ab O,ab O,getElem!_neg c k a]
def qT(a k:Nat)(d e:Array α):Prop:=∀x,e[x]! = if a<=x/\x<k then d[x+1]! else if x=k then d[a]! else d[x]!
theorem qT.zero(a:Nat)(d:Array α):qT a a d d:=fun x=>by
 rw[ab O];split
 .rename_i h;rw[h]
 .rfl
theorem qT.step{a k:Nat}{d e:Array α}(h:qT a k d e)(hs:e.size=d.size)(c:a<=k)(b:k+1<d.size):qT a (k+1) d (swp e k (k+1)):=fun x=>by
 rw[E1 e O O x,h x,h k,h (k+1)];clear h
 repeat' split
 all_goals first|rfl|(exfalso;omega)|(congr 1;omega)
def qS(m k:Nat)(d e:Array α):Prop:=∀x,e[x]! = if x=k then d[m]! else if k<x/\x<=m then d[x-1]! else d[x]!
theorem qS.zero(m:Nat)(d:Array α):qS m m d d:=fun x=>by
 split
 .rename_i h;rw[h]
 .rw[ab O]
theorem qS.step{k:Nat}{d e:Array α}(h:qS m (k+1) d e)(hs:e.size=d.size)(a:k+1<=m)(hm:m<d.size):qS m k d (swp e (k+1) k):=fun x=>by
 rw[E1 e O O x,h x,h (k+1),h k];clear h
 repeat' split
 all_goals first|rfl|(exfalso;omega)|(congr 1;omega)
section
variable (h:SWO lt)
include h
omit [Inhabited α] in
theorem BD{x y:α}(e:lt x y=true):lt y x=false:=by
 cases a:lt y x with
 |false=>rfl
 |true=>have:=h.trans _ _ _ e a;rw[h.irrefl]at this;cases this
theorem Rs{d e:Array α}{a m b i:Nat}(hm:m=a+1)(hs:SortedIn lt m b d)(j:m<=i)(p:i<=b)(o:i=m\/lt d[i-1]! d[a]! = true)(hr:i=b\/lt d[i]! d[a]! = false)(f:qT a (i-1) d e):SortedIn lt a b e:=by
 have lo:∀k,m<=k->k<i->lt d[k]! d[a]! = true:=fun k h1 h2=>by
  rcases o with c|c
  .omega
  .by_cases l:k=i-1
   .rw[l];exact c
   .cases q:lt d[k]! d[a]! with
    |true=>rfl
    |false=>have:=h.ntrans _ _ _ (hs k (i-1) h1 O O) q;rw[c]at this;cases this
 have hi:∀k,i<=k->k<b->lt d[k]! d[a]! = false:=fun k h1 h2=>by
  rcases hr with c|c
  .omega
  .by_cases l:k=i
   .rw[l];exact c
   .exact h.ntrans _ _ _ (hs i k j O h2) c
 intro x y r g n;rw[f x,f y];by_cases c1:a<=x/\x<i-1
 .rw[ag c1];by_cases c2:a<=y/\y<i-1
  .rw[ag c2];exact hs _ _ O O O
  .rw[ab c2];by_cases c3:y=i-1
   .rw[ag c3];exact BD h (lo _ O O)
   .rw[ab c3];exact hs _ _ O O O
 .rw[ab c1,ab (show ¬(a<=y/\y<i-1) by omega)];by_cases c3:x=i-1
  .rw[ag c3,ab O];exact hi y O n
  .rw[ab c3,ab O];exact hs _ _ O g n
theorem Ro{d e:Array α}{a m b i:Nat}(hb:b=m+1)(hs:SortedIn lt a m d)(n:a<=i)(p:i<=m)(o:i=a\/lt d[m]! d[i-1]! = false)(hr:i=m\/lt d[m]! d[i]! = true)(f:qS m i d e):SortedIn lt a b e:=by
 have lo:∀k,a<=k->k<i->lt d[m]! d[k]! = false:=fun k h1 h2=>by
  rcases o with c|c
  .omega
  .by_cases l:k=i-1
   .rw[l];exact c
   .exact h.ntrans _ _ _ c (hs k (i-1) h1 O O)
 have hi:∀k,i<=k->k<m->lt d[k]! d[m]! = false:=fun k h1 h2=>by
  rcases hr with c|c
  .omega
  .by_cases l:k=i
   .rw[l];exact BD h c
   .exact h.ntrans _ _ _ (hs i k n O h2) (BD h c)
 intro x y j g q;rw[f x,f y];by_cases c1:x=i
 .rw[ag c1,ab O,ag O];exact hi _ O O
 .rw[ab c1];by_cases c2:i<x/\x<=m
  .rw[ag c2,ab O,ag O];exact hs _ _ O O O
  .rw[ab c2];by_cases c3:y=i
   .rw[ag c3];exact lo x j O
   .rw[ab c3];by_cases c4:i<y/\y<=m
    .rw[ag c4];exact hs _ _ j O O
    .rw[ab c4];exact hs _ _ j g O
theorem WA{d e:Array α}{a m b s mid:Nat}(T:a<=m)(N:m<=b)(w:SortedIn lt a m d)(v:SortedIn lt m b d)(F:mid=(a+b) / 2)
  (L:a<=s) (K:s<=m) (J:s<=mid) (S:m<=mid+m-s) (R:mid+m-s<=b) (G:(m>mid->mid+m-s=b\/s=a\/lt d[mid+m-s]! d[s-1]! = false)/\(m<=mid->s=a\/lt d[mid+m-s]! d[s-1]! = false)) (hr:s=(if m>mid then mid else m)\/lt d[mid+m-s-1]! d[s]! = true)
  (A:iX m (m-s) (mid+m-s-m) d e) :
  SortedIn lt a s e/\SortedIn lt s mid e/\SortedIn lt mid (mid+m-s) e/\SortedIn lt (mid+m-s) b e/\∀i j,a<=i->i<mid->mid<=j->j<b->lt e[j]! e[i]! = false:=by
 have C:a<s->mid+m-s<b->lt d[mid+m-s]! d[s-1]! = false:=fun h1 h2=>by
  by_cases c:m>mid
  .rcases G.1 c with l|l|l
   .omega
   .omega
   .exact l
  .rcases G.2 O with l|l
   .omega
   .exact l
 have B:m<mid+m-s->s<m->lt d[s]! d[mid+m-s-1]! = false:=fun h1 h2=>by
  rcases hr with l|l
  .split at l<;>omega
  .exact BD h l
 have g:∀k,a<=k->k<b->(k<s/\e[k]! = d[k]!)\/(s<=k/\k<mid/\e[k]! = d[k+(m-s)]!)\/(mid<=k/\k<mid+m-s/\e[k]! = d[k-(mid-s)]!)\/(mid+m-s<=k/\e[k]! = d[k]!):=fun k h1 h2=>by
  have o:=A k;by_cases c1:k<s
  .rw[ab O,ab O]at o;exact .inl ⟨c1,o⟩
  .by_cases c2:k<mid
   .rw[ag O]at o;exact .inr (.inl ⟨O,c2,o⟩)
   .by_cases c3:k<mid+m-s
    .rw[ab O,ag O]at o;exact .inr (.inr (.inl ⟨O,c3,by rw[o];congr 1;omega⟩))
    .rw[ab O,ab O]at o;exact .inr (.inr (.inr ⟨O,o⟩))
 refine⟨fun x y t n z=>?_,fun x y t n z=>?_,fun x y t n z=>?_,fun x y t n z=>?_,fun i j p Q P u=>?_⟩
 .rcases g x t O with ⟨_,e1⟩|⟨_,_,e1⟩|⟨_,_,e1⟩|⟨_,e1⟩<;>rcases g y O O with ⟨_,e2⟩|⟨_,_,e2⟩|⟨_,_,e2⟩|⟨_,e2⟩<;>try omega
  rw[e1,e2];exact w _ _ t n O
 .rcases g x O O with ⟨_,e1⟩|⟨_,_,e1⟩|⟨_,_,e1⟩|⟨_,e1⟩<;>rcases g y O O with ⟨_,e2⟩|⟨_,_,e2⟩|⟨_,_,e2⟩|⟨_,e2⟩<;>try omega
  rw[e1,e2];exact v _ _ O O O
 .rcases g x O O with ⟨_,e1⟩|⟨_,_,e1⟩|⟨_,_,e1⟩|⟨_,e1⟩<;>rcases g y O O with ⟨_,e2⟩|⟨_,_,e2⟩|⟨_,_,e2⟩|⟨_,e2⟩<;>try omega
  rw[e1,e2];exact w _ _ O O O
 .rcases g x O O with ⟨_,e1⟩|⟨_,_,e1⟩|⟨_,_,e1⟩|⟨_,e1⟩<;>rcases g y O O with ⟨_,e2⟩|⟨_,_,e2⟩|⟨_,_,e2⟩|⟨_,e2⟩<;>try omega
  rw[e1,e2];exact v _ _ O O O
 ·
  have q:∀x y,m<=x->x<=y->y<b->lt d[y]! d[x]! = false:=fun x y h1 h2 h3=>by
   rcases Nat.lt_or_eq_of_le h2 with c|c
   .exact v x y h1 c h3
   .rw[c];exact h.irrefl _
  have r:∀x y,a<=x->x<=y->y<m->lt d[y]! d[x]! = false:=fun x y h1 h2 h3=>by
   rcases Nat.lt_or_eq_of_le h2 with c|c
   .exact w x y h1 c h3
   .rw[c];exact h.irrefl _
  rcases g i p O with ⟨I,e1⟩|⟨I,V,e1⟩|⟨_,_,e1⟩|⟨_,e1⟩<;>rcases g j O u with ⟨_,e2⟩|⟨_,_,e2⟩|⟨H,U,e2⟩|⟨H,e2⟩<;>try omega
  .rw[e1,e2];exact w _ _ p O O
  .rw[e1,e2];have f:=C O O;exact h.ntrans _ _ _ (q (mid+m-s) j O O u) (h.ntrans _ _ _ f (r i (s-1) p O O))
  .rw[e1,e2];have f:=B O O;exact h.ntrans _ _ _ (r s (j-(mid-s)) O O O) (h.ntrans _ _ _ f (q (i+(m-s)) (mid+m-s-1) O O O))
  .rw[e1,e2];exact v _ _ O O O
omit h in
theorem K1{d1 d2 d3:Array α}{a b mid:Nat}(f:a<=mid)(e:mid<=b)(hb:b<=d1.size)(n:∀i j,a<=i->i<mid->mid<=j->j<b->lt d1[j]! d1[i]! = false)
  (d:PermIn a mid d1 d2) (m:SortedIn lt a mid d2) (c:PermIn mid b d2 d3) (l:SortedIn lt mid b d3):PermIn a b d1 d3/\SortedIn lt a b d3:=by
 have z2:=d.1;refine⟨permIn_trans _ _ _ a b (permIn_mono _ _ a mid a b (aR _) e hb d) (permIn_mono _ _ mid b a b f (aR _) O c),?_⟩;have k:∀j,mid<=j->j<b->∀i,a<=i->i<mid->lt d1[j]! d2[i]! = false:=fun j h1 h2=>permIn_all d1 d2 a mid (fun x=>lt d1[j]! x=false) O d (fun i h3 h4=>n i j h3 h4 h1 h2);have g:∀i,a<=i->i<mid->∀j,mid<=j->j<b->lt d3[j]! d2[i]! = false:=fun i h1 h2=>permIn_all d2 d3 mid b (fun y=>lt y d2[i]! = false) O c (fun j h3 h4=>by rw[d.2.1 j (.inr h3)];exact k j h3 h4 i h1 h2);intro i j h1 h2 h3;by_cases c1:j<mid
 .rw[c.2.1 i (.inl O),c.2.1 j (.inl c1)];exact m i j h1 h2 c1
 .by_cases c2:mid<=i
  .exact l i j c2 h2 h3
  .rw[c.2.1 i (.inl O)];exact g i h1 O j O h3
end
theorem SortedIn.sub{d:Array α}{a b a' b':Nat}(h:SortedIn lt a b d)(h1:a<=a')(h2:b'<=b):SortedIn lt a' b' d:=fun i j x y z=>h i j O y O
def q9(lt:α->α->Bool)(s x n:Nat)(d:Array α):Prop:=∀i j,x<=i->i<j->j<n->i / s=j / s->lt d[j]! d[i]! = false
def gK(lt:α->α->Bool)(s x:Nat)(d:Array α):Prop:=∀i j,i<j->j<x->i / s=j / s->lt d[j]! d[i]! = false
variable{s q:Nat}
theorem Dk{i:Nat}(hs:0<s)(h1:s*q<=i)(h2:i<s*q+s):i / s=q:=by
 refine Nat.div_eq_of_lt_le ?_ ?_
 .rw[Nat.mul_comm];exact h1
 .rw[Nat.mul_comm,Nat.mul_add,Nat.mul_one];exact h2
theorem Vn{i:Nat}(hs:0<s)(h:i / s=q):s*q<=i/\i<s*q+s:=by subst h;have h1:=Nat.div_add_mod i s;have h2:=Nat.mod_lt i hs;omega
theorem gK.zero(s:Nat)(d:Array α):gK lt s 0 d:=fun i j _ h=>by omega
theorem gK.step{x:Nat}{d e:Array α}(hs:0<s)(h:gK lt s (s*q) d)(g:x<=s*q+s)(hp:PermIn (s*q) x d e)(b:SortedIn lt (s*q) x e):gK lt s x e:=fun i j a f hd=>by
 by_cases c:j<s*q
 .rw[hp.2.1 i (.inl O),hp.2.1 j (.inl c)];exact h i j a c hd
 .have e1:j / s=q:=Dk hs O O;have:=(Vn hs (hd.trans e1)).1;exact b i j this a f
variable{n:Nat}
theorem gK.all{d:Array α}(h:gK lt s n d)(c:n<=s):SortedIn lt 0 n d:=fun i j _ a b=>by refine h i j a b ?_;rw[Nat.div_eq_of_lt O,Nat.div_eq_of_lt O]
theorem gK.runs{d:Array α}(h:gK lt s n d):q9 lt s 0 n d:=fun i j _ a b hd=>h i j a b hd
theorem q9.at'{x:Nat}{d:Array α}(hs:0<s)(h:q9 lt s x n d)(b:x<=s*q){y:Nat}(a:y<=s*q+s)(c:y<=n):SortedIn lt (s*q) y d:=fun i j h1 h2 h3=>
 h i j O h2 O (by rw[Dk hs h1 O,Dk hs (show s*q<=j by omega) O])
theorem q9.keep{x y:Nat}{d e:Array α}(h:q9 lt s x n d)(b:x<=y)(a:∀k,y<=k->e[k]! = d[k]!):q9 lt s y n e:=fun i j h1 h2 h3 h4=>by rw[a i h1,a j O];exact h i j O h2 h3 h4
theorem gK.rest{d:Array α}(hs:0<s)(h:gK lt s (s*q) d)(h2:SortedIn lt (s*q) n d)(a:n<=s*q+s):gK lt s n d:=h.step hs a (permIn_refl _ _ _) h2
end Syn
namespace Go.Proofs.YtfaclfkpnmcmlaaGreatDoor
open Go Go.Sx Dg Syn
open Go.Sort (PermIn SortedIn SWO permIn_refl permIn_trans permIn_mono swp_permIn)
def KA{K α:Type}{lt:K->K->Bool}(so:SO lt)(f:α->K):SWO fun x y:α=>lt (f x) (f y) where
 irrefl:=fun x=>so.irr _
 trans:=fun x y z=>so.tr _ _ _
 ntrans:=fun x y z h1 h2=>by
  cases h:lt (f x) (f z)with
  |false=>rfl
  |true=>
   cases h3:lt (f y) (f x)with
   |true=>rw[so.tr _ _ _ h3 h]at h2;cases h2
   |false=>rw[so.tri _ _ h1 h3,h2]at h;cases h
def BE:SWO cQ:=KA jR aG.key
def yv:SWO aQ:=KA mH M.key
def DY:ax prog 310:=⟨_,func310,rfl,rfl⟩
def Qh:ax prog 301:=⟨_,func301,rfl,rfl⟩
def BC(v b vb a:Value)(i:Nat):St:=⟨dn 38 [(0,.v v),(1,.v b),(2,.v vb),(3,.v a),(10,.v (E i))],[]⟩
variable{a b:Nat}{v vc:Value}{I A:PH}
theorem Fc{d:Array aG}{n:Nat}(Q:bj I A v d.toList)(L:a+n<=b)(hb:b+n<=d.size)(hn:d.size<=ao):
  aT prog 310 #[v,E a,E b,E n,vc] I [A] fun _ I2 X=>∃o e,X=[o]/\bj I2 o v e.toList/\e.size=d.size/\nn a b n d e/\∀lo hi,lo<=a->b+n<=hi->hi<=d.size->PermIn lo hi d e:=by
 intro hd;unfold ao at hn;obtain⟨P,N,rfl⟩:=Ow.one' Q;refine aP 38 func310 fun w0=>?_
 try simp only[E]
 refine ai ?_;refine bY (fun k=>n-k) (BC (.slice P d.size N) (E a) (E b) (E n)) (fun k H=>∃o e,H=U [I,o]/\Dj [I,o]/\k<=n/\e.size=d.size/\bj I o (.slice P d.size N) e.toList/\nn a b k d e/\∀lo hi,lo<=a->b+n<=hi->hi<=d.size->PermIn lo hi d e) 0 ak (by simp only[go_sem,Y,BC]) ?_ ?_
 .exact⟨A,d,rfl,hd,aF _,rfl,Q,nn.zero _ _ _,fun lo hi _ _ _=>permIn_refl _ _ _⟩
 rintro k H ⟨o,e,rfl,m,hk,f,x,u,w⟩ p;simp only[BC];rcases aI k n with t|aa
 .have q:=Z5 k n;have z:IntKind.i64.wrap ((a:Int)+(k:Int))=((a+k:Nat):Int):=by
   have y:(a:Int)+(k:Int)=((a+k:Nat):Int):=by omega
   rw[y];exact wrap64 O
  have w2:IntKind.i64.wrap ((b:Int)+(k:Int))=((b+k:Nat):Int):=by
   have y:(b:Int)+(k:Int)=((b+k:Nat):Int):=by omega
   rw[y];exact wrap64 O
  have T:IntKind.i64.wrap ((k:Int)+1)=((k+1:Nat):Int):=by
   have y:(k:Int)+1=((k+1:Nat):Int):=by omega
   rw[y];exact wrap64 O
  refine be q ?_;obtain⟨g,cp,cur,S,R,ev,rfl,K,W,V,C,B,ki,Z,s⟩:=Ow.two x (fun{I} c a h=>bi.len c a h) (fun{I J c a} h k=>bi.le h k) (i:=a+k) (j:=b+k) O O;rw[f]at ev K;cases ev
  have mi:((a+k)+1)*4<=d.size*4:=ch _ O;have mj:((b+k)+1)*4<=d.size*4:=ch _ O;refine bE [0,1,2,3,4,5,6,7,8,9,10,11,12,13,14,15,16,17,18,19,20,21,22,23] [13,19] [] ?_;refine kL z w2 ?_;refine⟨O,?_⟩;refine X6 (l:=R) (v:=.agg R.toArray) rfl (cellsU m (.tail _ (.head _)) (by simpa using Z)) (.inl ⟨by rw[B];exact gA,rfl⟩) ?_;refine kL z w2 ?_;refine⟨O,?_⟩;refine X6 (l:=S) (v:=.agg S.toArray) rfl (cellsU m (.tail _ (.head _)) (by simpa using ki)) (.inl ⟨by rw[C];exact gA,rfl⟩) ?_;refine kL z w2 ?_;refine⟨O,?_⟩;refine cT m rfl rfl rfl rfl rfl (dF (bi.ones V)) (by rw[B];exact o4) (by rw[B];omega) fun F=>?_;refine kL z w2 ?_;refine⟨O,?_⟩;refine cT F rfl rfl rfl rfl rfl (dF (bi.ones W)) (by rw[C];exact o4) (by rw[C];simp[eC];omega) fun G=>?_;apply aL;refine be T ?_;exact p (k+1) _ _ O ak (by simp only[go_sem,Y,BC]) ⟨_,_,rfl,G,t,by rw[iP];exact f,s I (aC _),u.step f t L hb,fun lo hi h1 h2 h3=>permIn_trans _ _ _ lo hi (w lo hi h1 h2 h3) (swp_permIn _ lo hi _ _ O O O O O)⟩
 .have q:decide ((k:Int)<(n:Int))=false:=cd O;have:k=n:=by omega
  subst this;refine be q ?_;exact jM rfl m (r:=[]) rfl (aC _) ⟨o,e,rfl,x,f,u,w⟩
def x6(v a vc:Value)(x:Nat×Nat):St:=⟨dn 58 [(0,.v v),(2,.v a),(4,.v vc),(10,.v (E x.1)),(11,.v (E x.2))],[]⟩
theorem Vf{d:Array aG}{m:Nat}(hA:bj I A v d.toList)(an:a<m)(am:m<b)(hb:b<=d.size)(hn:d.size<=ao):
  aT prog 301 #[v,E a,E m,E b,vc] I [A] fun _ C P=>∃s e,P=[s]/\bj C s v e.toList/\PermIn a b d e/\iX m (m-a) (b-m) d e:=by
 intro hd;have V:=hn;unfold ao at V;obtain⟨va,vk,rfl⟩:=Ow.one' hA;obtain⟨t,ac,G⟩:=iX.ex m (m-a) (b-m) d O O;refine aP 58 func301 fun w0=>?_
 try simp only[E]
 have w1:IntKind.i64.wrap ((m:Int)-(a:Int))=((m-a:Nat):Int):=by rw[fu O O];omega
 have w2:IntKind.i64.wrap ((b:Int)-(m:Int))=((b-m:Nat):Int):=by rw[fu O O];omega
 refine lI w1 w2 ?_;refine bY (fun x=>x.1+x.2) (x6 (.slice va d.size vk) (E m) vc) (fun x H=>∃C s c,H=U [C,s]/\Dj [C,s]/\I.le C/\bj C s (.slice va d.size vk) c.toList/\PermIn a b d c/\0<x.1/\0<x.2/\x.1<=m-a/\x.2<=b-m/\iX m x.1 x.2 c t) (m-a,b-m) ak (by simp only[go_sem,Y,x6]) ?_ ?_
 .exact⟨I,A,d,rfl,hd,aC _,hA,permIn_refl _ _ _,by simp only;omega,by simp only;omega,aR _,aR _,G⟩
 rintro⟨i,j⟩ H ⟨C,s,c,rfl,y,k,z,w,L,K,hi,hj,u⟩ h;simp only at L K hi hj u;simp only[x6];have aa:=w.1;have S:IntKind.i64.wrap ((m:Int)-(i:Int))=((m-i:Nat):Int):=by rw[fu O O];omega
 have w4:IntKind.i64.wrap ((m:Int)+(j:Int))=((m+j:Nat):Int):=by
  have e0:(m:Int)+(j:Int)=((m+j:Nat):Int):=by omega
  rw[e0];exact wrap64 O
 rcases sx i j with W|Z|X
 .have q:((i:Int) != (j:Int))=true:=by rw[bne_iff_ne];omega
  have B:decide ((i:Int)>(j:Int))=false:=cd O;have w5:IntKind.i64.wrap (((m+j:Nat):Int)-(i:Int))=((m+j-i:Nat):Int):=by rw[fu O O];omega
  have R:IntKind.i64.wrap ((j:Int)-(i:Int))=((j-i:Nat):Int):=by rw[fu O O];omega
  apply RG;simp only[go_sem,E,q,B,S,w4,w5];refine au y [0] [s] [] rfl DY rfl (Fc (a:=m-i) (b:=m+j-i) (n:=i) z O O O) ?_;rintro v Q P g f⟨N,e,rfl,p,F,l,o⟩;simp only[Z3]at g |-;refine be R ?_;exact h (i,j-i) _ _ bh ak (by simp only[go_sem,Y,x6]) ⟨Q,N,e,rfl,g,D k f,p,permIn_trans _ _ _ a b w (o a b O O O),L,by simp only;omega,hi,by simp only;omega,u.right l W O⟩
 .subst Z;have q:((i:Int) != (i:Int))=false:=by simp
  refine dW q S ?_;refine au y [0] [s] [] rfl DY rfl (Fc (a:=m-i) (b:=m) (n:=i) z O O O) ?_;rintro v Q P g f⟨N,e,rfl,p,F,l,o⟩;simp only[Z3]at g |-;refine bF ?_;have T:=u.last l O O;exact jM rfl g (r:=[]) rfl (D k f) ⟨N,e,rfl,p,permIn_trans _ _ _ a b w (o a b O O O),by rw[<-T];exact G⟩
 .have q:((i:Int) != (j:Int))=true:=by rw[bne_iff_ne];omega
  have B:decide ((i:Int)>(j:Int))=true:=bl O;have R:IntKind.i64.wrap ((i:Int)-(j:Int))=((i-j:Nat):Int):=by rw[fu O O];omega
  refine nm q B S ?_;refine au y [0] [s] [] rfl DY rfl (Fc (a:=m-i) (b:=m) (n:=j) z O O O) ?_;rintro v Q P g f⟨N,e,rfl,p,F,l,o⟩;simp only[Z3]at g |-;refine be R ?_;exact h (i-j,j) _ _ bh ak (by simp only[go_sem,Y,x6]) ⟨Q,N,e,rfl,g,D k f,p,permIn_trans _ _ _ a b w (o a b O O O),by simp only;omega,K,by simp only;omega,hj,u.left l X O⟩
def H7:ax prog 296:=⟨_,func296,rfl,rfl⟩
def P6:ax prog 272:=⟨_,func272,rfl,rfl⟩
def vE(v a vf vc:Value)(r:Nat):St:=⟨dn 82 [(0,.v v),(2,.v a),(3,.v vf),(4,.v vc),(10,.v (E r))],[]⟩
variable{d:Array M}
theorem Kv{lo hi first:Nat}(hA:ar I A v d.toList)(hc:ik ae aQ vc)(hb:first+hi<=d.size)(hn:d.size<=ao)(an:lo<=d.size):
  aT prog 296 #[v,E lo,E hi,E first,vc] I [A] fun _ I2 qs=>∃A2,qs=[A2]/\ar I2 A2 v (Sort.siftDown aQ hi first lo d).toList/\(Sort.siftDown aQ hi first lo d).size=d.size:=by
 intro hd;unfold ao at hn;obtain⟨f,fst,cap,rfl,gf,cf⟩:=id hc;obtain⟨va,vk,rfl⟩:=Ow.one' hA;refine aP 82 func296 fun w0=>?_
 try simp only[E]
 refine ai ?_;refine bY (fun r=>hi-r) (vE (.slice va d.size vk) (E hi) (E first) (.func (.func f) fst cap)) (fun r H=>∃I2 A2 R,H=U [I2,A2]/\Dj [I2,A2]/\I.le I2/\r<=d.size/\R.size=d.size/\ar I2 A2 (.slice va d.size vk) R.toList/\Sort.siftDown aQ hi first r R=Sort.siftDown aQ hi first lo d) lo ak (by simp only[go_sem,Y,vE]) ?_ ?_
 .exact⟨I,A,d,rfl,hd,aC _,an,rfl,hA,rfl⟩
 rintro r H ⟨I2,A2,R,rfl,V,C,hr,y,P,b⟩ S;simp only[vE];have w1:IntKind.i64.wrap (2*(r:Int))=((2*r:Nat):Int):=by rw[<-wrap64 (n:=2*r) O];congr 1<;>omega
 have w2:IntKind.i64.wrap (((2*r:Nat):Int)+1)=((2*r+1:Nat):Int):=by rw[<-wrap64 (n:=2*r+1) O];congr 1<;>omega
 have w3:IntKind.i64.wrap (((2*r+1:Nat):Int)+1)=((2*r+2:Nat):Int):=by rw[<-wrap64 (n:=2*r+2) O];congr 1<;>omega
 rcases aI (2*r+1) hi with aS|ap
 .have ac:decide (((2*r+1:Nat):Int)>=(hi:Int))=false:=cd O;rw[Sort.siftDown,dif_neg O]at b;have x:IntKind.i64.wrap ((first:Int)+((2*r+1:Nat):Int))=((first+(2*r+1):Nat):Int):=by rw[<-wrap64 (n:=first+(2*r+1)) O];congr 1<;>omega
  have a2:IntKind.i64.wrap (((first+(2*r+1):Nat):Int)+1)=((first+(2*r+2):Nat):Int):=by rw[<-wrap64 (n:=first+(2*r+2)) O];congr 1<;>omega
  have a3:IntKind.i64.wrap ((first:Int)+(r:Int))=((first+r:Nat):Int):=by rw[<-wrap64 (n:=first+r) O];congr 1<;>omega
  have a4:IntKind.i64.wrap ((first:Int)+((2*r+2:Nat):Int))=((first+(2*r+2):Nat):Int):=by rw[<-wrap64 (n:=first+(2*r+2)) O];congr 1<;>omega
  refine nm w1 w2 ac ?_;rcases aI (2*r+2) hi with h2|h2
  .have Z:=Z5 (2*r+2) hi;obtain⟨g,cp,cur,ci,cj,ev,rfl,aq,ri,rj,li,lj,ki,kj,am⟩:=Ow.two P (fun{I} c a h=>ae.len c a h) (fun{I J c a} h k=>ae.le h k) (i:=first+(2*r+1)) (j:=first+(2*r+2)) O O;rw[y]at ev aq;cases ev
   refine bE [0,1,2,3,4,5,6,7,8,9,10,11,12,13,14,15,16,17,18,19,20,21] [11,18] [] ?_;refine fZ w3 Z x a2 ?_;refine⟨O,?_⟩;refine X6 (l:=ci) (v:=.agg ci.toArray) rfl (cellsU V (.tail _ (.head _)) (by simpa using ki)) (.inl ⟨by rw[li];exact b9,rfl⟩) ?_;refine fZ w3 Z x a2 ?_;refine⟨O,?_⟩;refine X6 (l:=cj) (v:=.agg cj.toArray) rfl (cellsU V (.tail _ (.head _)) (by simpa using kj)) (.inl ⟨by rw[lj];exact b9,rfl⟩) ?_;refine fZ w3 Z x a2 ?_;refine cE V [0] [] [_] rfl gf rfl (cf I2 _ _ _ _ ri rj) ?_;rintro v I3 qs T w⟨rfl,z,rfl,hz⟩;simp only[Z3]at T |-;refine bR ?_;apply aL;cases hl:aQ R[first+(2*r+1)]! R[first+(2*r+2)]! with
   |true=>
    rw[hl]at hz;have aa:aQ R[first+(2*r+1)]! R[first+(2*r+1)+1]! = true:=hl;rw[ag (by simp only[aa,qI,dA];omega)]at b;refine dW hz w3 ?_;obtain⟨gq,cpq,curq,u,t,Q,eAq,N,G,F,p,o,L,K,B⟩:=Ow.two (ar.le P w) (fun{I} c a h=>ae.len c a h) (fun{I J c a} h k=>ae.le h k) (i:=first+r) (j:=first+(2*r+2)) O O;rw[y]at Q N;cases Q
    obtain rfl:=Ku eAq;clear eAq;refine bE [0,1,2,3,4,5,6,7,8,9,10,11,12,13,14,15] [6,12] [] ?_;refine fZ x a2 a3 a4 ?_;refine⟨O,?_⟩;refine X6 (l:=u) (v:=.agg u.toArray) rfl (cellsU T (.tail _ (.head _)) (by simpa using L)) (.inl ⟨by rw[p];exact b9,rfl⟩) ?_;refine fZ x a2 a3 a4 ?_;refine⟨O,?_⟩;refine X6 (l:=t) (v:=.agg t.toArray) rfl (cellsU T (.tail _ (.head _)) (by simpa using K)) (.inl ⟨by rw[o];exact b9,rfl⟩) ?_;refine fZ x a2 a3 a4 ?_;refine cE T [0] [] [_] rfl gf rfl (cf I3 _ _ _ _ G F) ?_;rintro v I6 qs m e⟨rfl,z,rfl,q⟩;simp only[Z3]at m |-;refine bR ?_;apply aL;cases s:aQ R[first+r]! R[first+(2*r+2)]! with
    |false=>rw[s]at q;rw[ag (by simp[s])]at b;apply RG;simp only[go_sem,E,q,ds];exact az rfl m (r:=[]) rfl (D C (D w e)) ⟨_,rfl,by rw[<-b];exact ar.le P (D w e),by rw[<-b];exact y⟩
    |true=>rw[s]at q;rw[ab (by simp[s])]at b;rw[dif_pos h2]at b;apply RG;simp only[go_sem,E,q,cP];have mi:((first+r)+1)*7<=d.size*7:=ch _ O;have mj:((first+(2*r+2))+1)*7<=d.size*7:=ch _ O;refine bE [0,1,2,3,4,5,6,7,8,9,10,11,12,13,14,15,16,17,18,19,20,21,22,23] [13,19] [] ?_;refine fZ x a2 a3 a4 ?_;refine⟨O,?_⟩;refine X6 (l:=t) (v:=.agg t.toArray) rfl (cellsU m (.tail _ (.head _)) (by simpa using K)) (.inl ⟨by rw[o];exact b9,rfl⟩) ?_;refine fZ x a2 a3 a4 ?_;refine⟨O,?_⟩;refine X6 (l:=u) (v:=.agg u.toArray) rfl (cellsU m (.tail _ (.head _)) (by simpa using L)) (.inl ⟨by rw[p];exact b9,rfl⟩) ?_;refine fZ x a2 a3 a4 ?_;refine⟨O,?_⟩;refine cT m rfl rfl rfl rfl rfl (dF (ae.ones F)) (by rw[o];exact ep) (by rw[o];omega) fun W=>?_;refine fZ x a2 a3 a4 ?_;refine⟨O,?_⟩;refine cT W rfl rfl rfl rfl rfl (dF (ae.ones G)) (by rw[p];exact ep) (by rw[p];simp[eC];omega) fun X=>?_;apply aL;refine bF ?_;exact S (2*r+2) _ _ O ak (by simp only[go_sem,Y,vE]) ⟨I6,_,_,rfl,X,D C (D w e),O,by rw[iP];exact y,B I6 e,b⟩
   |false=>
    rw[hl]at hz;have aa:aQ R[first+(2*r+1)]! R[first+(2*r+1)+1]! = false:=hl;rw[ab (by simp only[aa,Bool.and_false];decide)]at b;refine be hz ?_;obtain⟨gq,cpq,curq,u,t,Q,eAq,N,G,F,p,o,L,K,B⟩:=Ow.two (ar.le P w) (fun{I} c a h=>ae.len c a h) (fun{I J c a} h k=>ae.le h k) (i:=first+r) (j:=first+(2*r+1)) O O;rw[y]at Q N;cases Q
    obtain rfl:=Ku eAq;clear eAq;refine bE [0,1,2,3,4,5,6,7,8,9,10,11,12,13,14,15] [6,12] [] ?_;refine fZ x a2 a3 a4 ?_;refine⟨O,?_⟩;refine X6 (l:=u) (v:=.agg u.toArray) rfl (cellsU T (.tail _ (.head _)) (by simpa using L)) (.inl ⟨by rw[p];exact b9,rfl⟩) ?_;refine fZ x a2 a3 a4 ?_;refine⟨O,?_⟩;refine X6 (l:=t) (v:=.agg t.toArray) rfl (cellsU T (.tail _ (.head _)) (by simpa using K)) (.inl ⟨by rw[o];exact b9,rfl⟩) ?_;refine fZ x a2 a3 a4 ?_;refine cE T [0] [] [_] rfl gf rfl (cf I3 _ _ _ _ G F) ?_;rintro v I6 qs m e⟨rfl,z,rfl,q⟩;simp only[Z3]at m |-;refine bR ?_;apply aL;cases s:aQ R[first+r]! R[first+(2*r+1)]! with
    |false=>rw[s]at q;rw[ag (by simp[s])]at b;apply RG;simp only[go_sem,E,q,ds];exact az rfl m (r:=[]) rfl (D C (D w e)) ⟨_,rfl,by rw[<-b];exact ar.le P (D w e),by rw[<-b];exact y⟩
    |true=>rw[s]at q;rw[ab (by simp[s])]at b;apply RG;simp only[go_sem,E,q,cP];have mi:((first+r)+1)*7<=d.size*7:=ch _ O;have mj:((first+(2*r+1))+1)*7<=d.size*7:=ch _ O;refine bE [0,1,2,3,4,5,6,7,8,9,10,11,12,13,14,15,16,17,18,19,20,21,22,23] [13,19] [] ?_;refine fZ x a2 a3 a4 ?_;refine⟨O,?_⟩;refine X6 (l:=t) (v:=.agg t.toArray) rfl (cellsU m (.tail _ (.head _)) (by simpa using K)) (.inl ⟨by rw[o];exact b9,rfl⟩) ?_;refine fZ x a2 a3 a4 ?_;refine⟨O,?_⟩;refine X6 (l:=u) (v:=.agg u.toArray) rfl (cellsU m (.tail _ (.head _)) (by simpa using L)) (.inl ⟨by rw[p];exact b9,rfl⟩) ?_;refine fZ x a2 a3 a4 ?_;refine⟨O,?_⟩;refine cT m rfl rfl rfl rfl rfl (dF (ae.ones F)) (by rw[o];exact ep) (by rw[o];omega) fun W=>?_;refine fZ x a2 a3 a4 ?_;refine⟨O,?_⟩;refine cT W rfl rfl rfl rfl rfl (dF (ae.ones G)) (by rw[p];exact ep) (by rw[p];simp[eC];omega) fun X=>?_;apply aL;refine bF ?_;exact S (2*r+1) _ _ O ak (by simp only[go_sem,Y,vE]) ⟨I6,_,_,rfl,X,D C (D w e),O,by rw[iP];exact y,B I6 e,b⟩
  .have Z:decide (((2*r+2:Nat):Int)<(hi:Int))=false:=cd O;rw[ab (by simp;omega)]at b;refine bE [0,1,2,3,4,5,6,7,8,9,10,11,12,13,14,15,16,17,18,19,20,21] [11,18] [] ?_;refine kL w3 Z ?_;apply aL;refine bF ?_;obtain⟨gq,cpq,curq,u,t,Q,rfl,N,G,F,p,o,L,K,B⟩:=Ow.two (ar.le P (aC _)) (fun{I} c a h=>ae.len c a h) (fun{I J c a} h k=>ae.le h k) (i:=first+r) (j:=first+(2*r+1)) O O;rw[y]at Q N;cases Q
   refine bE [0,1,2,3,4,5,6,7,8,9,10,11,12,13,14,15] [6,12] [] ?_;refine fZ x a2 a3 a4 ?_;refine⟨O,?_⟩;refine X6 (l:=u) (v:=.agg u.toArray) rfl (cellsU V (.tail _ (.head _)) (by simpa using L)) (.inl ⟨by rw[p];exact b9,rfl⟩) ?_;refine fZ x a2 a3 a4 ?_;refine⟨O,?_⟩;refine X6 (l:=t) (v:=.agg t.toArray) rfl (cellsU V (.tail _ (.head _)) (by simpa using K)) (.inl ⟨by rw[o];exact b9,rfl⟩) ?_;refine fZ x a2 a3 a4 ?_;refine cE V [0] [] [_] rfl gf rfl (cf I2 _ _ _ _ G F) ?_;rintro v I6 qs m e⟨rfl,z,rfl,q⟩;simp only[Z3]at m |-;refine bR ?_;apply aL;cases s:aQ R[first+r]! R[first+(2*r+1)]! with
   |false=>rw[s]at q;rw[ag (by simp[s])]at b;apply RG;simp only[go_sem,E,q,ds];exact az rfl m (r:=[]) rfl (D C (D (aC _) e)) ⟨_,rfl,by rw[<-b];exact ar.le P (D (aC _) e),by rw[<-b];exact y⟩
   |true=>rw[s]at q;rw[ab (by simp[s])]at b;apply RG;simp only[go_sem,E,q,cP];have mi:((first+r)+1)*7<=d.size*7:=ch _ O;have mj:((first+(2*r+1))+1)*7<=d.size*7:=ch _ O;refine bE [0,1,2,3,4,5,6,7,8,9,10,11,12,13,14,15,16,17,18,19,20,21,22,23] [13,19] [] ?_;refine fZ x a2 a3 a4 ?_;refine⟨O,?_⟩;refine X6 (l:=t) (v:=.agg t.toArray) rfl (cellsU m (.tail _ (.head _)) (by simpa using K)) (.inl ⟨by rw[o];exact b9,rfl⟩) ?_;refine fZ x a2 a3 a4 ?_;refine⟨O,?_⟩;refine X6 (l:=u) (v:=.agg u.toArray) rfl (cellsU m (.tail _ (.head _)) (by simpa using L)) (.inl ⟨by rw[p];exact b9,rfl⟩) ?_;refine fZ x a2 a3 a4 ?_;refine⟨O,?_⟩;refine cT m rfl rfl rfl rfl rfl (dF (ae.ones F)) (by rw[o];exact ep) (by rw[o];omega) fun W=>?_;refine fZ x a2 a3 a4 ?_;refine⟨O,?_⟩;refine cT W rfl rfl rfl rfl rfl (dF (ae.ones G)) (by rw[p];exact ep) (by rw[p];simp[eC];omega) fun X=>?_;apply aL;refine bF ?_;exact S (2*r+1) _ _ O ak (by simp only[go_sem,Y,vE]) ⟨I6,_,_,rfl,X,D C (D (aC _) e),O,by rw[iP];exact y,B I6 e,b⟩
 .have ac:decide (((2*r+1:Nat):Int)>=(hi:Int))=true:=bl O;rw[Sort.siftDown,dif_pos ap]at b;refine nm w1 w2 ac ?_;exact jM rfl V (r:=[]) rfl C ⟨A2,rfl,by rw[<-b];exact P,by rw[<-b];exact y⟩
def P9:ax prog 275:=⟨_,func275,rfl,rfl⟩
def jX{k:Nat}(h:k<2^61):IntKind.i64.wrap ((k:Int)-1)=(k:Int)-1:=by
 have:=fu (a:=k) (b:=1) O O
 rwa [show ((1:Nat):Int)=1 from rfl]at this
def Af(v vf a vc:Value)(k:Nat):St:=⟨dn 60 [(0,.v v),(3,.v vc),(8,.v vf),(9,.v (.int .i64 0)),(10,.v a),(11,.v (.int .i64 ((k:Int)-1)))],[]⟩
def Ag(v vf vc:Value)(k:Nat):St:=⟨dn 60 [(0,.v v),(3,.v vc),(8,.v vf),(9,.v (.int .i64 0)),(12,.v (.int .i64 ((k:Int)-1)))],[]⟩
theorem Q6(hA:ar I A v d.toList)(hc:ik ae aQ vc)(a0:a<=b)(hb:b<=d.size)(hn:d.size<=ao):
  aT prog 272 #[v,E a,E b,vc] I [A] fun _ w qs=>∃x,qs=[x]/\ar w x v (Sort.heapSort aQ d a b).toList:=by
 intro hd;unfold ao at hn;obtain⟨f,fst,cap,rfl,gf,cf⟩:=id hc;obtain⟨Z,X,rfl⟩:=Ow.one' hA;refine aP 60 func272 fun w0=>?_
 try simp only[E]
 have w1:IntKind.i64.wrap ((b:Int)-(a:Int))=((b-a:Nat):Int):=by rw[fu O O];omega
 have w2:=jX (k:=b-a) O;have w3:IntKind.i64.wrap ((((b-a:Nat):Int)-1).tdiv 2)=(((b-a-1) / 2+1:Nat):Int)-1:=by
  have e:(((b-a:Nat):Int)-1).tdiv 2=(((b-a-1) / 2:Nat):Int):=by
   rcases jt (b-a)with h|h
   .rw[h];decide
   .rw[show ((b-a:Nat):Int)-1=((b-a-1:Nat):Int) by omega];rfl
  rw[e,wrap64 O];omega
 apply RG;simp only[go_sem,w1,w2,w3];refine bY (fun k=>k) (Af (.slice Z d.size X) (E a) (E (b-a)) (.func (.func f) fst cap)) (fun k H=>∃w x N,H=U [w,x]/\Dj [w,x]/\I.le w/\k<=d.size+1/\N.size=d.size/\ar w x (.slice Z d.size X) N.toList/\Sort.heapBuild aQ (b-a) a k N=Sort.heapBuild aQ (b-a) a ((b-a-1) / 2+1) d) ((b-a-1) / 2+1) ak (by simp only[go_sem,Y,Af]) ?_ ?_
 .exact⟨I,A,d,rfl,hd,aC _,O,rfl,hA,rfl⟩
 rintro k H ⟨w,x,N,rfl,S,y,hk,C,T,t⟩ F;simp only[Af];cases k with
 |succ k=>
  have e:(((k+1:Nat):Int)-1)=(k:Int):=by omega
  have K:decide ((k:Int)>=0)=true:=bl O;have w4:=jX (k:=k) O;rw[Sort.heapBuild]at t;refine dW e K ?_;refine au S [0] [x] [] rfl H7 rfl (Kv (d:=N) (lo:=k) (hi:=b-a) (first:=a) T hc O (by rw[C];exact hn) O) ?_;rintro v z qs m o⟨L,rfl,u,p⟩;simp only[Z3]at m |-;refine be w4 ?_;exact F k _ _ O ak (by simp only[go_sem,Y,Af]) ⟨z,L,_,rfl,m,D y o,O,by rw[p];exact C,u,t⟩
 |zero=>
  have K:decide ((0:Int)-1>=0)=false:=rfl;rw[Sort.heapBuild]at t;refine dW K w2 ?_;refine bY (fun k=>k) (Ag (.slice Z d.size X) (E a) (.func (.func f) fst cap)) (fun k H=>∃z L V,H=U [z,L]/\Dj [z,L]/\w.le z/\k<=b-a/\V.size=d.size/\ar z L (.slice Z d.size X) V.toList/\Sort.heapPop aQ a k V=Sort.heapSort aQ d a b) (b-a) ak (by simp only[go_sem,Y,Ag]) ?_ ?_
  .exact⟨w,x,N,rfl,S,aC _,aR _,C,T,by rw[t];rfl⟩
  rintro k H ⟨z,L,V,rfl,m,o,aS,p,u,s⟩ q;simp only[Ag];cases k with
  |succ k=>
   have e:(((k+1:Nat):Int)-1)=(k:Int):=by omega
   have G:decide ((k:Int)>=0)=true:=bl O;have w4:=jX (k:=k) O;rw[Sort.heapPop]at s;refine dW e G ?_;have W:IntKind.i64.wrap ((a:Int)+(k:Int))=((a+k:Nat):Int):=by rw[<-wrap64 (n:=a+k) O];congr 1<;>omega
   obtain⟨g,cp,cur,ci,cj,ev,rfl,an,ri,rj,li,lj,ki,kj,P⟩:=Ow.two u (fun{I} c a h=>ae.len c a h) (fun{I J c a} h k=>ae.le h k) (i:=a) (j:=a+k) O O;rw[p]at ev an;cases ev
   have mi:(a+1)*7<=d.size*7:=ch _ O;have mj:((a+k)+1)*7<=d.size*7:=ch _ O;refine bE [0,1,2,3,4,5,6,7,8,9,10,11,12,13,14,15,16,17,18,19] [11,15] [] ?_;refine bJ W ?_;refine⟨O,?_⟩;refine X6 (l:=cj) (v:=.agg cj.toArray) rfl (cellsU m (.tail _ (.head _)) (by simpa using kj)) (.inl ⟨by rw[lj];exact b9,rfl⟩) ?_;refine bJ W ?_;refine⟨O,?_⟩;refine X6 (l:=ci) (v:=.agg ci.toArray) rfl (cellsU m (.tail _ (.head _)) (by simpa using ki)) (.inl ⟨by rw[li];exact b9,rfl⟩) ?_;refine bJ W ?_;refine⟨O,?_⟩;refine cT m rfl rfl rfl rfl rfl (dF (ae.ones rj)) (by rw[lj];exact ep) (by rw[lj];omega) fun ac=>?_;refine bJ W ?_;refine⟨O,?_⟩;refine cT ac rfl rfl rfl rfl rfl (dF (ae.ones ri)) (by rw[li];exact ep) (by rw[li];simp[eC];omega) fun am=>?_;apply aL;refine be e ?_;have aq:=P z (aC _);have B:(Sort.swp V a (a+k)).size=d.size:=by rw[iP];exact p
   refine au am [0] [sg g _] [] rfl H7 rfl (Kv (lo:=0) (hi:=k) (first:=a) aq hc (by rw[B];omega) (by rw[B];exact hn) (aF _)) ?_;rintro v I5 qs R Q⟨A5,rfl,ap,aa⟩;simp only[Z3]at R |-;refine be w4 ?_;exact q k _ _ O ak (by simp only[go_sem,Y,Ag]) ⟨I5,A5,_,rfl,R,D o Q,O,by rw[aa];exact B,ap,s⟩
  |zero=>have G:decide ((0:Int)-1>=0)=false:=rfl;rw[Sort.heapPop]at s;refine be G ?_;exact jM rfl m (r:=[]) rfl (D y o) ⟨L,rfl,by rw[<-s];exact u⟩
def Bp(v:Value)(x:Nat×Nat):St:=⟨dn 34 [(0,.v v),(8,.v (E x.1)),(9,.v (.int .i64 ((x.2:Int)-1)))],[]⟩
def Vc(P:ar I A v d.toList)(ac:a<b)(hb:b<=d.size)(hn:d.size<=ao):
  aT prog 275 #[v,E a,E b,vc] I [A] fun _ I2 X=>∃o,X=[o]/\ar I2 o v (Sort.reverseRange d a b).toList:=by
 intro hd;unfold ao at hn;obtain⟨N,L,rfl⟩:=Ow.one' P;refine aP 34 func275 fun w0=>?_
 try simp only[E]
 have w2:=jX (k:=b) O;refine dq w2 ?_;refine bY (fun x=>x.2-x.1) (Bp (.slice N d.size L)) (fun x H=>∃o w,H=U [I,o]/\Dj [I,o]/\x.1<=b/\1<=x.2/\x.2<=b/\w.size=d.size/\ar I o (.slice N d.size L) w.toList/\Sort.reverseLoop x.1 (x.2-1) w=Sort.reverseRange d a b) (a,b) ak (by simp only[go_sem,Y,Bp]) ?_ ?_
 .exact⟨A,d,rfl,hd,by simp only;omega,by simp only;omega,aR _,rfl,P,rfl⟩
 rintro⟨i,j⟩ H ⟨o,w,rfl,m,hi,C,hj,s,u,f⟩ p;simp only at hi C hj f;simp only[Bp];obtain⟨j,rfl⟩:∃j',j=j'+1:=⟨j-1,O⟩;have e:(((j+1:Nat):Int)-1)=(j:Int):=by omega
 rw[tM]at f;have T:=jX (k:=j) O;have S:IntKind.i64.wrap ((i:Int)+1)=((i+1:Nat):Int):=by rw[<-wrap64 (n:=i+1) O];congr 1<;>omega
 rcases aI i j with B|aa
 .have q:=Z5 i j;rw[Sort.reverseLoop,ag B]at f;refine dW e q ?_;obtain⟨g,cp,cur,R,Q,ev,rfl,K,W,V,z,y,ki,Z,t⟩:=Ow.two u (fun{I} c a h=>ae.len c a h) (fun{I J c a} h k=>ae.le h k) (i:=i) (j:=j) O O;rw[s]at ev K;cases ev
  have mi:(i+1)*7<=d.size*7:=ch _ O;have mj:(j+1)*7<=d.size*7:=ch _ O;refine bE [0,1,2,3,4,5,6,7,8,9,10,11,12,13,14,15] [7,11] [] ?_;refine bJ e ?_;refine⟨O,?_⟩;refine X6 (l:=Q) (v:=.agg Q.toArray) rfl (cellsU m (.tail _ (.head _)) (by simpa using Z)) (.inl ⟨by rw[y];exact b9,rfl⟩) ?_;refine bJ e ?_;refine⟨O,?_⟩;refine X6 (l:=R) (v:=.agg R.toArray) rfl (cellsU m (.tail _ (.head _)) (by simpa using ki)) (.inl ⟨by rw[z];exact b9,rfl⟩) ?_;refine bJ e ?_;refine⟨O,?_⟩;refine cT m rfl rfl rfl rfl rfl (dF (ae.ones V)) (by rw[y];exact ep) (by rw[y];omega) fun F=>?_;refine bJ e ?_;refine⟨O,?_⟩;refine cT F rfl rfl rfl rfl rfl (dF (ae.ones W)) (by rw[z];exact ep) (by rw[z];simp[eC];omega) fun G=>?_;apply aL;refine dW T S ?_;exact p (i+1,j) _ _ bh ak (by simp only[go_sem,Y,Bp]) ⟨_,_,rfl,G,by simp only;omega,by simp only;omega,by simp only;omega,by rw[iP];exact s,t I (aC _),f⟩
 .have q:decide ((i:Int)<(j:Int))=false:=cd O;rw[Sort.reverseLoop,ab O]at f;refine dW e q ?_;exact jM rfl m (r:=[]) rfl (aC _) ⟨o,rfl,by rw[<-f];exact u⟩
def DX:ax prog 309:=⟨_,func309,rfl,rfl⟩
def DW:ax prog 300:=⟨_,func300,rfl,rfl⟩
def DV:ax prog 299:=⟨_,func299,rfl,rfl⟩
def P8:ax prog 274:=⟨_,func274,rfl,rfl⟩
abbrev jE(b n:Nat):PH:=sg b (.cells #[E n] 3 (0,0))
theorem Ez{n sb:Nat}(y:ar I A v d.toList)(T:ik ae aQ vc)(ha:a<d.size)(hb:b<d.size)(R:d.size<=ao)(hs:n<2^20):
  aT prog 309 #[v,E a,E b,pt sb,vc] I [A,jE sb n] fun r X w=>w=[A,jE sb (Sort.order2 aQ d a b n).2.2]/\r=.tuple #[E (Sort.order2 aQ d a b n).1,E (Sort.order2 aQ d a b n).2.1]:=by
 intro hd;unfold ao at R;obtain⟨f,fst,cap,rfl,U,W⟩:=id T;obtain⟨va,Z,rfl⟩:=Ow.one' y;refine aP 32 func309 fun w0=>?_
 try simp only[E,pt]
 have F:IntKind.i64.wrap ((n:Int)+1)=((n+1:Nat):Int):=by
  have V:(n:Int)+1=((n+1:Nat):Int):=by omega
  rw[V];exact wrap64 O
 obtain⟨g,cp,cur,C,B,ev,rfl,S,H,G,L,K,P,N,x⟩:=Ow.two y (fun{I} c a h=>ae.len c a h) (fun{I J c a} h k=>ae.le h k) (i:=b) (j:=a) O O;cases ev
 refine ai ?_;refine bE [0,1,2,3,4,5,6,7,8,9,10] [4,8] [] ?_;refine bR ?_;refine⟨O,?_⟩;refine X6 (l:=C) (v:=.agg C.toArray) rfl (cellsU hd (.tail _ (.head _)) (by simpa using P)) (.inl ⟨by rw[L];exact b9,rfl⟩) ?_;refine bR ?_;refine⟨O,?_⟩;refine X6 (l:=B) (v:=.agg B.toArray) rfl (cellsU hd (.tail _ (.head _)) (by simpa using N)) (.inl ⟨by rw[K];exact b9,rfl⟩) ?_;refine bR ?_;refine cE hd [0,1] [] [_,_] rfl U rfl (W I _ _ _ _ H G) ?_;rintro v X w m o⟨rfl,z,rfl,p⟩;simp only[Z3]at m |-;refine bR ?_;apply aL;cases q:aQ d[b]! d[a]! with
 |true=>
  rw[q]at p;have e:Sort.order2 aQ d a b n=(b,a,n+1):=by simp[Sort.order2,q]
  rw[e];refine be p ?_;refine X5 (l:=[E n]) rfl (cellsU m (.tail _ (.tail _ (.head _))) (dt (by simp) rfl)) (.inr ⟨fI,rfl⟩) ?_;refine be F ?_;refine aj m [1,0] fun u=>?_;refine kK u rfl rfl rfl rfl rfl (by exact r9) (by simp) fun t=>?_;refine bF ?_;refine aj t [1,0] fun s=>?_;exact az rfl s (r:=[E b,E a]) rfl o ⟨rfl,rfl⟩
 |false=>
  rw[q]at p;have e:Sort.order2 aQ d a b n=(a,b,n):=by simp[Sort.order2,q]
  rw[e];refine be p ?_;exact az rfl m (r:=[E a,E b]) rfl o ⟨rfl,rfl⟩
def EA(d:Array M)(a b n:Nat):((Sort.order2 aQ d a b n).1=a/\(Sort.order2 aQ d a b n).2.1=b\/(Sort.order2 aQ d a b n).1=b/\(Sort.order2 aQ d a b n).2.1=a)/\(Sort.order2 aQ d a b n).2.2<=n+1:=by
 unfold Sort.order2;split
 .exact⟨.inr ⟨rfl,rfl⟩,aR _⟩
 .exact⟨.inl ⟨rfl,rfl⟩,Nat.le_succ _⟩
def Es{c n sb:Nat}(x:ar I A v d.toList)(w:ik ae aQ vc)(ha:a<d.size)(hb:b<d.size)(B:c<d.size)(z:d.size<=ao)(hs:n<2^19):
  aT prog 300 #[v,E a,E b,E c,pt sb,vc] I [A,jE sb n] fun r L u=>∃H m,H<=n+3/\(m=a\/m=b\/m=c)/\u=[A,jE sb H]/\r=E m:=by
 intro hd;obtain⟨f,fst,cap,rfl,T,U⟩:=id w;obtain⟨P,N,rfl⟩:=Ow.one' x;refine aP 41 func300 fun w0=>?_
 try simp only[E,pt]
 refine ai ?_;refine au hd [0,1] [A,jE sb n] [] rfl DX rfl (Ez (a:=a) (b:=b) x w ha hb z O) ?_;rintro v L u t g⟨rfl,rfl⟩;obtain⟨G,S⟩:=EA d a b n;generalize Sort.order2 aQ d a b n=e at *;simp only[Z3]at t |-;refine dI ?_;have C:e.2.1<d.size/\e.1<d.size:=by rcases G with p|p<;>omega
 refine au t [0,1] [A,jE sb e.2.2] [] rfl DX rfl (Ez (a:=e.2.1) (b:=c) (ar.le x g) w C.1 B z O) ?_;rintro v W u o h⟨rfl,rfl⟩;obtain⟨F,R⟩:=EA d e.2.1 c e.2.2;generalize Sort.order2 aQ d e.2.1 c e.2.2=i at *;simp only[Z3]at o |-;refine dI ?_;have J:i.1<d.size:=by rcases F with q|q<;>omega
 refine au o [0,1] [A,jE sb i.2.2] [] rfl DX rfl (Ez (a:=e.1) (b:=i.1) (ar.le x (D g h)) w C.2 J z O) ?_;rintro v V u l k⟨rfl,rfl⟩;obtain⟨K,Q⟩:=EA d e.1 i.1 i.2.2;generalize Sort.order2 aQ d e.1 i.1 i.2.2=y at *;simp only[Z3]at l |-;refine dI ?_;exact az rfl l (r:=[E y.2.1]) rfl (D g (D h k)) ⟨y.2.2,y.2.1,O,by rcases G with p|p<;>rcases F with q|q<;>rcases K with s|s<;>omega,rfl,rfl⟩
def Er{n sb:Nat}(o:ar I A v d.toList)(l:ik ae aQ vc)(h1:1<=a)(ha:a+1<d.size)(k:d.size<=ao)(hs:n<2^19):
  aT prog 299 #[v,E a,pt sb,vc] I [A,jE sb n] fun r u j=>∃h m,h<=n+3/\a-1<=m/\m<=a+1/\j=[A,jE sb h]/\r=E m:=by
 intro hd;have i:=k;unfold ao at i;obtain⟨f,fst,cap,rfl,z,B⟩:=id l;obtain⟨x,w,rfl⟩:=Ow.one' o;refine aP 18 func299 fun w0=>?_
 try simp only[E,pt]
 have w2:IntKind.i64.wrap ((a:Int)-1)=((a-1:Nat):Int):=by rw[jX O];omega
 have p:IntKind.i64.wrap ((a:Int)+1)=((a+1:Nat):Int):=by
  have t:(a:Int)+1=((a+1:Nat):Int):=by omega
  rw[t];exact wrap64 O
 refine lI p w2 ?_;refine au hd [0,1] [A,jE sb n] [] rfl DW rfl (Es (a:=a-1) (b:=a) (c:=a+1) o l O O O k hs) ?_;rintro v u j g e⟨h,m,q,y,rfl,rfl⟩;simp only[Z3]at g |-;refine dI ?_;exact az rfl g (r:=[E m]) rfl e ⟨h,m,q,O,O,rfl,rfl⟩
theorem UD(J:ar I A v d.toList)(H:ik ae aQ vc)(am:12<b-a)(hb:b<=d.size)(G:d.size<=ao):
  aT prog 274 #[v,E a,E b,vc] I [A] fun r I2 F=>∃m h,a<=m/\m<b/\h<=2/\F=[A]/\r=.tuple #[E m,E h]:=by
 intro hd;have V:=G;unfold ao at V;obtain⟨f,fst,cap,rfl,gf,cf⟩:=id H;obtain⟨va,vk,rfl⟩:=Ow.one' J;refine aP 63 func274 fun w0=>?_
 try simp only[E,pt]
 have w1:IntKind.i64.wrap ((b:Int)-(a:Int))=((b-a:Nat):Int):=by rw[fu O O];omega
 obtain⟨q,o⟩:∃q,q=(b-a) / 4:=⟨_,rfl⟩;have ac:4*q<=b-a:=by omega
 have aa:3<=q:=by omega
 have X:IntKind.i64.wrap ((((b-a:Nat):Int)).tdiv 4)=(q:Int):=by rw[show (((b-a:Nat):Int)).tdiv 4=(((b-a) / 4:Nat):Int) from rfl,<-o,wrap64 O]
 have m1:IntKind.i64.wrap ((q:Int)*1)=((q:Nat):Int):=by
  have u:(q:Int)*1=((q:Nat):Int):=by omega
  rw[u];exact wrap64 O
 have m2:IntKind.i64.wrap ((q:Int)*2)=((2*q:Nat):Int):=by
  have u:(q:Int)*2=((2*q:Nat):Int):=by omega
  rw[u];exact wrap64 O
 have m3:IntKind.i64.wrap ((q:Int)*3)=((3*q:Nat):Int):=by
  have u:(q:Int)*3=((3*q:Nat):Int):=by omega
  rw[u];exact wrap64 O
 have s1:IntKind.i64.wrap ((a:Int)+(q:Int))=((a+q:Nat):Int):=by
  have u:(a:Int)+(q:Int)=((a+q:Nat):Int):=by omega
  rw[u];exact wrap64 O
 have s2:IntKind.i64.wrap ((a:Int)+((2*q:Nat):Int))=((a+2*q:Nat):Int):=by
  have u:(a:Int)+((2*q:Nat):Int)=((a+2*q:Nat):Int):=by omega
  rw[u];exact wrap64 O
 have Z:IntKind.i64.wrap ((a:Int)+((3*q:Nat):Int))=((a+3*q:Nat):Int):=by
  have u:(a:Int)+((3*q:Nat):Int)=((a+3*q:Nat):Int):=by omega
  rw[u];exact wrap64 O
 have R:decide (((b-a:Nat):Int)>=8)=true:=bl O;apply cD 15;simp only[go_sem,w1];refine jL 11 hd rfl fun sb Q=>?_;have W:Dj [I,jE sb 0,A]:=Q
 change RC _ _ _ (U [I,jE sb 0,A])
 clear Q;refine aj W [1,0] fun P=>?_;rcases aI (b-a) 50 with h5|h5
 .have C:decide (((b-a:Nat):Int)>=50)=false:=cd O;apply RG;simp only[go_sem,iN,List.map,E,pt,X,m1,m2,m3,s1,s2,Z,R,C];refine au P [0,1] [A,jE sb 0] [] rfl DW rfl (Es (a:=a+q) (b:=a+2*q) (c:=a+3*q) (n:=0) J H O O O G O) ?_;rintro v I2 F j i⟨w,m,p1,p2,rfl,rfl⟩;simp only[Z3]at j |-;refine dI ?_;refine X5 (l:=[E w]) rfl (cellsU j (.tail _ (.tail _ (.head _))) (dt (by simp) rfl)) (.inr ⟨fI,rfl⟩) ?_;have hm:a<=m/\m<b:=by omega
  by_cases z0:w=0
  .have x:((w:Int) == 0)=true:=by rw[z0];rfl
   refine be x ?_;refine aj j [1,0] fun e=>?_;refine aH e fun S e g t=>?_;exact az rfl e (r:=[E m,E 1]) rfl (D i g) ⟨m,1,hm.1,hm.2,O,rfl,rfl⟩
  .have x:((w:Int) == 0)=false:=by rw[iU];omega
   by_cases T:w=12
   .have z:((w:Int) == 12)=true:=by rw[T];rfl
    refine dW x z ?_;refine aj j [1,0] fun e=>?_;refine aH e fun S e g t=>?_;exact az rfl e (r:=[E m,E 2]) rfl (D i g) ⟨m,2,hm.1,hm.2,O,rfl,rfl⟩
   .have z:((w:Int) == 12)=false:=by rw[iU];omega
    refine dW x z ?_;refine aj j [1,0] fun e=>?_;refine aH e fun S e g t=>?_;exact az rfl e (r:=[E m,E 0]) rfl (D i g) ⟨m,0,hm.1,hm.2,O,rfl,rfl⟩
 .have C:decide (((b-a:Nat):Int)>=50)=true:=bl O;apply RG;simp only[go_sem,iN,List.map,E,pt,X,m1,m2,m3,s1,s2,Z,R,C];refine au P [0,1] [A,jE sb 0] [] rfl DV rfl (Er (a:=a+q) (n:=0) J H O O G O) ?_;rintro v I2 F j i⟨w,x1,p1,p2,p3,rfl,rfl⟩;simp only[Z3]at j |-;refine dI ?_;refine au j [0,1] [A,jE sb w] [] rfl DV rfl (Er (a:=a+2*q) (n:=w) (ar.le J i) H O O G O) ?_;rintro v I3 F N p⟨n3,x2,p4,p5,p6,rfl,rfl⟩;simp only[Z3]at N |-;refine dI ?_;refine au N [0,1] [A,jE sb n3] [] rfl DV rfl (Er (a:=a+3*q) (n:=n3) (ar.le J (D i p)) H O O G O) ?_;rintro v I4 F L y⟨n4,x3,p7,p8,p9,rfl,rfl⟩;simp only[Z3]at L |-;refine dI ?_;refine au L [0,1] [A,jE sb n4] [] rfl DW rfl (Es (a:=x1) (b:=x2) (c:=x3) (n:=n4) (ar.le J (D i (D p y))) H O O O G O) ?_;rintro v I5 F s K⟨B,m,p10,p11,rfl,rfl⟩;simp only[Z3]at s |-;refine dI ?_;have k:=D i (D p (D y K));refine X5 (l:=[E B]) rfl (cellsU s (.tail _ (.tail _ (.head _))) (dt (by simp) rfl)) (.inr ⟨fI,rfl⟩) ?_;have hm:a<=m/\m<b:=by omega
  by_cases z0:B=0
  .have x:((B:Int) == 0)=true:=by rw[z0];rfl
   refine be x ?_;refine aj s [1,0] fun e=>?_;refine aH e fun S e g t=>?_;exact az rfl e (r:=[E m,E 1]) rfl (D k g) ⟨m,1,hm.1,hm.2,O,rfl,rfl⟩
  .have x:((B:Int) == 0)=false:=by rw[iU];omega
   by_cases T:B=12
   .have z:((B:Int) == 12)=true:=by rw[T];rfl
    refine dW x z ?_;refine aj s [1,0] fun e=>?_;refine aH e fun S e g t=>?_;exact az rfl e (r:=[E m,E 2]) rfl (D k g) ⟨m,2,hm.1,hm.2,O,rfl,rfl⟩
   .have z:((B:Int) == 12)=false:=by rw[iU];omega
    refine dW x z ?_;refine aj s [1,0] fun e=>?_;refine aH e fun S e g t=>?_;exact az rfl e (r:=[E m,E 0]) rfl (D k g) ⟨m,0,hm.1,hm.2,O,rfl,rfl⟩
end Go.Proofs.YtfaclfkpnmcmlaaGreatDoor
