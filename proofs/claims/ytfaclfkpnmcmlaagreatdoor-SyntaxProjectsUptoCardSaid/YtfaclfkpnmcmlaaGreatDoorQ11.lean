import Derived.Test.YtfaclfkpnmcmlaaGreatDoorQ03
import Derived.Test.YtfaclfkpnmcmlaaGreatDoorQ10
import Derived.Laws.StructEq
import Derived.Sort.AssemblyPlain
set_option maxHeartbeats 8000000
set_option linter.all false
namespace Go.Proofs.YtfaclfkpnmcmlaaGreatDoor
open Go Go.Sx Dg Syn
instance:Inhabited Nd:=⟨⟨0,[],0,0,[],ff⟩⟩
instance:Inhabited bX:=⟨⟨0,0,ff⟩⟩
theorem Fi{α:Type}[Inhabited α](d:Array α)(i j:Nat):(Sort.swp d i j).toList=(d.toList.set i d[j]!).set j d[i]!:=by simp[Sort.swp]
theorem cH{α:Type}[Inhabited α](d:Array α)(i j:Nat):(Sort.swp d i j).size=d.size:=by simp[Sort.swp]
theorem x5{α:Type}[Inhabited α](d:Array α){i:Nat}(h:i<d.size):d.toList[i]?=some d[i]!:=by
 simp[h]
theorem sr(c cs:List Value)(h:c.length=cs.length):be c 0 cs=cs:=by
 rw[dR _ _ _ (by omega)];simp[h]
theorem Ow.two{α:Type}[Inhabited α]{R:PH->List Value->α->Prop}{e:TypeId}{size:Nat}{I A:PH}{v:Value}{d:Array α}(h:Ow R e size I A v d.toList)(hR:∀{I} c a,R I c a->c.length=size)(aj:∀{I J c a},R I c a->I.le J->R J c a){i j:Nat}(hi:i<d.size)(hj:j<d.size):
  ∃g cap cur ci cj,v=.slice (some ⟨g,0,none⟩) d.size cap/\A=sg g (.cells cur e (0,0))/\d.size*size<=cur.size/\R I ci d[i]!/\R I cj d[j]!/\ci.length=size/\cj.length=size/\aQ A g (i*size) ci/\aQ A g (j*size) cj/\
   ∀J,I.le J->Ow R e size J (sg g (.cells (be (be cur.toList (i*size) cj) (j*size) ci).toArray e (0,0))) v (Sort.swp d i j).toList:=by
 obtain⟨g,cap,cur,xs,ev,rfl,c1,c2,c3,c4,c5,ac⟩:=h.open' (by simp;omega) fun c a k=>hR c a k;have hL:d.toList.length=d.size:=by simp
 rw[hL]at ev c1 c4 c5;have am:d.size*size<=cap*size:=Tb _ c1;have gi:=ac.get (fun c a k=>hR c a k) (x5 d hi);have gj:=ac.get (fun c a k=>hR c a k) (x5 d hj);have li:=hR _ _ gi;have lj:=hR _ _ gj;have ki:=fp (k:=0) (m:=size) (e:=e) (g:=g) (cur:=cur) (fun c a k=>hR c a k) ac (i:=i) (by rw[hL];exact hi) (by rw[hL];omega) (by rw[hL];exact c4) rfl (by omega);have kj:=fp (k:=0) (m:=size) (e:=e) (g:=g) (cur:=cur) (fun c a k=>hR c a k) ac (i:=j) (by rw[hL];exact hj) (by rw[hL];omega) (by rw[hL];exact c4) rfl (by omega);rw[Tm,To,Nat.min_self,Sd]at ki kj;refine⟨g,cap,cur,_,_,ev,rfl,by omega,gi,gj,li,lj,ki,kj,fun J hJ=>?_⟩;have m1:(i+1)*size<=d.size*size:=Tb _ hi;have m2:(j+1)*size<=d.size*size:=Tb _ hj;rw[Ta,TE]at m1 m2;have p1:=lz (fun c a k=>hR c a k) (ac.mono fun _ _ k=>aj k hJ) (i:=i) (by rw[hL];exact hi) rfl (k:=0) (cs:=(xs.drop (j*size)).take size) (a:=d[j]!) (by omega) (by rw[sr _ _ (by omega)];exact aj gj hJ);rw[Sd]at p1;have aa:(be xs (i*size) ((xs.drop (j*size)).take size)).length=d.size*size:=by rw[aJ];exact c5
 have p2:=lz (fun c a k=>hR c a k) p1 (i:=j) (by simp;exact hj) rfl (k:=0) (cs:=(xs.drop (i*size)).take size) (a:=d[i]!) (by omega) (by
  rw[sr _ _ (by rw[li];simp[aa];omega)];exact aj gi hJ)
 rw[Sd]at p2;rw[Fi];refine⟨_,?_,p2⟩;rw[ev];have ak:((d.toList.set i d[j]!).set j d[i]!).length=d.size:=by simp
 rw[ak];refine jF.of_sg (by rw[aJ];exact aa) c1 c2 (by simp[aJ];exact c3) ?_;show (be (be cur.toList (i*size) _) (j*size) _).take (d.size*size)=_;rw[kT _ _ _ _ (by omega),kT _ _ _ _ (by omega),c4]
theorem Ow.one'{α:Type}[Inhabited α]{R:PH->List Value->α->Prop}{e:TypeId}{size:Nat}{I A:PH}{v:Value}{d:Array α}(h:Ow R e size I A v d.toList):∃a c,v=.slice a d.size c:=by
 obtain⟨a,c,rfl⟩:=h.shape;exact⟨a,c,by simp⟩
theorem aM{cs:List Value}(h:cs.all Sx.one=true):iB (.agg cs.toArray)=some cs:=by simp only[iB,h,reduceIte]
theorem dg.ones{I:PH}{c:List Value}{n:bX}(h:dg I c n):c.all Sx.one=true:=by
 obtain⟨a,k,e,_⟩:=h;rw[e];rfl
theorem Ow.addr{α:Type}[Inhabited α]{R:PH->List Value->α->Prop}{e:TypeId}{size:Nat}{I A:PH}{v:Value}{d:Array α}(h:Ow R e size I A v d.toList)(hn:0<d.size):∃g c,v=.slice (some ⟨g,0,none⟩) d.size c:=by
 obtain⟨xs,h1,_⟩:=h;obtain⟨g,cap,cur,e1,_⟩:=h1.sg (by simpa using hn);exact⟨g,cap,by simpa using e1⟩
theorem pu{g:Nat}{cur cur':Array Value}{e:TypeId}(h:sg g (.cells cur e (0,0))=sg g (.cells cur' e (0,0))):cur=cur':=by
 have:=congrFun h g;simp only[sg,reduceIte,Sc,Obj.cells.injEq,TY]at this;exact this
theorem jM{j:Nat}(h:j+1<2^62):IntKind.i64.wrap (((j+1:Nat):Int)-1)=(j:Int):=by
 have:=bQ (a:=j+1) (b:=1) (by omega) (by omega);rw[show ((1:Nat):Int)=1 from rfl]at this;rw[this];omega
theorem Jl:aP Tryz.prog 271:=⟨_,Tryz.func271,rfl,rfl⟩
def x6(v va vb vc:Value)(i:Nat):St:=⟨dn 53 [(0,.v v),(1,.v va),(2,.v vb),(3,.v vc),(8,.v (iv i))],[]⟩
def CH(v va vb vc:Value)(i:Nat)(j:Nat):St:=⟨dn 53 [(0,.v v),(1,.v va),(2,.v vb),(3,.v vc),(8,.v (iv i)),(9,.v (iv j))],[]⟩
theorem LG{I A:PH}{v vc:Value}{d:Array Nd}{a b:Nat}(hA:br I A v d.toList)(hc:jT aW cz vc)(hb:b<=d.size)(hn:d.size<=aF)(ha:a<=d.size):
  aO Tryz.prog 271 #[v,iv a,iv b,vc] I [A] fun _ I2 qs=>∃A2,qs=[A2]/\br I2 A2 v (Sort.insertionSort cz d a b).toList:=by
 intro hd;unfold aF at hn;obtain⟨f,first,cap,rfl,gf,cf⟩:=id hc;obtain⟨va,vk,rfl⟩:=Ow.one' hA;have w1:=wrap64 (n:=a+1) (by omega);have w1':IntKind.i64.wrap ((a:Int)+1)=((a+1:Nat):Int):=by rw[<-w1];congr 1
 refine Ot Tryz.func271 rfl fun w0=>?_;simp only[Tryz.ntmps271,iv];apply RG;simp only[go_sem,w1'];refine aB (fun i=>b-i) (x6 (.slice va d.size vk) (iv a) (iv b) (.func (.func f) first cap)) (fun i H=>∃I2 A2 d2,H=U [I2,A2]/\Dj [I2,A2]/\I.le I2/\a+1<=i/\d2.size=d.size/\br I2 A2 (.slice va d.size vk) d2.toList/\Sort.insOuter cz a b i d2=Sort.insertionSort cz d a b) (a+1) (ae (by simp only[go_sem,Tq,iv])) (by simp only[go_sem,Tq,x6]) ?_ ?_
 ·exact⟨I,A,d,rfl,hd,Uj _,R7 _,rfl,hA,rfl⟩
 rintro i H ⟨I2,A2,d2,rfl,a6,ao,b3,bb,a9,a1⟩ aj;simp only[x6];rcases Sw i b with bc|b2
 ·have a5:decide ((i:Int)<(b:Int))=true:=by simp;omega
  have e1:=wrap64 (n:=i+1) (by omega);have ba:IntKind.i64.wrap ((i:Int)+1)=((i+1:Nat):Int):=by rw[<-e1];congr 1
  rw[Sort.insOuter,SI bc]at a1;apply RG;simp only[go_sem,a5,iv];refine aB (fun j=>j) (CH (.slice va d.size vk) (iv a) (iv b) (.func (.func f) first cap) i) (fun j H=>∃I3 A3 d3,H=U [I3,A3]/\Dj [I3,A3]/\I2.le I3/\j<=i/\d3.size=d.size/\br I3 A3 (.slice va d.size vk) d3.toList/\Sort.insInner cz a j d3=Sort.insInner cz a i d2) i (ae (by simp only[go_sem,Tq,iv])) (by simp only[go_sem,Tq,CH]) ?_ ?_
  ·exact⟨I2,A2,d2,rfl,a6,Uj _,R7 _,bb,a9,rfl⟩
  rintro j H ⟨I3,A3,d3,rfl,a0,an,b1,aS,a3,am⟩ ak;simp only[CH];have fin:∀{I4 A4:PH} {d4:Array Nd},I3.le I4->br I4 A4 (.slice va d.size vk) d4.toList->d4.size=d.size->d4=Sort.insInner cz a i d2->∃I5 A5 d5,U [I4,A4]=U [I5,A5]/\(Dj [I4,A4]->Dj [I5,A5])/\I.le I5/\a+1<=i+1/\d5.size=d.size/\br I5 A5 (.slice va d.size vk) d5.toList/\Sort.insOuter cz a b (i+1) d5=Sort.insertionSort cz d a b:=fun h1 h2 h3 h4=>⟨_,_,_,rfl,id,Ui ao (Ui an h1),by omega,h3,h2,by rw[h4];exact a1⟩;rcases Sw a j with a7|a7
  ·obtain⟨j,rfl⟩:∃j',j=j'+1:=⟨j-1,by omega⟩;have a4:decide (((j+1:Nat):Int)>(a:Int))=true:=Uh (by omega);have p1:=jM (j:=j) (by omega);obtain⟨g,cp,cur,cj1,cj,ev,rfl,bx,rj1,rj,lj1,lj,kj1,kj,a2⟩:=Ow.two a3 (fun{I} c a h=>aW.len c a h) (fun{I J c a} h k=>aW.le h k) (i:=j+1) (j:=j) (by omega) (by omega);rw[aS]at ev bx;cases ev
   apply RG;simp only[go_sem,iv];refine ax mixed [0,1,2,3,4,5,6,7,8,9,10,11,12,13,14,15,16] [8,13] [] rfl rfl ?_;apply af;simp only[go_sem,iv,a4,p1];refine⟨by omega,?_⟩;refine P7 (l:=cj1) (v:=.agg cj1.toArray) rfl (cellsU a0 (.tail _ (.head _)) (by simpa using kj1)) (.inl ⟨by rw[lj1];exact bT,rfl⟩) ?_;apply af;simp only[go_sem,iv,p1];refine⟨by omega,?_⟩;refine P7 (l:=cj) (v:=.agg cj.toArray) rfl (cellsU a0 (.tail _ (.head _)) (by simpa using kj)) (.inl ⟨by rw[lj];exact bT,rfl⟩) ?_;apply af;simp only[go_sem,iv,p1];refine Og a0 [0] rfl (fun h=>by cases h) rfl gf (by rfl) (ps:=[]) (F:=[_]) rfl (cf I3 _ _ _ _ rj1 rj) fun v I4 qs ap ac hq=>?_;obtain⟨rfl,z,rfl,hz⟩:=hq;simp only[Z3]at ap |-;apply af;simp only[go_sem,iv];refine aw ?_;cases aa:cz d3[j+1]! d3[j]! with
   |true=>
    rw[aa]at hz;rw[Sort.insInner,SI (by simp[a7,aa])]at am;apply RG;simp only[go_sem,iv,hz];refine ax mixed [0,1,2,3,4,5,6,7,8,9,10,11,12,13,14,15,16,17] [9,13] [] rfl rfl ?_;apply af;simp only[go_sem,iv,p1];refine⟨by omega,?_⟩;refine P7 (l:=cj) (v:=.agg cj.toArray) rfl (cellsU ap (.tail _ (.head _)) (by simpa using kj)) (.inl ⟨by rw[lj];exact bT,rfl⟩) ?_;apply af;simp only[go_sem,iv,p1];refine⟨by omega,?_⟩;refine P7 (l:=cj1) (v:=.agg cj1.toArray) rfl (cellsU ap (.tail _ (.head _)) (by simpa using kj1)) (.inl ⟨by rw[lj1];exact bT,rfl⟩) ?_;apply af;simp only[go_sem,iv,p1];refine⟨by omega,?_⟩;have m1:(j+1+1)*7<=d.size*7:=Tb _ (by omega);refine aH ap rfl rfl rfl rfl rfl (aM (aW.ones rj)) (by rw[lj];exact fx) (by rw[lj];omega) fun bs=>?_;apply af;simp only[go_sem,iv,p1];refine⟨by omega,?_⟩;refine aH bs rfl rfl rfl rfl rfl (aM (aW.ones rj1)) (by rw[lj1];exact fx) (by rw[lj1];simp[aJ];omega) fun bd=>?_;refine aw ?_;apply RG;simp only[go_sem,iv,p1];exact ak j _ _ (by omega) (ae (by simp only[go_sem,Tq,iv])) (by simp only[go_sem,Tq,CH]) ⟨I4,_,_,rfl,bd,Ui an ac,by omega,by rw[cH];exact aS,a2 I4 ac,am⟩
   |false=>
    rw[aa]at hz;rw[Sort.insInner,Sb (by simp[aa])]at am;apply RG;simp only[go_sem,iv,hz];obtain⟨I5,A5,d5,e1,e2,e3⟩:=fin ac (br.le a3 ac) aS am;apply RG;simp only[go_sem,ba];exact aj (i+1) _ _ (by omega) (ae (by simp only[go_sem,Tq,iv])) (by simp only[go_sem,Tq,x6]) ⟨I5,A5,d5,e1,e2 ap,e3⟩
  ·have a4:decide ((j:Int)>(a:Int))=false:=Ug (by omega);have b0:d3=Sort.insInner cz a i d2:=by
    cases j with
    |zero=>exact am
    |succ j=>rw[Sort.insInner,Sb (by simp;omega)]at am;exact am
   apply RG;simp only[go_sem,iv];refine ax mixed [0,1,2,3,4,5,6,7,8,9,10,11,12,13,14,15,16] [8,13] [] rfl rfl ?_;apply af;simp only[go_sem,iv,a4];refine aw ?_;apply RG;simp only[go_sem,iv,ba];obtain⟨I5,A5,d5,e1,e2,e3⟩:=fin (Uj _) a3 aS b0;exact aj (i+1) _ _ (by omega) (ae (by simp only[go_sem,Tq,iv])) (by simp only[go_sem,Tq,x6]) ⟨I5,A5,d5,e1,e2 a0,e3⟩
 ·have a5:decide ((i:Int)<(b:Int))=false:=by simp;omega
  rw[Sort.insOuter,Sb (by omega)]at a1;apply RG;simp only[go_sem,a5,iv];exact eO rfl a6 (r:=[]) rfl ao ⟨A2,rfl,by rw[<-a1];exact a9⟩
theorem BY:aP Tryz.prog 283:=⟨_,Tryz.func283,rfl,rfl⟩
def xR(v va vb vc:Value)(i:Nat):St:=⟨dn 53 [(0,.v v),(1,.v va),(2,.v vb),(3,.v vc),(8,.v (iv i))],[]⟩
def BJ(v va vb vc:Value)(i:Nat)(j:Nat):St:=⟨dn 53 [(0,.v v),(1,.v va),(2,.v vb),(3,.v vc),(8,.v (iv i)),(9,.v (iv j))],[]⟩
theorem Lr{I A:PH}{v vc:Value}{d:Array bX}{a b:Nat}(hA:dl I A v d.toList)(hc:jT dg g9 vc)(hb:b<=d.size)(hn:d.size<=aF)(ha:a<=d.size):
  aO Tryz.prog 283 #[v,iv a,iv b,vc] I [A] fun _ I2 qs=>∃A2,qs=[A2]/\dl I2 A2 v (Sort.insertionSort g9 d a b).toList:=by
 intro hd;unfold aF at hn;obtain⟨f,first,cap,rfl,gf,cf⟩:=id hc;obtain⟨va,vk,rfl⟩:=Ow.one' hA;have w1:=wrap64 (n:=a+1) (by omega);have w1':IntKind.i64.wrap ((a:Int)+1)=((a+1:Nat):Int):=by rw[<-w1];congr 1
 refine Ot Tryz.func283 rfl fun w0=>?_;simp only[Tryz.ntmps283,iv];apply RG;simp only[go_sem,w1'];refine aB (fun i=>b-i) (xR (.slice va d.size vk) (iv a) (iv b) (.func (.func f) first cap)) (fun i H=>∃I2 A2 d2,H=U [I2,A2]/\Dj [I2,A2]/\I.le I2/\a+1<=i/\d2.size=d.size/\dl I2 A2 (.slice va d.size vk) d2.toList/\Sort.insOuter g9 a b i d2=Sort.insertionSort g9 d a b) (a+1) (ae (by simp only[go_sem,Tq,iv])) (by simp only[go_sem,Tq,xR]) ?_ ?_
 ·exact⟨I,A,d,rfl,hd,Uj _,R7 _,rfl,hA,rfl⟩
 rintro i H ⟨I2,A2,d2,rfl,a6,ao,b3,bb,a9,a1⟩ aj;simp only[xR];rcases Sw i b with bc|b2
 ·have a5:decide ((i:Int)<(b:Int))=true:=by simp;omega
  have e1:=wrap64 (n:=i+1) (by omega);have ba:IntKind.i64.wrap ((i:Int)+1)=((i+1:Nat):Int):=by rw[<-e1];congr 1
  rw[Sort.insOuter,SI bc]at a1;apply RG;simp only[go_sem,a5,iv];refine aB (fun j=>j) (BJ (.slice va d.size vk) (iv a) (iv b) (.func (.func f) first cap) i) (fun j H=>∃I3 A3 d3,H=U [I3,A3]/\Dj [I3,A3]/\I2.le I3/\j<=i/\d3.size=d.size/\dl I3 A3 (.slice va d.size vk) d3.toList/\Sort.insInner g9 a j d3=Sort.insInner g9 a i d2) i (ae (by simp only[go_sem,Tq,iv])) (by simp only[go_sem,Tq,BJ]) ?_ ?_
  ·exact⟨I2,A2,d2,rfl,a6,Uj _,R7 _,bb,a9,rfl⟩
  rintro j H ⟨I3,A3,d3,rfl,a0,an,b1,aS,a3,am⟩ ak;simp only[BJ];have fin:∀{I4 A4:PH} {d4:Array bX},I3.le I4->dl I4 A4 (.slice va d.size vk) d4.toList->d4.size=d.size->d4=Sort.insInner g9 a i d2->∃I5 A5 d5,U [I4,A4]=U [I5,A5]/\(Dj [I4,A4]->Dj [I5,A5])/\I.le I5/\a+1<=i+1/\d5.size=d.size/\dl I5 A5 (.slice va d.size vk) d5.toList/\Sort.insOuter g9 a b (i+1) d5=Sort.insertionSort g9 d a b:=fun h1 h2 h3 h4=>⟨_,_,_,rfl,id,Ui ao (Ui an h1),by omega,h3,h2,by rw[h4];exact a1⟩;rcases Sw a j with a7|a7
  ·obtain⟨j,rfl⟩:∃j',j=j'+1:=⟨j-1,by omega⟩;have a4:decide (((j+1:Nat):Int)>(a:Int))=true:=Uh (by omega);have p1:=jM (j:=j) (by omega);obtain⟨g,cp,cur,cj1,cj,ev,rfl,bx,rj1,rj,lj1,lj,kj1,kj,a2⟩:=Ow.two a3 (fun{I} c a h=>dg.len c a h) (fun{I J c a} h k=>dg.le h k) (i:=j+1) (j:=j) (by omega) (by omega);rw[aS]at ev bx;cases ev
   apply RG;simp only[go_sem,iv];refine ax mixed [0,1,2,3,4,5,6,7,8,9,10,11,12,13,14,15,16] [8,13] [] rfl rfl ?_;apply af;simp only[go_sem,iv,a4,p1];refine⟨by omega,?_⟩;refine P7 (l:=cj1) (v:=.agg cj1.toArray) rfl (cellsU a0 (.tail _ (.head _)) (by simpa using kj1)) (.inl ⟨by rw[lj1];exact iQ,rfl⟩) ?_;apply af;simp only[go_sem,iv,p1];refine⟨by omega,?_⟩;refine P7 (l:=cj) (v:=.agg cj.toArray) rfl (cellsU a0 (.tail _ (.head _)) (by simpa using kj)) (.inl ⟨by rw[lj];exact iQ,rfl⟩) ?_;apply af;simp only[go_sem,iv,p1];refine Og a0 [0] rfl (fun h=>by cases h) rfl gf (by rfl) (ps:=[]) (F:=[_]) rfl (cf I3 _ _ _ _ rj1 rj) fun v I4 qs ap ac hq=>?_;obtain⟨rfl,z,rfl,hz⟩:=hq;simp only[Z3]at ap |-;apply af;simp only[go_sem,iv];refine aw ?_;cases aa:g9 d3[j+1]! d3[j]! with
   |true=>
    rw[aa]at hz;rw[Sort.insInner,SI (by simp[a7,aa])]at am;apply RG;simp only[go_sem,iv,hz];refine ax mixed [0,1,2,3,4,5,6,7,8,9,10,11,12,13,14,15,16,17] [9,13] [] rfl rfl ?_;apply af;simp only[go_sem,iv,p1];refine⟨by omega,?_⟩;refine P7 (l:=cj) (v:=.agg cj.toArray) rfl (cellsU ap (.tail _ (.head _)) (by simpa using kj)) (.inl ⟨by rw[lj];exact iQ,rfl⟩) ?_;apply af;simp only[go_sem,iv,p1];refine⟨by omega,?_⟩;refine P7 (l:=cj1) (v:=.agg cj1.toArray) rfl (cellsU ap (.tail _ (.head _)) (by simpa using kj1)) (.inl ⟨by rw[lj1];exact iQ,rfl⟩) ?_;apply af;simp only[go_sem,iv,p1];refine⟨by omega,?_⟩;have m1:(j+1+1)*4<=d.size*4:=Tb _ (by omega);refine aH ap rfl rfl rfl rfl rfl (aM (dg.ones rj)) (by rw[lj];exact um) (by rw[lj];omega) fun bs=>?_;apply af;simp only[go_sem,iv,p1];refine⟨by omega,?_⟩;refine aH bs rfl rfl rfl rfl rfl (aM (dg.ones rj1)) (by rw[lj1];exact um) (by rw[lj1];simp[aJ];omega) fun bd=>?_;refine aw ?_;apply RG;simp only[go_sem,iv,p1];exact ak j _ _ (by omega) (ae (by simp only[go_sem,Tq,iv])) (by simp only[go_sem,Tq,BJ]) ⟨I4,_,_,rfl,bd,Ui an ac,by omega,by rw[cH];exact aS,a2 I4 ac,am⟩
   |false=>
    rw[aa]at hz;rw[Sort.insInner,Sb (by simp[aa])]at am;apply RG;simp only[go_sem,iv,hz];obtain⟨I5,A5,d5,e1,e2,e3⟩:=fin ac (dl.le a3 ac) aS am;apply RG;simp only[go_sem,ba];exact aj (i+1) _ _ (by omega) (ae (by simp only[go_sem,Tq,iv])) (by simp only[go_sem,Tq,xR]) ⟨I5,A5,d5,e1,e2 ap,e3⟩
  ·have a4:decide ((j:Int)>(a:Int))=false:=Ug (by omega);have b0:d3=Sort.insInner g9 a i d2:=by
    cases j with
    |zero=>exact am
    |succ j=>rw[Sort.insInner,Sb (by simp;omega)]at am;exact am
   apply RG;simp only[go_sem,iv];refine ax mixed [0,1,2,3,4,5,6,7,8,9,10,11,12,13,14,15,16] [8,13] [] rfl rfl ?_;apply af;simp only[go_sem,iv,a4];refine aw ?_;apply RG;simp only[go_sem,iv,ba];obtain⟨I5,A5,d5,e1,e2,e3⟩:=fin (Uj _) a3 aS b0;exact aj (i+1) _ _ (by omega) (ae (by simp only[go_sem,Tq,iv])) (by simp only[go_sem,Tq,xR]) ⟨I5,A5,d5,e1,e2 a0,e3⟩
 ·have a5:decide ((i:Int)<(b:Int))=false:=by simp;omega
  rw[Sort.insOuter,Sb (by omega)]at a1;apply RG;simp only[go_sem,a5,iv];exact eO rfl a6 (r:=[]) rfl ao ⟨A2,rfl,by rw[<-a1];exact a9⟩
theorem K9:aP Tryz.prog 36:=⟨_,Tryz.func36,rfl,rfl⟩
theorem LJ:aP Tryz.prog 88:=⟨_,Tryz.func88,rfl,rfl⟩
theorem Br:aP Tryz.prog 159:=⟨_,Tryz.func159,rfl,rfl⟩
theorem LV:aP Tryz.prog 87:=⟨_,Tryz.func87,rfl,rfl⟩
theorem Gs:aP Tryz.prog 33:=⟨_,Tryz.func33,rfl,rfl⟩
def Oq(a:Option Addr)(k:Nat)(t:T)(c:Nat)(u:T):St:=⟨dn 29 [(1,.v (.int .u32 c)),(2,.p 2 0),(5,.v (iv (T.plc (T.subs t) u)))],[⟨2,50,[sD a k t,rD t]⟩]⟩
theorem OP{H:PH}{v:Value}{t:T}{c:Nat}(h:cu H v t)(hc:c<2^32):bv Tryz.prog 36 #[v,.int .u32 c] H fun r H2=>r=.bool (t.at' (dW c))/\H2=H:=by
 obtain⟨ak,sl,rfl,hL⟩:=h;obtain⟨a,k,rfl,am⟩:=hL;have sq:T.Seq (T.subs t):=(T.vis_spec t ak (by omega) [] T.Seq.nil).1;have ao:(T.subs t).length+1<=2^24:=by
  obtain⟨us,e1,e2,_⟩:=(T.vis_spec t ak (by omega) [] T.Seq.nil).2.2;rw[SU]at e1;show (t.vis []).length+1<=_;rw[e1];exact e2
 have ap:T.isIn (T.subs t) t:=T.subs_in ak;refine Ot Tryz.func36 rfl fun w0=>?_;simp only[Tryz.ntmps36,iv];apply RG;simp only[go_sem];refine aB (fun u=>u.sz) (Oq a k t c) (fun u H2=>H2=H/\T.isIn (T.subs t) u/\u.at' (dW c)=t.at' (dW c)) t (ae (by simp only[go_sem,Tq,iv])) (by simp only[go_sem,Tq,Oq,iv,sD,rD]) ⟨rfl,ap,rfl⟩ ?_;rintro u H2 ⟨rfl,hu,he⟩ ac;simp only[Oq];cases u with
 |lf b=>
  have an:decide (((T.plc (T.subs t) (.lf b):Nat):Int)>1)=false:=by cases b<;>simp[T.plc]
  have a1:(((T.plc (T.subs t) (.lf b):Nat):Int) == 1)=b:=by cases b<;>simp[T.plc]
  apply RG;simp only[go_sem,iv,an,a1];exact aK (r:=[_]) rfl ⟨by rw[<-he];rfl,rfl⟩
 |nd i l r=>
  have hm:T.nd i l r∈T.subs t:=hu;have a4:=Tw hm;have hp:T.plc (T.subs t) (.nd i l r)=(T.subs t).idxOf (.nd i l r)+2:=rfl;have an:decide (((T.plc (T.subs t) (.nd i l r):Nat):Int)>1)=true:=by rw[hp];simp;omega
  have a2:IntKind.i64.wrap (((T.plc (T.subs t) (.nd i l r):Nat):Int)-2)=(((T.subs t).idxOf (.nd i l r):Nat):Int):=by
   rw[<-wrap64 (n:=(T.subs t).idxOf (.nd i l r)) (by omega),hp];congr 1;omega
  obtain⟨kl,kr⟩:=sq.kids hm;have aS:i<24:=(sq.okk hu).2.1;have a0:T.dec (T.subs t) (.nd i l r)=(i,T.plc (T.subs t) l,T.plc (T.subs t) r):=rfl;rcases am with h0|⟨b,rfl,am⟩
  ·rw[h0]at hm;simp at hm
  apply RG;simp only[go_sem,iv,sD,rD,an,a2];refine⟨by omega,?_⟩;have hg:=T.plc_get hm;rw[hp,Tx]at hg;have a3:(BD (T.subs t)).length=(T.subs t).length*3:=oG _;have aj:=am.sub ((T.subs t).idxOf (.nd i l r)*3) 3 (by omega);rw[oJ hg,Sf,a0]at aj;refine Qz (l:=lm (i,T.plc (T.subs t) l,T.plc (T.subs t) r)) (v:=fG (i,T.plc (T.subs t) l,T.plc (T.subs t) r)) rfl aj (.inl ⟨ti,rfl⟩) ?_;have hs:qN .u32 (qj .u32 (c:Int) (i:Int)) 1=((((c >>> i)&&&1:Nat)):Int):=by
   rw[Cy (by omega)];exact jY (b:=1) (vX hc) (by omega)
  have aa:=FV c i;cases hb:c.testBit i
  ·rw[hb]at aa;apply RG;simp only[go_sem,iv,sD,rD,fG,TP,hs,aa];refine ac l _ _ ?_ (ae (by simp only[go_sem,Tq,iv])) (by simp only[go_sem,Tq,Oq,iv,sD,rD]) ⟨rfl,kl,?_⟩
   ·simp only[T.sz];omega
   ·rw[<-he];simp[T.at',dW,hb]
  ·rw[hb]at aa;apply RG;simp only[go_sem,iv,sD,rD,fG,TP,hs,aa];refine ac r _ _ ?_ (ae (by simp only[go_sem,Tq,iv])) (by simp only[go_sem,Tq,Oq,iv,sD,rD]) ⟨rfl,kr,?_⟩
   ·simp only[T.sz];omega
   ·rw[<-he];simp[T.at',dW,hb]
def sZ(I0:PH)(vf:Value)(g:T->T):Prop:=∃fid first cap,vf=.func (.func fid) first cap/\aP Tryz.prog fid/\∀{I:PH} {v:Value} {d:T},I0.le I->cu I v d->aO Tryz.prog fid (first++#[v]++cap) I [] fun r I2 qs=>qs=[]/\cu I2 r (g d)
theorem sZ.le{I J:PH}{vf:Value}{g:T->T}(h:sZ I vf g)(k:I.le J):sZ J vf g:=by
 obtain⟨fid,first,cap,e,hg,hd⟩:=h;exact⟨fid,first,cap,e,hg,fun k2 hr=>hd (Ui k k2) hr⟩
def GV(c:Nat)(d:T):T:=.lf (d.at' (dW c))
theorem Fj(I:PH):cu I (.agg #[.slice none 0 0,iv 1]) (.lf true):=jP I true
theorem Ll(I:PH):cu I (.agg #[.slice none 0 0,iv 0]) (.lf false):=jP I false
theorem HI{I0:PH}{cb c:Nat}(hb:aQ I0 cb 0 [.int .u32 c])(hc:c<2^32):sZ I0 (.func (.func 88) #[] #[pt cb]) (GV c):=by
 refine⟨88,#[],#[pt cb],rfl,LJ,fun{I v d} ac hr hd=>?_⟩;obtain⟨a,k,rfl⟩:=hr.shape2;show bv Tryz.prog 88 #[.agg #[sD a k d,rD d],pt cb] _ _;refine Ot Tryz.func88 rfl fun w0=>?_;simp only[Tryz.ntmps88,iv,pt,sD,rD];apply RG;simp only[go_sem];refine Qz (l:=[.int .u32 c]) rfl (cellsU hd (.head _) (hb.le ac)) (.inr ⟨qZ,rfl⟩) ?_;apply RG;simp only[go_sem];refine Pf rfl K9 (OP (hr.le (cD hd)) hc) fun v H2 hv=>?_;obtain⟨rfl,rfl⟩:=hv;cases aa:d.at' (dW c)
 ·apply RG;simp only[go_sem];refine Pf rfl sV (oH _) fun v H2 hv=>?_;obtain⟨rfl,rfl⟩:=hv;apply RG;simp only[go_sem,iv];exact ai rfl hd (r:=[.agg #[.slice none 0 0,.int .i64 0]]) (by simp only[Tryz.results88,go_sem,iv]) (Uj _) ⟨rfl,by unfold GV;rw[aa];exact Ll I⟩
 ·apply RG;simp only[go_sem];refine Pf rfl Bd (Bo _) fun v H2 hv=>?_;obtain⟨rfl,rfl⟩:=hv;apply RG;simp only[go_sem,iv];exact ai rfl hd (r:=[.agg #[.slice none 0 0,.int .i64 1]]) (by simp only[Tryz.results88,go_sem,iv]) (Uj _) ⟨rfl,by unfold GV;rw[aa];exact Fj I⟩
structure N5(g:T->T)(F:List Nd->List Nd):Prop where
 nil:F []=[]
 app:∀a b,F (a++b)=F a++F b
 one:∀n:Nd,F [n]=if g n.cond=ff then []else [{ n with kids:=F n.kids,cond:=g n.cond }]
theorem N5.take_le{g:T->T}{F:List Nd->List Nd}(h:N5 g F)(i:Nat)(l:List Nd):cK (F (l.take i))<=cK (F l):=by
 conv=>rhs;rw[<-TL i l]
 rw[h.app,fB];omega
theorem PJ(c:Nat):N5 (GV c) (pL (dW c)):=by
 refine⟨rfl,dO _,fun n=>?_⟩;rw[eJ];unfold GV;cases n.cond.at' (dW c)<;>simp
def N7(vf vl:Value)(n:Nat)(x:Nat×Value):St:=⟨dn 34 [(1,.v vf),(5,.v x.2),(8,.v vl),(9,.v (iv n)),(10,.v (iv x.1))],[]⟩
def Rm(F:List Nd->List Nd)(l:List Nd)(I0:PH)(x:Nat×Value)(H:PH):Prop:=∃I A,H=U [I,A]/\Dj [I,A]/\I0.le I/\x.1<=l.length/\br I A x.2 (F (l.take x.1))
theorem Do{g:T->T}{F:List Nd->List Nd}(hF:N5 g F):∀(m:Nat) {I:PH} {v vf:Value} {l:List Nd},cK l<m->db I v l->oU v->sZ I vf g->cK (F l)<=aF->
  aO Tryz.prog 159 #[v,vf] I [] fun r I2 qs=>∃A,qs=[A]/\br I2 A r (F l):=by
 intro m
 induction m with
 |zero=>intro I v vf l hm;omega
 |succ m ih=>
 intro I v vf l hm hS hC hG hz hd;obtain⟨va,vc,rfl,_⟩:=id hS;obtain⟨fid,first,cap,rfl,b1,b3⟩:=id hG;unfold aF at hz;refine Ot Tryz.func159 rfl fun w0=>?_;simp only[Tryz.ntmps159,iv];apply RG;simp only[go_sem];refine aT hd fun b6=>?_;refine aB (fun x=>l.length-x.1) (N7 (.func (.func fid) first cap) (.slice va l.length vc) l.length) (Rm F l I) (0,.slice none 0 0) (ae (by simp only[go_sem,Tq,iv])) (by simp only[go_sem,Tq,N7]) ?_ ?_
 ·exact⟨I,PH.no,rfl,b6,Uj _,S6 _,by rw[TV,hF.nil];exact Ow.nil _ _ _ _⟩
 rintro⟨i,vo⟩ H ⟨I1,A1,rfl,a9,ac,hi,hA⟩ aj;simp only at hi hA;simp only[N7];obtain⟨oa,oc,rfl⟩:=hA.shape;rcases Sw i l.length with ap|cn
 ·have bb:decide ((i:Int)<(l.length:Int))=true:=by simp;omega
  have bs:=rJ hC ap;obtain⟨n,hn⟩:∃n,l[i]?=some n:=⟨_,SC ap⟩;obtain⟨b,off,cs,rfl,ca,ao⟩:=Sl.load aW.len (db.le hS ac) hn;obtain⟨vk,na,nk,rfl,a3,ak,ba⟩:=ca.shape;obtain⟨ka,kc,rfl,_⟩:=id ak;have cl:=oE (Tg hn);have a2:=hF.take_le (i+1) l;rw[cv hn,hF.app,fB]at a2;have cm:=gw (F (l.take i));apply RG;simp only[go_sem,bb,iv,sD,rD];refine⟨by omega,?_⟩;refine Qz (l:=[.int .u8 n.kind,.string ⟨⟨n.text⟩⟩,.int .i64 n.tok,.int .i64 n.slot,.slice ka n.kids.length kc,sD na nk n.cond,rD n.cond]) (v:=.agg #[.int .u8 n.kind,.string ⟨⟨n.text⟩⟩,.int .i64 n.tok,.int .i64 n.slot,.slice ka n.kids.length kc,sD na nk n.cond,rD n.cond]) rfl (cellsU a9 (.head _) ao) (.inl ⟨bT,rfl⟩) ?_;apply RG;simp only[go_sem,iv,sD,rD];refine NB a9 [0] rfl b1 (by rfl) (ps:=[]) (F:=[A1]) rfl (b3 ac a3) fun v I3 qs a7 aa hq=>?_;obtain⟨rfl,a4⟩:=hq;obtain⟨za,zk,rfl⟩:=a4.shape2;simp only[Z3]at a7 |-;apply RG;simp only[go_sem,iv,sD,rD];refine Pf rfl gK (fq a4) fun v H2 hv=>?_;obtain⟨rfl,rfl⟩:=hv;cases aS:decide (g n.cond=.lf false)
  ·have bc:g n.cond≠ff:=by simpa using aS
   rw[hF.one,Sb bc,a8,cR]at a2;simp only at a2;apply RG;simp only[go_sem,iv,sD,rD,aS,T7];refine NB a7 [0] rfl Br (by rfl) (ps:=[]) (F:=[A1]) rfl (ih (l:=n.kids) (by omega) (db.le ak aa) ba (sZ.le hG (Ui ac aa)) (by unfold aF;omega)) fun v I4 qs bd a6 hq=>?_;obtain⟨K,rfl,hK⟩:=hq;simp only[Z3]at bd |-;obtain⟨qa,qc,rfl⟩:=hK.shape;have cf:=hK.capN aW.len;refine ab bd [0,1] rfl fun a0=>?_;simp only[Z4]at a0 |-;refine ag a0 fun I5 a0 an ci=>?_;have cc:db I5 (.slice qa (F n.kids).length qc) (F n.kids):=br.sl hK an ci;apply RG;simp only[go_sem,iv,sD,rD];refine av a0 (by exact cT) rfl rfl rfl rfl rfl (by decide) fun nb I6 b5 am b0=>?_;have a1:=Ui a6 (Ui an am);have cb:db I6 (.slice (some ⟨nb,0,none⟩) 1 1) [{ n with kids:=F n.kids,cond:=g n.cond }]:=fT (az b0 (by simp[aE,Value.cells]) (by simp[aE,Value.cells,iv,sD,rD])) (aW.mk (n:={ n with kids:=F n.kids,cond:=g n.cond }) (a4.le a1) (db.le cc am) cf);apply RG;simp only[go_sem,iv,sD,rD];refine aY b5 (by exact cT) (br.le hA (Ui aa a1)) (cb) (fun{I J c a} h k=>aW.le h k) (fun{I} c a h=>aW.len c a h) (fun{I} c a h=>aW.ones h) rfl rfl rfl rfl (by first|omega|(simp only[SB,S9];omega)) (by unfold maxLen;first|omega|(simp only[SB,S9];omega)) fun ua uc I7 A7 b4 a5 cj=>?_;apply RG;simp only[go_sem,iv,sD,rD,bs];have bx:=Ui ac (Ui aa (Ui a1 a5))
   exact aj (i+1,.slice ua (F (l.take i)++[{ n with kids:=F n.kids,cond:=g n.cond }]).length uc) _ _ (by simp only;omega) (ae (by simp only[go_sem,Tq,iv,sD,rD])) (by simp only[go_sem,Tq,N7,iv,sD,rD]) ⟨I7,A7,rfl,b4,bx,ap,by simp only;rw[cv hn,hF.app,hF.one,Sb bc];exact cj⟩
  ·have b2:g n.cond=ff:=by simpa using aS
   apply RG;simp only[go_sem,iv,sD,rD,aS,Ud,bs];exact aj (i+1,.slice oa (F (l.take i)).length oc) _ _ (by simp only;omega) (ae (by simp only[go_sem,Tq,iv,sD,rD])) (by simp only[go_sem,Tq,N7,iv,sD,rD]) ⟨I3,A1,rfl,a7,Ui ac aa,ap,by simp only;rw[cv hn,hF.app,hF.one,SI b2,Tq];exact br.le hA aa⟩
 ·have:i=l.length:=by omega
  subst this;have bb:=Z6 l.length;apply RG;simp only[go_sem,bb,iv,sD,rD];exact ai rfl a9 (r:=[_]) rfl ac ⟨A1,rfl,by rw[Td]at hA |-;exact hA⟩
def zW(I:PH)(v:Value)(t:Tr):Prop:=∃vk vd,v=.agg #[vk,vd]/\db I vk t.kids/\oU vk/\Sl dg I vd t.diags/\oU vd
theorem SlE.le{I J:PH}{v:Value}{l:List bX}(h:Sl dg I v l)(k:I.le J):Sl dg J v l:=Sl.le (R:=dg) (fun{I J c a} h k=>dg.le h k) h k
theorem zW.le{I J:PH}{v:Value}{t:Tr}(h:zW I v t)(k:I.le J):zW J v t:=by
 obtain⟨vk,vd,e,h1,h2,h3,h4⟩:=h;exact⟨vk,vd,e,db.le h1 k,h2,SlE.le h3 k,h4⟩
def wy(g:T->T)(e:List bX):List bX:=e.flatMap fun d=>if g d.cond=ff then []else [{ d with cond:=g d.cond }]
theorem Iv(g:T->T)(a b:List bX):wy g (a++b)=wy g a++wy g b:=by simp[wy]
theorem Cz(g:T->T):∀e,(wy g e).length<=e.length
 | []=>R7 _
 |d::e=>by
  have:=Cz g e;have h:wy g (d::e)=(if g d.cond=ff then []else [{ d with cond:=g d.cond }])++wy g e:=rfl;rw[h];split<;>simp<;>omega
theorem LX(c:Nat)(e:List bX):wy (GV c) e=JP (dW c) e:=by
 induction e with
 |nil=>rfl
 |cons d e ih=>
  have h:wy (GV c) (d::e)=(if GV c d.cond=ff then []else [{ d with cond:=GV c d.cond }])++wy (GV c) e:=rfl;rw[h,ih];unfold JP GV;cases hd:d.cond.at' (dW c)<;>simp[TU,hd]
theorem dl.sl{I J A:PH}{v:Value}{l:List bX}(h:dl I A v l)(h1:I.le J)(h2:A.le J):Sl dg J v l:=Ow.sl (R:=dg) (fun{I J c a} h k=>dg.le h k) h h1 h2
def O0(vf vk vd vk2 vl:Value)(n:Nat)(x:Nat×Value):St:=⟨dn 37 [(1,.v vf),(4,.p 4 0),(5,.p 5 0),(14,.v vl),(15,.v (iv n)),(16,.v (iv x.1))],[⟨4,36,[.slice none 0 0,.slice none 0 0]⟩,⟨5,36,[vk2,x.2]⟩]⟩
def RV(g:T->T)(l:List bX)(I0:PH)(x:Nat×Value)(H:PH):Prop:=∃I A,H=U [I,A]/\Dj [I,A]/\I0.le I/\x.1<=l.length/\dl I A x.2 (wy g (l.take x.1))
theorem NO{g:T->T}{F:List Nd->List Nd}(hF:N5 g F){I:PH}{v vf:Value}{t:Tr}(hT:zW I v t)(hG:sZ I vf g)(hz:cK (F t.kids)<=aF)(b1:t.diags.length<=aF):
  aO Tryz.prog 87 #[v,vf] I [] fun r I2 qs=>qs=[]/\zW I2 r ⟨F t.kids,wy g t.diags⟩:=by
 obtain⟨vk,vd,rfl,hK,cm,hD,cp⟩:=hT;obtain⟨fid,first,cap,rfl,b5,ca⟩:=id hG;obtain⟨ka,kc,rfl,_⟩:=id hK;obtain⟨da,dc,rfl,_⟩:=id hD;have a4:=b1;unfold aF at a4;intro hd;refine Ot Tryz.func87 rfl fun w0=>?_;simp only[Tryz.ntmps87,iv];apply RG;simp only[go_sem];refine NB hd [] rfl Br (by rfl) (ps:=[]) (F:=[]) rfl (Do hF (cK t.kids+1) (Tv _) hK cm hG hz) fun v1 I1 qs bs a9 hq=>?_;obtain⟨K,rfl,bb⟩:=hq;simp only[Z3]at bs |-;obtain⟨qa,qc,rfl⟩:=bb.shape;have hK1c:=bb.capN aW.len;refine ab bs [0] rfl fun a2=>?_;simp only[Z4]at a2 |-;refine ag a2 fun I2 a2 ap cl=>?_;have cn:db I2 (.slice qa (F t.kids).length qc) (F t.kids):=br.sl bb ap cl;have a3:=Ui a9 ap;apply RG;simp only[go_sem];refine aT a2 fun cf=>?_;refine aB (fun x=>t.diags.length-x.1) (O0 (.func (.func fid) first cap) (.slice ka t.kids.length kc) (.slice da t.diags.length dc) (.slice qa (F t.kids).length qc) (.slice da t.diags.length dc) t.diags.length) (RV g t.diags I2) (0,.slice none 0 0) (ae (by simp only[go_sem,Tq,iv])) (by simp only[go_sem,Tq,O0]) ?_ ?_
 ·exact⟨I2,PH.no,rfl,cf,Uj _,S6 _,Ow.nil _ _ _ _⟩
 rintro⟨i,vo⟩ H ⟨I3,A3,rfl,ba,aa,hi,hA⟩ ak;simp only at hi hA;simp only[O0];obtain⟨oa,oc,rfl⟩:=hA.shape;rcases Sw i t.diags.length with a0|cy
 ·have bc:decide ((i:Int)<(t.diags.length:Int))=true:=by simp;omega
  have bx:=rJ cp a0;obtain⟨d,bd⟩:∃d,t.diags[i]?=some d:=⟨_,SC a0⟩;obtain⟨b,off,cs,rfl,ci,aS⟩:=Sl.load dg.len (SlE.le hD (Ui a3 aa)) bd;obtain⟨na,nk,rfl,a5⟩:=id ci;have b2:=Cz g (t.diags.take i);rw[T1]at b2;have ac:wy g (t.diags.take (i+1))=wy g (t.diags.take i)++(if g d.cond=ff then []else [{ d with cond:=g d.cond }]):=by
   rw[cv bd,Iv];simp[wy]
  apply RG;simp only[go_sem,bc,iv,sD,rD];refine⟨by omega,?_⟩;refine Qz (l:=[.int .u8 d.code,.int .i64 d.tok,sD na nk d.cond,rD d.cond]) (v:=.agg #[.int .u8 d.code,.int .i64 d.tok,sD na nk d.cond,rD d.cond]) rfl (cellsU ba (.head _) aS) (.inl ⟨iQ,rfl⟩) ?_;apply RG;simp only[go_sem,iv,sD,rD];refine NB ba [0] rfl b5 (by rfl) (ps:=[]) (F:=[A3]) rfl (ca (Ui a3 aa) a5) fun v I4 qs am aj hq=>?_;obtain⟨rfl,a6⟩:=hq;obtain⟨za,zk,rfl⟩:=a6.shape2;simp only[Z3]at am |-;apply RG;simp only[go_sem,iv,sD,rD];refine Pf rfl gK (fq a6) fun v H2 hv=>?_;obtain⟨rfl,rfl⟩:=hv;cases a1:decide (g d.cond=.lf false)
  ·have b3:g d.cond≠ff:=by simpa using a1
   rw[Sb b3]at ac;apply RG;simp only[go_sem,iv,sD,rD,a1,T7];refine av am (by exact qR) rfl rfl rfl rfl rfl (by decide) fun nb I6 cc an b4=>?_;have cj:Sl dg I6 (.slice (some ⟨nb,0,none⟩) 1 1) [{ d with cond:=g d.cond }]:=⟨_,_,rfl,.inr ⟨nb,0,_,rfl,az b4 (by simp[aE,Value.cells]) (by simp[aE,Value.cells,iv,sD,rD]),.one ⟨za,zk,rfl,a6.le an⟩⟩⟩;apply RG;simp only[go_sem,iv,sD,rD];refine aY (R:=dg) (xs:=wy g (t.diags.take i)) (ys:=[{ d with cond:=g d.cond }]) cc (by exact qR) (dl.le hA (Ui aj an)) cj (fun{I J c a} h k=>dg.le h k) (fun{I} c a h=>dg.len c a h) (fun{I} c a h=>dg.ones h) rfl rfl rfl rfl (by simp only[SB,S9];omega) (by simp only[SB,S9];unfold maxLen;omega) fun ua uc I7 A7 cb a7 cx=>?_;apply RG;simp only[go_sem,iv,sD,rD,bx];have b0:=Ui aj (Ui an a7);exact ak (i+1,.slice ua (wy g (t.diags.take i)++[{ d with cond:=g d.cond }]).length uc) _ _ (by simp only;omega) (ae (by simp only[go_sem,Tq,iv,sD,rD])) (by simp only[go_sem,Tq,O0,iv,sD,rD]) ⟨I7,A7,rfl,cb,Ui aa b0,a0,by simp only;rw[ac];exact cx⟩
  ·have b6:g d.cond=ff:=by simpa using a1
   rw[SI b6,Tq]at ac;apply RG;simp only[go_sem,iv,sD,rD,a1,Ud,bx];exact ak (i+1,.slice oa (wy g (t.diags.take i)).length oc) _ _ (by simp only;omega) (ae (by simp only[go_sem,Tq,iv,sD,rD])) (by simp only[go_sem,Tq,O0,iv,sD,rD]) ⟨I4,A3,rfl,am,Ui aa aj,a0,by simp only;rw[ac];exact dl.le hA aj⟩
 ·have:i=t.diags.length:=by omega
  subst this;have bc:=Z6 t.diags.length;rw[Td]at hA |-;have ct:=Ow.capN (R:=dg) hA (fun c a h=>dg.len c a h);refine ab ba [0] rfl fun am=>?_;simp only[Z4]at am |-;refine ag (c:=.st _) am fun I5 am ao cr=>?_;apply RG;simp only[go_sem,bc,iv,sD,rD];exact ai rfl am (r:=[.agg #[.slice qa (F t.kids).length qc,.slice oa (wy g t.diags).length oc]]) (by simp only[Tryz.results87,go_sem,iv]) (Ui a3 (Ui aa ao)) ⟨rfl,_,_,rfl,db.le cn (Ui aa ao),hK1c,dl.sl hA ao cr,ct⟩
theorem vU{I:PH}{v:Value}{t:Tr}{c:Nat}(hT:zW I v t)(hc:c<2^32)(hz:cK t.kids<=aF)(ak:t.diags.length<=aF):aO Tryz.prog 33 #[v,.int .u32 c] I [] fun r I2 qs=>qs=[]/\zW I2 r (prj (dW c) t):=by
 obtain⟨vk,vd,rfl,hK,ap,hD,aS⟩:=id hT;intro hd;refine Ot Tryz.func33 rfl fun w0=>?_;simp only[Tryz.ntmps33,iv];apply bq 6;simp only[go_sem];refine eP 3 hd rfl fun cb an=>?_;refine ag (c:=.st _) an fun I2 am aa ao=>?_;have hb:aQ I2 cb 0 [.int .u32 c]:=(aU (by simp) rfl:aQ (sg cb (.cells [.int .u32 c].toArray 23 (0,0))) cb 0 [.int .u32 c]).le ao;apply RG;simp only[go_sem,kE,List.map,pt];refine NB am [] rfl LV (by rfl) (ps:=[]) (F:=[]) rfl (NO (PJ c) (hT.le aa) (HI hb hc) (R8 (vY _ _) hz) ak) fun v1 I4 qs aj ac hq=>?_;obtain⟨rfl,hr⟩:=hq;simp only[Z3]at aj |-;obtain⟨wk,wd,rfl,h1,h2,h3,h4⟩:=hr;rw[LX]at h3;obtain⟨xa,xc,rfl,_⟩:=id h1;obtain⟨ya,yc,rfl,_⟩:=id h3;apply RG;simp only[go_sem];exact ai rfl aj (r:=[.agg #[.slice xa (pL (dW c) t.kids).length xc,.slice ya (JP (dW c) t.diags).length yc]]) (by simp only[Tryz.results33,go_sem]) (Ui aa ac) ⟨rfl,_,_,rfl,h1,h2,h3,h4⟩
end Go.Proofs.YtfaclfkpnmcmlaaGreatDoor
namespace Syn
open Dg
mutual
def ON:Nd->Prop
 |⟨k,x,t,s,ks,_⟩=>(k<256/\-4611686018427387904<=t/\t<4611686018427387904/\-4611686018427387904<=s/\s<4611686018427387904/\x.length<4611686018427387904)/\kG ks
def kG:List Nd->Prop
 | []=>True
 |n::l=>ON n/\kG l
end
theorem iL{l:List Nd}:kG l<->∀n∈l,ON n:=by
 induction l with
 |nil=>simp[kG]
 |cons n l ih=>simp[kG,ih]
theorem mH{n:Nd}:ON n<->(n.kind<256/\-4611686018427387904<=n.tok/\n.tok<4611686018427387904/\-4611686018427387904<=n.slot/\n.slot<4611686018427387904/\n.text.length<4611686018427387904)/\kG n.kids:=by cases n;rfl
theorem rL{a b:List Nd}:kG (a++b)<->kG a/\kG b:=by
 simp only[iL,Ti];exact⟨fun h=>⟨fun n hn=>h n (.inl hn),fun n hn=>h n (.inr hn)⟩,fun h n hn=>hn.elim (h.1 n) (h.2 n)⟩
theorem dS{l ks:List Nd}(h:kG l)(hk:kG ks):kG (give l ks):=iL.2 fun n hn=>by
 obtain⟨m,hm,rfl⟩:=List.mem_map.1 hn;have:=mH.1 (iL.1 h m hm);exact mH.2 ⟨this.1,rL.2 ⟨this.2,hk⟩⟩
theorem DS{l:List Nd}(h:kG l):kG (ow l):=iL.2 fun n hn=>by
 obtain⟨m,hm,rfl⟩:=List.mem_map.1 hn;obtain⟨⟨a,b,c,_,_,g⟩,k⟩:=mH.1 (iL.1 h m hm);exact mH.2 ⟨⟨a,b,c,by show (-4611686018427387904:Int)<=0;omega,by show (0:Int)<_;omega,g⟩,k⟩
theorem gZ{k:Nat}{t:bM}{i s N:Nat}{ks:List Nd}{d:T}(ht:t.length<4611686018427387904)(hk:k<256)(hi:i<N)(hN:N<=16384)(hs:s<=2)(h:kG ks):kG [⟨k,t,(i:Int),(s:Int),ks,d⟩]:=
 ⟨⟨⟨hk,by omega,by omega,by omega,by omega,ht⟩,h⟩,trivial⟩
section
variable {c:cg} {ts:List Tok} (hN:ts.length<=16384) (hX:∀i,(X ts i).length<4611686018427387904)
include hN hX
theorem mz(p:Option Nat){kind slot:Nat}(hk:kind<256)(hs:slot<=2):kG (bC ts c p kind slot).l:=by
 unfold bC;cases p.map (nx c ts)with
 |none=>trivial
 |some i=>
  simp only;split
  ·trivial
  ·rename_i h;exact gZ (by first|exact hX _|(show (0:Nat)<_;decide)) hk (DJ fun h2=>h (.inl (by rw[h2];decide))) hN hs trivial
theorem sA(p:Option Nat){slot:Nat}(hs:slot<=2):kG (gE ts c p slot).l:=by
 unfold gE;cases p.map (nx c ts)with
 |none=>trivial
 |some i=>
  simp only;split
  ·trivial
  ·rename_i h;exact gZ (by first|exact hX _|(show (0:Nat)<_;decide)) (by decide) (kC fun h2=>h (by rw[h2];exact⟨by decide,by decide⟩)) hN hs trivial
theorem rG{kind:Nat}{i:Option Nat}{slot:Nat}(hk:kind<256)(h:Lt ts.length i)(hs:slot<=2):kG (je kind i slot):=by
 cases i with
 |none=>trivial
 |some j=>exact gZ (by first|exact hX _|(show (0:Nat)<_;decide)) hk (h j rfl) hN hs trivial
omit hN hX in
theorem zq{i kind slot x:Nat}{is:Nat->Bool}(h:ir c ts (bC ts c (some i) kind slot).p is=some x):i<ts.length:=by
 have h0:=EN c ts i;unfold bC at h;simp only[So]at h;split at h
 ·cases h
 ·rename_i hk;have:nx c ts i<ts.length:=DJ fun h2=>hk (.inl (by rw[h2];decide));omega
def O4(N:Nat):jj->Prop
 | .line _ _ _ s=>s<=2
 | .lineL _ _ s _ l _ _=>s<=2/\kG l
 | .lineO _ _ s op l _=>s<=2/\kG l/\Lt N op
 | .unary _ _ s=>s<=2
 | .unaryH _ _ s=>s<=2
 | .calls _ i s x names _=>s<=2/\kG names/\(∀j k,i=some j->x=some k->j<N)
 | .inside _ _ s=>s<=2
 | .listL _ _ l _ _=>kG l
 | .behind _ _ _ _ s=>s<=2
 | .block _ _ s=>s<=2
 | .seqL _ _ _ l _=>kG l
 | .sCalls _ i x l _=>kG l/\(∀j k,i=some j->x=some k->j<N)
 | .branch _ i s=>s<=2/\Lt N i
 | .elses _ _ l _=>kG l
 | .ifs _ y l _=>kG l/\Lt N y
 |_=>True
theorem Ei{rec:o3}(R:∀x q,rec x=some q->O4 ts.length x->kG q.l):∀x q,aN c ts rec x=some q->O4 ts.length x->kG q.l:=by
 have R1:∀{x q},rec x=some q->O4 ts.length x->kG q.l:=fun{x q} h k=>R x q h k;intro x q e hi;cases x with
 |line k o p slot=>
  simp only[aN,pd]at e;split at e
  ·have:=R1 e hi;exact this
  ·obtain⟨a,ea,e⟩:=gh e;obtain⟨b,eb,e⟩:=gh e;cases e
   have:=R1 eb ⟨hi,R1 ea hi⟩;exact this
 |lineL k o slot first l g out=>
  simp only[aN,nH]at e;cases g with
  |none=>cases e;exact hi.2
  |some p=>
   simp only at e;split at e
   ·cases e;exact hi.2
   ·obtain⟨a,ea,e⟩:=gh e;obtain⟨b,eb,e⟩:=gh e;cases e
    have:=R1 eb ⟨hi.1,R1 ea ⟨hi.1,hi.2,EQ⟩⟩;exact this
 |lineO k o slot op l g=>
  simp only[aN,sE]at e;cases op with
  |none=>cases e;exact hi.2.1
  |some i=>
   obtain⟨a,ea,e⟩:=gh e;cases e
   exact gZ (by first|exact hX _|(show (0:Nat)<_;decide)) (by decide) (hi.2.2 i rfl) hN hi.1 (rL.2 ⟨DS hi.2.1,R1 ea (by show (1:Nat)<=2;decide)⟩)
 |unary o p slot=>
  have:=R1 (x:=.unaryH o (p.map (nx c ts)) slot) e hi;exact this
 |unaryH o i slot=>
  simp only[aN,fU]at e;cases i with
  |none=>cases e;trivial
  |some i=>
   simp only at e;split at e
   ·rename_i hx;have aa:i<ts.length:=kC (by rcases hx with h|h<;>rw[h]<;>decide);split at e
    ·cases e;trivial
    ·obtain⟨a,ea,e⟩:=gh e;cases e
     exact gZ (by first|exact hX _|(show (0:Nat)<_;decide)) (by decide) aa hN hi (R1 ea (by show (0:Nat)<=2;decide))
   ·split at e
    ·have:=R1 e hi;exact this
    ·split at e
     ·rename_i hx;cases e
      exact gZ (by first|exact hX _|(show (0:Nat)<_;decide)) (by decide) (DJ (by rw[hx];decide)) hN hi trivial
     ·split at e
      ·rename_i hx;cases e
       exact gZ (by first|exact hX _|(show (0:Nat)<_;decide)) (by decide) (kC (by rcases hx with h|h<;>rw[h]<;>decide)) hN hi trivial
      ·split at e
       ·rename_i hx;cases e
        exact gZ (by first|exact hX _|(show (0:Nat)<_;decide)) (by decide) (kC (by rw[hx];decide)) hN hi trivial
       ·obtain⟨b,eb,e⟩:=gh e;cases e
        have:=R1 eb ⟨hi,mz hN hX _ (by decide) hi,fun j k hj hk=>by cases hj;exact zq hk⟩;exact this
 |calls o i slot x names g=>
  simp only[aN,nC]at e;split at e
  ·rename_i i x;obtain⟨a,ea,e⟩:=gh e;cases e
   exact gZ (by first|exact hX _|(show (0:Nat)<_;decide)) (by decide) (hi.2.2 i x rfl rfl) hN hi.1 (R1 ea trivial)
  ·cases e;exact hi.2.1
 |inside o p slot=>
  simp only[aN,jL]at e;split at e
  ·cases e;trivial
  ·split at e
   ·cases e;trivial
   ·split at e
    ·cases e;trivial
    ·obtain⟨a,ea,e⟩:=gh e;cases e
     have:=R1 ea hi;exact this
 |listed par o p=>
  simp only[aN,jI]at e;split at e
  ·cases e;trivial
  ·split at e
   ·cases e;trivial
   ·split at e
    ·cases e;trivial
    ·obtain⟨a,ea,e⟩:=gh e;cases e
     have:=R1 ea trivial;exact this
 |listL par o l g fin=>
  simp only[aN,tL]at e;cases g with
  |none=>cases e;exact hi
  |some p=>
   obtain⟨a,ea,e⟩:=gh e;obtain⟨b,eb,e⟩:=gh e;cases e
   have:=R1 eb (rL.2 ⟨hi,R1 ea trivial⟩);exact this
 |item par o p=>
  simp only[aN,sH]at e;split at e
  ·cases e
   exact dS (mz hN hX _ (by decide) (by decide)) (sA hN hX _ (by decide))
  ·have:=R1 e (by show (0:Nat)<=2;decide);exact this
 |behind typ o p sign slot=>
  simp only[aN,lq]at e;obtain⟨a,ea,e⟩:=gh e;cases e
  unfold jc at ea;split at ea
  ·cases ea;exact sA hN hX _ hi
  ·have:=R1 ea hi;exact this
 |vrb o p=>
  simp only[aN,iY]at e;obtain⟨d,ed,e⟩:=gh e;cases e
  exact dS (dS (mz hN hX _ (by decide) (by decide)) (sA hN hX _ (by decide))) (R1 ed (by show (1:Nat)<=2;decide))
 |function o p=>
  simp only[aN,iX]at e;obtain⟨b,eb,e⟩:=gh e;obtain⟨d,ed,e⟩:=gh e;obtain⟨f,ef,e⟩:=gh e;cases e
  exact dS (dS (dS (mz hN hX _ (by decide) (by decide)) (R1 eb trivial)) (R1 ed (by show (1:Nat)<=2;decide))) (R1 ef (by show (2:Nat)<=2;decide))
 |block o p slot=>
  simp only[aN,mg]at e;split at e
  ·cases e;trivial
  ·rename_i i hp;split at e
   ·cases e;trivial
   ·rename_i hx;have aa:i<ts.length:=kC (by rw[Classical.not_not.1 hx];decide);split at e
    ·cases e;trivial
    ·obtain⟨a,ea,e⟩:=gh e;cases e
     exact gZ (by first|exact hX _|(show (0:Nat)<_;decide)) (by decide) aa hN hi (R1 ea trivial)
 |seqL top o p l out=>
  simp only[aN,tw]at e;split at e
  ·cases e;exact hi
  ·split at e
   ·cases e;exact hi
   ·obtain⟨a,ea,e⟩:=gh e;obtain⟨b,eb,e⟩:=gh e;cases e
    have h1:kG a.l:=by
     unfold my at ea;split at ea
     ·unfold zm at ea;split at ea
      ·have:=R1 ea trivial;exact this
      ·split at ea
       ·have:=R1 ea trivial;exact this
       ·cases ea;trivial
     ·have:=R1 ea trivial;exact this
    have:=R1 eb (rL.2 ⟨hi,h1⟩);exact this
 |stmt o i=>
  simp only[aN,lG]at e;cases i with
  |none=>cases e;trivial
  |some i=>
   simp only at e;split at e
   ·have:=R1 e trivial;exact this
   ·split at e
    ·rename_i hx;have:=R1 e ⟨by decide,Lt.of (kC (by rw[hx];decide))⟩;exact this
    ·split at e
     ·rename_i hx;have aa:i<ts.length:=kC (by rw[hx];decide);obtain⟨a,ea,e⟩:=gh e;obtain⟨b,eb,e⟩:=gh e;cases e
      exact dS (dS (rG hN hX (by decide) (Lt.of aa) (by decide)) (R1 ea (by show (0:Nat)<=2;decide))) (R1 eb (by show (1:Nat)<=2;decide))
     ·split at e
      ·have:=R1 e (by show (0:Nat)<=2;decide);exact this
      ·split at e
       ·rename_i hx;have aa:i<ts.length:=kC (by rw[hx];decide);obtain⟨a,ea,e⟩:=gh e;cases e
        exact dS (rG hN hX (by decide) (Lt.of aa) (by decide)) (R1 ea (by show (0:Nat)<=2;decide))
       ·split at e
        ·rename_i hx;have aa:i<ts.length:=kC (by rcases hx with h|h<;>rw[h]<;>decide);obtain⟨a,ea,e⟩:=gh e;cases e
         exact dS (rG hN hX (by split<;>decide) (Lt.of aa) (by decide)) (R1 ea (by show (0:Nat)<=2;decide))
        ·obtain⟨b,eb,e⟩:=gh e;obtain⟨d,ed,e⟩:=gh e;cases e
         have:=R1 ed ⟨dS (mz hN hX _ (by decide) (by decide)) (R1 eb (by show (0:Nat)<=2;decide)),fun j k hj hk=>by cases hj;exact zq hk⟩;exact this
 |sCalls o i x l g=>
  simp only[aN,kS]at e;split at e
  ·rename_i i x;obtain⟨a,ea,e⟩:=gh e;cases e
   exact gZ (s:=0) (by first|exact hX _|(show (0:Nat)<_;decide)) (by decide) (hi.2 i x rfl rfl) hN (by decide) (R1 ea trivial)
  ·cases e;exact hi.1
 |branch o i slot=>
  simp only[aN,mB]at e;obtain⟨a,ea,e⟩:=gh e;obtain⟨b,eb,e⟩:=gh e;obtain⟨d,ed,e⟩:=gh e;cases e
  have:=R1 ed (dS (dS (rG hN hX (by decide) hi.2 hi.1) (R1 ea (by show (0:Nat)<=2;decide))) (R1 eb (by show (1:Nat)<=2;decide)));exact this
 |elses o x l out=>
  simp only[aN,pD]at e;cases x with
  |none=>cases e;exact hi
  |some j=>
   obtain⟨a,ea,e⟩:=gh e;obtain⟨b,eb,e⟩:=gh e;cases e
   have:=R1 eb ⟨dS hi (R1 ea (by show (2:Nat)<=2;decide)),Ca (by decide)⟩;exact this
 |ifs o y l out=>
  simp only[aN,Dt]at e;cases y with
  |none=>cases e;exact hi.1
  |some j=>
   simp only at e;split at e
   ·cases e;exact hi.1
   ·obtain⟨a,ea,e⟩:=gh e;cases e
    exact dS hi.1 (R1 ea ⟨by decide,hi.2⟩)
theorem yx:∀n x q,hQ c ts n x=some q->O4 ts.length x->kG q.l
 |0,x,q,e,_=>by cases e
 |n+1,x,q,e,h=>Ei hN hX (fun x q e h=>yx n x q e h) x q e h
end
theorem sd:∀(l:List Nd) (d:T),fX l->wL d l->MY l->(∀c,kG (pL c l))->kG l
 | [],_,_,_,_,_=>trivial
 |⟨k,t,o,s,ks,e⟩::l,d,ho,hw,hn,h=>by
  have key:∀c,e.at' c=true->ON ⟨k,t,o,s,pL c ks,tt⟩:=fun c hc=>by
   have:=h c;rw[bV,show (⟨k,t,o,s,ks,e⟩:Nd).cond=e from rfl,hc,SI rfl]at this;exact this.1
  obtain⟨c0,aa⟩:=T.some_of_ne ho.1.1 hn.1.1;refine⟨⟨(key c0 aa).1,sd ks e ho.1.2 hw.1.2 hn.1.2 fun c=>?_⟩,sd l d ho.2 hw.2 hn.2 fun c=>?_⟩
  ·cases hc:e.at' c with
   |true=>exact(key c hc).2
   |false=>rw[BC hw.1.2 hc];trivial
  ·have:=h c;rw[bV]at this;split at this
   ·exact this.2
   ·exact this
theorem Lu{ts:List Tok}(aa:bu ts)(hl:ts.length<=16384)(hX:∀i,(X ts i).length<4611686018427387904){w:T}(hw:w.ok 0)(ac:w≠ff){n:Nat}{r:bE}(e:run ts n (.seqL true 0 [(0,w)] [] [])=some r):kG (lI r):=by
 obtain⟨_,_,R0⟩:=gG aa hw ac e (fun _=>false);have hc:=(oP (c:=fun _=>false) R0.fok).1;obtain⟨a1,a2,a3,a4⟩:=ky r.l (fE r.f) hc R0.lok;refine⟨⟨⟨by decide,by decide,by decide,by decide,by decide,by show (0:Nat)<_;decide⟩,sd _ (fE r.f) a1 a2 (s5 _ _) fun c=>?_⟩,trivial⟩;rw[a4 c];split
 ·obtain⟨q,⟨m,hm⟩,R⟩:=gG aa hw ac e c;rw[R.l];exact yx hl hX m _ _ hm trivial
 ·trivial
theorem As{l:List Nd}(h:kG l)(k:nL):kG (cF l k):=iL.2 fun x hx=>by
 obtain⟨n,hn,_,_,hx⟩:=js hx;exact iL.1 (mH.1 (iL.1 h n hn)).2 x hx
end Syn
namespace Go.Proofs.YtfaclfkpnmcmlaaGreatDoor
open Go Go.Sx Dg Syn
theorem jl(A:PH):U [A]=A:=PH.uni_no A
theorem sw:∀{Ks:List PH} {i:Nat} {Ki:PH},Ks[i]?=some Ki->Ks.Perm (Ki::Ks.eraseIdx i)
 | [],i,Ki,h=>by simp at h
 |a::l,0,Ki,h=>by
  simp only[TC,Sc]at h;subst h;exact List.Perm.refl _
 |a::l,i+1,Ki,h=>by
  rw[TD]at h;exact((sw h).cons a).trans (List.Perm.swap Ki a _)
theorem zD:∀{Ks:List PH} {i:Nat} (K':PH),i<Ks.length->(K'::Ks.eraseIdx i).Perm (Ks.set i K')
 | [],i,K',h=>by simp at h
 |a::l,0,K',h=>List.Perm.refl _
 |a::l,i+1,K',h=>(List.Perm.swap a K' _).trans ((zD K' (by simpa using h)).cons a)
theorem AU(A:PH)(l:List PH):U [A,U l]=U (A::l):=by
 show A.uni (U [U l])=A.uni (U l);rw[jl]
theorem H1{A:PH}{l:List PH}(h:Dj (A::l)):Dj [A,U l]:=by
 have:=h.head;refine List.pairwise_cons.2 ⟨fun B hB=>?_,Th _ _⟩;rw[List.mem_singleton.1 hB];exact this
theorem u6{A:PH}{l:List PH}(h:Dj [A,U l])(hl:Dj l):Dj (A::l):=hl.cons (by
 have:=h.head
 rwa [jl]at this)
theorem ME{l:List PH}{X:PH}{m:List PH}(h:Dj (l++[X]))(e:U m=X)(hm:Dj m):U (l++[X])=U (l++m)/\Dj (l++m):=by
 obtain⟨a,b,c⟩:=l9.1 h;rw[jl]at c;refine⟨by rw[vG,vG,jl,e],l9.2 ⟨a,hm,by rw[e];exact c⟩⟩
theorem GR{l m:List PH}(h:Dj (l++m)):U (l++m)=U (l++[U m])/\Dj (l++[U m]):=by
 obtain⟨a,b,c⟩:=l9.1 h;refine⟨by rw[vG,vG,jl],l9.2 ⟨a,Th _ _,by rw[jl];exact c⟩⟩
theorem L3{l Ks:List PH}{i:Nat}{Ki:PH}(hd:Dj (l++[U Ks]))(hk:Dj Ks)(hi:Ks[i]?=some Ki):U (l++[U Ks])=U (l++[Ki,U (Ks.eraseIdx i)])/\Dj (l++[Ki,U (Ks.eraseIdx i)]):=by
 obtain⟨e,d⟩:=lr (sw hi) hk;exact ME hd (by rw[AU,e]) (H1 d)
theorem Mh{l Ks:List PH}{i:Nat}{K':PH}(hd:Dj (l++[K',U (Ks.eraseIdx i)]))(hk:Dj Ks)(hi:i<Ks.length):U (l++[K',U (Ks.eraseIdx i)])=U (l++[U (Ks.set i K')])/\Dj (l++[U (Ks.set i K')])/\Dj (Ks.set i K'):=by
 have h1:Dj (Ks.eraseIdx i):=List.Pairwise.sublist (List.eraseIdx_sublist _ _) hk;have h2:Dj (K'::Ks.eraseIdx i):=u6 (l9.1 hd).2.1 h1;obtain⟨e,d⟩:=lr (zD K' hi) h2;obtain⟨e3,d3⟩:=GR hd;rw[AU,e]at e3 d3;exact⟨e3,d3,d⟩
theorem Mn{l Ks:List PH}{K':PH}(hd:Dj (l++[K',U Ks]))(hk:Dj Ks):U (l++[K',U Ks])=U (l++[U (Ks++[K'])])/\Dj (l++[U (Ks++[K'])])/\Dj (Ks++[K']):=by
 have h2:Dj (K'::Ks):=u6 (l9.1 hd).2.1 hk;obtain⟨e,d⟩:=lr (List.perm_append_singleton K' Ks).symm h2;obtain⟨e3,d3⟩:=GR hd;rw[AU,e]at e3 d3;exact⟨e3,d3,d⟩
def oj(I:PH)(c:List Value)(p:PH×Nd):Prop:=∃vk a k,c=[.int .u8 p.2.kind,.string ⟨⟨p.2.text⟩⟩,.int .i64 p.2.tok,.int .i64 p.2.slot,vk,sD a k p.2.cond,rD p.2.cond]/\cu I (.agg #[sD a k p.2.cond,rD p.2.cond]) p.2.cond/\br I p.1 vk p.2.kids
theorem oj.le{I J:PH}{c:List Value}{p:PH×Nd}(h:oj I c p)(aa:I.le J):oj J c p:=by
 obtain⟨vk,a,k,e,h1,h2⟩:=h;exact⟨vk,a,k,e,h1.le aa,br.le h2 aa⟩
theorem oj.len{I:PH}(c:List Value)(p:PH×Nd)(h:oj I c p):c.length=7:=by obtain⟨vk,a,k,e,_⟩:=h;rw[e];rfl
theorem oj.ones{I:PH}{c:List Value}{p:PH×Nd}(h:oj I c p):c.all Sx.one=true:=by
 obtain⟨vk,a,k,e,_,hk⟩:=h;obtain⟨x,y,rfl⟩:=hk.shape;rw[e];rfl
theorem oj.still{I J:PH}{c:List Value}{p:PH×Nd}(h:oj I c p)(h1:I.le J)(h2:p.1.le J):aW J c p.2:=by
 obtain⟨vk,a,k,rfl,hr,hk⟩:=h;exact aW.mk (hr.le h1) (br.sl hk h1 h2) (hk.capN aW.len)
theorem LR.still{I J:PH}(h1:I.le J):∀{l:List (PH×Nd)} {xs:List Value},LR (oj I) xs l->(∀p∈l,p.1.le J)->LR (aW J) xs (l.map Prod.snd)
 | [],xs,h,_=>h
 |p::l,xs,⟨c,ys,e,a,b⟩,hp=>⟨c,ys,e,a.still h1 (hp p (.head _)),LR.still h1 b fun q hq=>hp q (.tail _ hq)⟩
def Gi(o:List Nd)(y u:Value):Prop:=∃j m,o[j]?=some m/\y=nJ m.key/\u=iv j
theorem yU{a b:nL}(h:nJ a=nJ b):a=b:=by
 unfold nJ at h;simp only[Value.agg.injEq,Array.mk.injEq,TX,Value.int.injEq,Value.string.injEq,TY,SP]at h;obtain⟨h1,h2,h3,h4⟩:=h;have ac:a.kind=b.kind:=by omega
 have aa:a.text=b.text:=by
  have:=congrArg (fun x:ByteArray=>x.data.toList) h4;exact this
 cases a;cases b
 simp_all
theorem FO:Tryz.prog.underlying 240=some (.struct #[⟨ "slot",3,0,false,"","motley/syntax",0⟩,⟨ "tok",3,1,false,"","motley/syntax",8⟩,⟨ "kind",5,2,false,"","motley/syntax",16⟩,⟨ "text",9,3,false,"","motley/syntax",24⟩]):=by kernel_rfl
theorem OI:Tryz.prog.keyTypeAt 3 240=true:=by kernel_rfl
theorem NL:Tryz.prog.tiled 3 240=true:=by kernel_rfl
theorem LP:Maps.Keyed Tryz.prog 240:=by
 refine Maps.Keyed.of_law (deep_law (m:=3) (by omega) OI NL ?_);rw[FO]
theorem H6:Tryz.prog.keyType 240=true:=by kernel_rfl
theorem He:Tryz.prog.cellsOf 240=4:=by kernel_rfl
theorem Fw:Tryz.prog.cellsOf 5=1:=by kernel_rfl
theorem Bm:Tryz.prog.cellsOf 9=1:=by kernel_rfl
theorem Qn:Tryz.prog.underlying 5=some (.int .u8):=by kernel_rfl
theorem Pe:Tryz.prog.underlying 9=some .string:=by kernel_rfl
theorem QP{z:Int}(h:-4611686018427387904<=z)(h2:z<4611686018427387904):(Lit.int .i64 z).wf=true:=by
 have h1:IntKind.min .i64=-9223372036854775808:=by decide
 have h2:IntKind.max .i64=9223372036854775807:=by decide
 simp only[Lit.wf,h1,h2,SG,SX];omega
theorem Rl{n:Nat}(h:n<256):(Lit.int .u8 n).wf=true:=by
 have h1:IntKind.min .u8=0:=by decide
 have h2:IntKind.max .u8=255:=by decide
 simp only[Lit.wf,h1,h2,SG,SX];omega
theorem OR {P:Program} {k:nL} (hk:P.underlying 240=some (.struct #[⟨ "slot",3,0,false,"","motley/syntax",0⟩,⟨ "tok",3,1,false,"","motley/syntax",8⟩,⟨ "kind",5,2,false,"","motley/syntax",16⟩,⟨ "text",9,3,false,"","motley/syntax",24⟩])) (h1:P.keyType 240=true) (h2:P.cellsOf 240=4) (h3:P.cellsOf 3=1) (h5:P.cellsOf 5=1) (h9:P.cellsOf 9=1) (u3:P.underlying 3=some (.int .i64)) (u5:P.underlying 5=some (.int .u8)) (u9:P.underlying 9=some .string) (hs:1<P.types.size)
  (a1:(Lit.int .i64 k.slot).wf=true) (a2:(Lit.int .i64 k.tok).wf=true) (a3:(Lit.int .u8 k.kind).wf=true) (a4:k.text.length<4611686018427387904):iD P 240 (nJ k):=by
 obtain⟨n,hn⟩:∃n,P.types.size=n+1:=⟨P.types.size-1,by omega⟩;simp only[Lit.wf,SG,SX]at a1 a2 a3;have e9:(9223372036854775807:Int)=IntKind.max .i64:=by decide
 unfold iD keyOf;rw[h1];have b1:IntKind.i64.min<=k.slot/\k.slot<=9223372036854775807:=by rw[e9];exact a1
 have b2:IntKind.i64.min<=k.tok/\k.tok<=9223372036854775807:=by rw[e9];exact a2
 have b4:(⟨⟨k.text⟩⟩:ByteArray).size<=maxLen:=by
  have:(⟨⟨k.text⟩⟩:ByteArray).size=k.text.length:=rfl;rw[this];exact R8 (SJ a4) (by decide)
 simp[hk,Value.formed,nJ,hn,Program.keyLits,h2,h3,h5,h9,u3,u5,u9,Value.cells,Lit.wf,b1,b2,a3,b4]
theorem Mk{n:Nd}(h:ON n):iD Tryz.prog 240 (nJ n.key):=by
 obtain⟨⟨a,b,c,d,e,g⟩,_⟩:=mH.1 h;exact OR FO H6 He Bg Fw Bm Kw Qn Pe FT (QP d e) (QP b c) (Rl a) g
theorem Je:aP Tryz.prog 107:=⟨_,Tryz.func107,rfl,rfl⟩
theorem z8:aP Tryz.prog 53:=⟨_,Tryz.func53,rfl,rfl⟩
theorem EL:aP Tryz.prog 89:=⟨_,Tryz.func89,rfl,rfl⟩
theorem Mp:aP Tryz.prog 90:=⟨_,Tryz.func90,rfl,rfl⟩
theorem Mz:aP Tryz.prog 91:=⟨_,Tryz.func91,rfl,rfl⟩
theorem My:aP Tryz.prog 92:=⟨_,Tryz.func92,rfl,rfl⟩
theorem LM:aP Tryz.prog 35:=⟨_,Tryz.func35,rfl,rfl⟩
def Ob(P:Program)(T:TypeId)(cs:Array Value):Prop:=P.eqGuardType P.depth T=false/\∀w,(Op.equalIn 10000 T (.agg cs) (.agg cs)).run P w=.ok true w
theorem zH{P:Program}{σ:St}{H:PH}{o:Oper}{T T2:TypeId}{op:BinOp}{x y:Operand}{cs:Array Value}(aa:o.op=.binOp op T x y T2)(ho:op=.eql\/op=.neq)(hx:ev σ x=.v (.agg cs))(hy:ev σ y=.v (.agg cs))(he:Ob P T cs):
  aR σ o.op=true/\∀w,Sub H w->(execOp (bp σ) o).run P w=.ok (.value (.bool (match op with | .neq=>false|_=>true))) w:=by
 constructor
 ·simp[aR,aa,eL,Op.operands,hx,hy,qy]
 ·intro w _;rcases ho with rfl|rfl
  ·simp[execOp,aa,bp,hx,hy,Se,run_eqGuard_agg w .eql T x y cs cs he.1,run_eql_struct,he.2 w,Result.andThen]
  ·simp[execOp,aa,bp,hx,hy,Se,run_eqGuard_agg w .neq T x y cs cs he.1,run_neq_struct,he.2 w,Result.andThen]
theorem LY{C:Cx}{ol:List Oper}{fr:gW}{str:gR}{k:List Item}{σ:St}{H:PH}{i:Nat}{o:Oper}{l:List (Nat×Oper)}{T T2:TypeId}{x y:Operand}{cs:Array Value}(hf:fr.h.contains i=true)(hw:aG ol σ o=some true)(aa:o.op=.binOp .eql T x y T2)(hx:ev σ x=.v (.agg cs))(hy:ev σ y=.v (.agg cs))(he:Ob C.P T cs)(h:RD C ol fr str l k (σ.put o.dst (.v (.bool true))) H):RD C ol fr str ((i,o)::l) k σ H:=by
 obtain⟨q1,q2⟩:=zH (H:=H) aa (.inl rfl) hx hy he;exact rE (.bool true) hf hw q1 (by rw[aa];rfl) q2 h
theorem Lp{C:Cx}{ol:List Oper}{fr:gW}{str:gR}{k:List Item}{σ:St}{H:PH}{i:Nat}{o:Oper}{l:List (Nat×Oper)}{T T2:TypeId}{x y:Operand}{cs:Array Value}(hf:fr.h.contains i=true)(hw:aG ol σ o=some true)(aa:o.op=.binOp .neq T x y T2)(hx:ev σ x=.v (.agg cs))(hy:ev σ y=.v (.agg cs))(he:Ob C.P T cs)(h:RD C ol fr str l k (σ.put o.dst (.v (.bool false))) H):RD C ol fr str ((i,o)::l) k σ H:=by
 obtain⟨q1,q2⟩:=zH (H:=H) aa (.inr rfl) hx hy he;exact rE (.bool false) hf hw q1 (by rw[aa];rfl) q2 h
theorem Lo(a b c:Int):Ob Tryz.prog 181 #[.int .i64 a,.int .i64 b,.int .i64 c]:=by
 refine⟨by kernel_rfl,fun w=>?_⟩;have hS:Tryz.prog.underlying 181=some (.struct (Tryz.prog.fieldsOf 181)):=by kernel_rfl
 have hp:Tryz.prog.stoodInHeld 181=false:=by kernel_rfl
 have hf:(Tryz.prog.fieldsOf 181).toList=[⟨ "Var",3,0,false,"","",0⟩,⟨ "Low",3,1,false,"","",8⟩,⟨ "High",3,2,false,"","",16⟩]:=by unfold Program.fieldsOf;rw[Fq]
 have p0:(part 3 #[.int .i64 a,.int .i64 b,.int .i64 c] 0).run Tryz.prog w=.ok (.int .i64 a) w:=gS (by unfold eD;rw[mF];rfl);have p1:(part 3 #[.int .i64 a,.int .i64 b,.int .i64 c] 1).run Tryz.prog w=.ok (.int .i64 b) w:=gS (by unfold eD;rw[mF];rfl);have p2:(part 3 #[.int .i64 a,.int .i64 b,.int .i64 c] 2).run Tryz.prog w=.ok (.int .i64 c) w:=gS (by unfold eD;rw[mF];rfl);rw[show (10000:Nat)=9998+1+1 from rfl,run_equalIn_agg w (9998+1) 181 _ _ hS hp,hf];simp[Op.eqFields,Se,p0,p1,p2,Result.andThen,run_equalIn_int w 9998 3 .i64 .i64 _ _ Kw]
theorem Mo(k:nL):Ob Tryz.prog 240 #[.int .i64 k.slot,.int .i64 k.tok,.int .u8 k.kind,.string ⟨⟨k.text⟩⟩]:=by
 refine⟨by kernel_rfl,fun w=>?_⟩;have hS:Tryz.prog.underlying 240=some (.struct (Tryz.prog.fieldsOf 240)):=by kernel_rfl
 have hp:Tryz.prog.stoodInHeld 240=false:=by kernel_rfl
 have hf:(Tryz.prog.fieldsOf 240).toList=[⟨ "slot",3,0,false,"","motley/syntax",0⟩,⟨ "tok",3,1,false,"","motley/syntax",8⟩,⟨ "kind",5,2,false,"","motley/syntax",16⟩,⟨ "text",9,3,false,"","motley/syntax",24⟩]:=by unfold Program.fieldsOf;rw[FO]
 have p0:(part 3 #[.int .i64 k.slot,.int .i64 k.tok,.int .u8 k.kind,.string ⟨⟨k.text⟩⟩] 0).run Tryz.prog w=.ok (.int .i64 k.slot) w:=gS (by unfold eD;rw[mF];rfl);have p1:(part 3 #[.int .i64 k.slot,.int .i64 k.tok,.int .u8 k.kind,.string ⟨⟨k.text⟩⟩] 1).run Tryz.prog w=.ok (.int .i64 k.tok) w:=gS (by unfold eD;rw[mF];rfl);have p2:(part 5 #[.int .i64 k.slot,.int .i64 k.tok,.int .u8 k.kind,.string ⟨⟨k.text⟩⟩] 2).run Tryz.prog w=.ok (.int .u8 k.kind) w:=gS (by unfold eD;rw[MR];rfl);have p3:(part 9 #[.int .i64 k.slot,.int .i64 k.tok,.int .u8 k.kind,.string ⟨⟨k.text⟩⟩] 3).run Tryz.prog w=.ok (.string ⟨⟨k.text⟩⟩) w:=gS (by unfold eD;rw[rz];rfl);rw[show (10000:Nat)=9998+1+1 from rfl,run_equalIn_agg w (9998+1) 240 _ _ hS hp,hf];simp[Op.eqFields,Se,p0,p1,p2,p3,Result.andThen,run_equalIn_int w 9998 3 .i64 .i64 _ _ Kw,run_equalIn_int w 9998 5 .u8 .u8 _ _ Qn,run_equalIn_string w 9998 9 _ _ Pe]
def JG(v1 v2:Value)(n i:Nat):St:=⟨dn 26 [(0,.v v1),(1,.v v2),(11,.v v1),(12,.v (iv n)),(13,.v (iv i))],[]⟩
theorem HW{H:PH}{v1 v2:Value}{ts:List T}(h1:pS H v1 ts)(h2:pS H v2 ts)(hl:ts.length<2^40):bv Tryz.prog 107 #[v1,v2] H fun r H2=>r=.bool true/\H2=H:=by
 obtain⟨a1,c1,rfl,g1⟩:=h1;obtain⟨a2,c2,rfl,g2⟩:=h2;refine Ot Tryz.func107 rfl fun w0=>?_;simp only[Tryz.ntmps107];have h0:((ts.length:Int) != (ts.length:Int))=false:=by simp
 apply RG;simp only[go_sem,h0];refine aB (fun x=>ts.length-x) (JG (.slice a1 ts.length c1) (.slice a2 ts.length c2) ts.length) (fun i H2=>H2=H/\i<=ts.length) 0 (ae (by simp only[go_sem,Tq,iv])) (by simp only[go_sem,Tq,JG]) ⟨rfl,S6 _⟩ ?_;rintro i H2 ⟨rfl,hi⟩ aa;simp only[JG];rcases Sw i ts.length with ac|am
 ·have aj:=Z5 (a:=i) (b:=ts.length) (by omega);have e1:=Z7 (i:=i) (by omega);obtain⟨t,ht⟩:∃t,ts[i]?=some t:=⟨_,SC ac⟩;have ak:(BD ts).length=ts.length*3:=oG _;have ld:∀{a:Option Addr},(ts=[]\/∃b,a=some ⟨b,0,none⟩/\aQ H2 b 0 (BD ts))->∃b,a=some ⟨b,0,none⟩/\aQ H2 b (i*3) (lm (T.dec ts t)):=by
   rintro a (h|⟨b,e,h⟩)
   ·rw[h]at ac;simp at ac
   ·have hc:=h.sub (i*3) 3 (by omega);rw[oJ ht,Sf]at hc;exact⟨b,e,hc⟩
  obtain⟨b1,rfl,l1⟩:=ld g1;obtain⟨b2,rfl,l2⟩:=ld g2;apply RG;simp only[go_sem,iv,aj];refine ax mixed [0,1,2,3,4,5,6,7,8] [3,7,8] [] rfl rfl ?_;apply af;simp only[go_sem,iv]
  try refine⟨by omega,?_⟩
  refine P7 (l:=lm (T.dec ts t)) (v:=fG (T.dec ts t)) rfl (by simpa using l1) (.inl ⟨ti,rfl⟩) ?_;apply af;simp only[go_sem,iv,fG]
  try refine⟨by omega,?_⟩
  refine P7 (l:=lm (T.dec ts t)) (v:=fG (T.dec ts t)) rfl (by simpa using l2) (.inl ⟨ti,rfl⟩) ?_;apply af;simp only[go_sem,iv,fG];refine Lp rfl rfl rfl rfl rfl (Lo (T.dec ts t).1 (T.dec ts t).2.1 (T.dec ts t).2.2) ?_;apply af;simp only[go_sem,iv];refine aw ?_;apply RG;simp only[go_sem,iv,e1];exact aa (i+1) _ _ (by omega) (ae (by simp only[go_sem,Tq,iv])) (by simp only[go_sem,Tq,JG]) ⟨rfl,ac⟩
 ·have:i=ts.length:=by omega
  subst this;have aj:=Z6 ts.length;apply RG;simp only[go_sem,iv,aj];exact aK (r:=[_]) rfl ⟨rfl,rfl⟩
theorem DK{t:T}(h:t.ok 0):(T.subs t).length+1<=2^24:=by
 obtain⟨us,e1,e2,_⟩:=(T.vis_spec t h (by omega) [] T.Seq.nil).2.2;rw[SU]at e1;show (t.vis []).length+1<=_;rw[e1];exact e2
theorem Bn{H:PH}{v1 v2:Value}{t:T}(h1:cu H v1 t)(h2:cu H v2 t):bv Tryz.prog 53 #[v1,v2] H fun r H2=>r=.bool true/\H2=H:=by
 have hl:=DK h1.1;obtain⟨_,s1,rfl,g1⟩:=h1;obtain⟨_,s2,rfl,g2⟩:=h2;obtain⟨a1,c1,rfl,_⟩:=id g1;obtain⟨a2,c2,rfl,_⟩:=id g2;refine Ot Tryz.func53 rfl fun w0=>?_;simp only[Tryz.ntmps53,iv];apply RG;simp only[go_sem];refine Pf rfl Je (HW g1 g2 (by omega)) fun v H2 hv=>?_;obtain⟨rfl,rfl⟩:=hv;apply RG;simp only[go_sem];exact aK (r:=[_]) rfl ⟨rfl,rfl⟩
def KE(v1 v2 vf:Value)(n i:Nat):St:=⟨dn 32 [(0,.v v1),(1,.v v2),(2,.v vf),(15,.v v1),(16,.v (iv n)),(17,.v (iv i))],[]⟩
theorem Nz:∀(m:Nat) {I:PH} {v1 v2:Value} {l:List Nd},cK l<m->cK l<=aF->db I v1 l->db I v2 l->aO Tryz.prog 89 #[v1,v2,.func (.func 90) #[] #[]] I [] fun r I2 qs=>qs=[]/\r=.bool true:=by
 intro m
 induction m with
 |zero=>intro I v1 v2 l h;omega
 |succ m ih=>
 intro I v1 v2 l hm hz h1 h2 hd;obtain⟨a1,c1,rfl,_⟩:=id h1;obtain⟨a2,c2,rfl,_⟩:=id h2;have b3:=gw l;unfold aF at hz;have h0:((l.length:Int) != (l.length:Int))=false:=by simp
 have sameN:∀{J:PH} {cx cy:List Value} {n:Nd},n∈l->aW J cx n->aW J cy n->aO Tryz.prog 90 #[.agg cx.toArray,.agg cy.toArray] J [] fun r I2 qs=>qs=[]/\r=.bool true:=by
  intro J cx cy n hn hx hy hd;have b0:=oE hn;obtain⟨vk,xa,xk,rfl,a5,aS,_⟩:=hx.shape;obtain⟨wk,ya,yk,rfl,a4,ap,_⟩:=hy.shape;obtain⟨ka,kc,rfl,_⟩:=id aS;obtain⟨la,lc,rfl,_⟩:=id ap;refine Ot Tryz.func90 rfl fun w0=>?_;simp only[Tryz.ntmps90,iv,sD,rD];apply RG;simp only[go_sem];refine ax mixed [0,2,1,3,4,5,6,7,8,9,10,11,12,13,14,15,16,17,18,19] [4] [] rfl rfl ?_;apply af;simp only[go_sem,iv,sD,rD];refine Og hd [] rfl (fun h=>by cases h) rfl oB (by rfl) (ps:=[]) (F:=[]) rfl (bv.keep (yz n.kind n.tok n.slot _ n.text ka xa n.kids.length kc (T.subs n.cond).length xk _)) fun v J2 qs ak aa hq=>?_;obtain⟨rfl,rfl⟩:=hq;simp only[Z3]at ak |-;apply af;simp only[go_sem,iv,sD,rD];refine Og ak [] rfl (fun h=>by cases h) rfl oB (by rfl) (ps:=[]) (F:=[]) rfl (bv.keep (yz n.kind n.tok n.slot _ n.text la ya n.kids.length lc (T.subs n.cond).length yk _)) fun v J3 qs ao aj hq=>?_;obtain⟨rfl,rfl⟩:=hq;simp only[Z3]at ao |-;apply af;simp only[go_sem,iv,sD,rD];refine LY rfl rfl rfl rfl rfl (Mo n.key) ?_;have am:=Ui aa aj;apply af;simp only[go_sem,iv,sD,rD];refine Og ao [] rfl (fun h=>by cases h) rfl z8 (by rfl) (ps:=[]) (F:=[]) rfl (bv.keep (Bn (a5.le am) (a4.le am))) fun v J4 qs a9 ac hq=>?_;obtain⟨rfl,rfl⟩:=hq;simp only[Z3]at a9 |-;apply af;simp only[go_sem,iv,sD,rD];refine Og a9 [] rfl (fun h=>by cases h) rfl EL (by rfl) (ps:=[]) (F:=[]) rfl (ih (l:=n.kids) (by omega) (by unfold aF;omega) (db.le aS (Ui am ac)) (db.le ap (Ui am ac))) fun v J5 qs a7 a0 hq=>?_;obtain⟨rfl,rfl⟩:=hq;simp only[Z3]at a7 |-;apply af;simp only[go_sem,iv,sD,rD];refine aw ?_;apply RG;simp only[go_sem];exact ai rfl a7 (r:=[_]) rfl (Ui am (Ui ac a0)) ⟨rfl,rfl⟩
 refine Ot Tryz.func89 rfl fun w0=>?_;simp only[Tryz.ntmps89];apply RG;simp only[go_sem,h0];refine aB (fun x=>l.length-x) (KE (.slice a1 l.length c1) (.slice a2 l.length c2) (.func (.func 90) #[] #[]) l.length) (fun i H2=>∃I2,H2=U [I2]/\Dj [I2]/\I.le I2/\i<=l.length) 0 (ae (by simp only[go_sem,Tq,iv])) (by simp only[go_sem,Tq,KE]) ⟨I,rfl,hd,Uj _,S6 _⟩ ?_;rintro i H2 ⟨I2,rfl,ak,aa,hi⟩ an;simp only[KE];rcases Sw i l.length with a6|b4
 ·have a3:=Z5 (a:=i) (b:=l.length) (by omega);have e1:=Z7 (i:=i) (by omega);obtain⟨n,hn⟩:∃n,l[i]?=some n:=⟨_,SC a6⟩;obtain⟨b1,o1,cx,rfl,bb,bd⟩:=Sl.load aW.len (db.le h1 aa) hn;obtain⟨b2,o2,cy,rfl,ba,bc⟩:=Sl.load aW.len (db.le h2 aa) hn;obtain⟨vk,xa,xk,rfl,a5,aS,bx⟩:=bb.shape;obtain⟨wk,ya,yk,rfl,a4,ap,bs⟩:=ba.shape;obtain⟨ka,kc,rfl,_⟩:=id aS;obtain⟨la,lc,rfl,_⟩:=id ap;apply RG;simp only[go_sem,iv,a3]
  try refine⟨by omega,?_⟩
  refine Qz (l:=[.int .u8 n.kind,.string ⟨⟨n.text⟩⟩,.int .i64 n.tok,.int .i64 n.slot,.slice ka n.kids.length kc,sD xa xk n.cond,rD n.cond]) (v:=.agg #[.int .u8 n.kind,.string ⟨⟨n.text⟩⟩,.int .i64 n.tok,.int .i64 n.slot,.slice ka n.kids.length kc,sD xa xk n.cond,rD n.cond]) rfl (cellsU ak (.head _) bd) (.inl ⟨bT,rfl⟩) ?_;apply RG;simp only[go_sem,iv,sD,rD]
  try refine⟨by omega,?_⟩
  refine Qz (l:=[.int .u8 n.kind,.string ⟨⟨n.text⟩⟩,.int .i64 n.tok,.int .i64 n.slot,.slice la n.kids.length lc,sD ya yk n.cond,rD n.cond]) (v:=.agg #[.int .u8 n.kind,.string ⟨⟨n.text⟩⟩,.int .i64 n.tok,.int .i64 n.slot,.slice la n.kids.length lc,sD ya yk n.cond,rD n.cond]) rfl (cellsU ak (.head _) bc) (.inl ⟨bT,rfl⟩) ?_;apply RG;simp only[go_sem,iv,sD,rD];refine NB ak [] rfl Mp (by rfl) (ps:=[]) (F:=[]) rfl (sameN (Tg hn) bb ba) fun v I3 qs ao aj hq=>?_;obtain⟨rfl,rfl⟩:=hq;simp only[Z3]at ao |-;apply RG;simp only[go_sem,iv,sD,rD,e1];exact an (i+1) _ _ (by omega) (ae (by simp only[go_sem,Tq,iv])) (by simp only[go_sem,Tq,KE]) ⟨I3,rfl,ao,Ui aa aj,a6⟩
 ·have:i=l.length:=by omega
  subst this;have a3:=Z6 l.length;apply RG;simp only[go_sem,iv,a3];exact ai rfl ak (r:=[_]) rfl aa ⟨rfl,rfl⟩
theorem HH{J:PH}{cx cy:List Value}{d:bX}(hx:dg J cx d)(hy:dg J cy d):aO Tryz.prog 92 #[.agg cx.toArray,.agg cy.toArray] J [] fun r I2 qs=>qs=[]/\r=.bool true:=by
 intro hd;obtain⟨xa,xk,rfl,an⟩:=id hx;obtain⟨ya,yk,rfl,am⟩:=id hy;refine Ot Tryz.func92 rfl fun w0=>?_;simp only[Tryz.ntmps92,iv,sD,rD];apply RG;simp only[go_sem];refine NB hd [] rfl AV (by rfl) (ps:=[]) (F:=[]) rfl (wh hx hy) fun v J2 qs ak aa hq=>?_;obtain⟨rfl,rfl⟩:=hq;simp only[Z3]at ak |-;have hz:(uU d d == 0)=true:=by rw[yT];simp
 apply RG;simp only[go_sem,hz];refine NB ak [] rfl z8 (by rfl) (ps:=[]) (F:=[]) rfl (bv.keep (Bn (an.le aa) (am.le aa))) fun v J3 qs aj ac hq=>?_;obtain⟨rfl,rfl⟩:=hq;simp only[Z3]at aj |-;apply RG;simp only[go_sem,hz];exact ai rfl aj (r:=[_]) rfl (Ui aa ac) ⟨rfl,rfl⟩
theorem Nt{I:PH}{v1 v2:Value}{l:List bX}(hz:l.length<=aF)(h1:Sl dg I v1 l)(h2:Sl dg I v2 l):aO Tryz.prog 91 #[v1,v2,.func (.func 92) #[] #[]] I [] fun r I2 qs=>qs=[]/\r=.bool true:=by
 intro hd;obtain⟨a1,c1,rfl,_⟩:=id h1;obtain⟨a2,c2,rfl,_⟩:=id h2;unfold aF at hz;have h0:((l.length:Int) != (l.length:Int))=false:=by simp
 refine Ot Tryz.func91 rfl fun w0=>?_;simp only[Tryz.ntmps91];apply RG;simp only[go_sem,h0];refine aB (fun x=>l.length-x) (KE (.slice a1 l.length c1) (.slice a2 l.length c2) (.func (.func 92) #[] #[]) l.length) (fun i H2=>∃I2,H2=U [I2]/\Dj [I2]/\I.le I2/\i<=l.length) 0 (ae (by simp only[go_sem,Tq,iv])) (by simp only[go_sem,Tq,KE]) ⟨I,rfl,hd,Uj _,S6 _⟩ ?_;rintro i H2 ⟨I2,rfl,aj,aa,hi⟩ ac;simp only[KE];rcases Sw i l.length with an|a6
 ·have am:=Z5 (a:=i) (b:=l.length) (by omega);have e1:=Z7 (i:=i) (by omega);obtain⟨n,hn⟩:∃n,l[i]?=some n:=⟨_,SC an⟩;obtain⟨b1,o1,cx,rfl,aS,a3⟩:=Sl.load dg.len (SlE.le h1 aa) hn;obtain⟨b2,o2,cy,rfl,ap,a0⟩:=Sl.load dg.len (SlE.le h2 aa) hn;obtain⟨xa,xk,rfl,a5⟩:=id aS;obtain⟨ya,yk,rfl,a4⟩:=id ap;apply RG;simp only[go_sem,iv,am]
  try refine⟨by omega,?_⟩
  refine Qz (l:=[.int .u8 n.code,.int .i64 n.tok,sD xa xk n.cond,rD n.cond]) (v:=.agg #[.int .u8 n.code,.int .i64 n.tok,sD xa xk n.cond,rD n.cond]) rfl (cellsU aj (.head _) a3) (.inl ⟨iQ,rfl⟩) ?_;apply RG;simp only[go_sem,iv,sD,rD]
  try refine⟨by omega,?_⟩
  refine Qz (l:=[.int .u8 n.code,.int .i64 n.tok,sD ya yk n.cond,rD n.cond]) (v:=.agg #[.int .u8 n.code,.int .i64 n.tok,sD ya yk n.cond,rD n.cond]) rfl (cellsU aj (.head _) a0) (.inl ⟨iQ,rfl⟩) ?_;apply RG;simp only[go_sem,iv,sD,rD];refine NB aj [] rfl My (by rfl) (ps:=[]) (F:=[]) rfl (HH aS ap) fun v I3 qs ao ak hq=>?_;obtain⟨rfl,rfl⟩:=hq;simp only[Z3]at ao |-;apply RG;simp only[go_sem,iv,sD,rD,e1];exact ac (i+1) _ _ (by omega) (ae (by simp only[go_sem,Tq,iv])) (by simp only[go_sem,Tq,KE]) ⟨I3,rfl,ao,Ui aa ak,an⟩
 ·have:i=l.length:=by omega
  subst this;have am:=Z6 l.length;apply RG;simp only[go_sem,iv,am];exact ai rfl aj (r:=[_]) rfl aa ⟨rfl,rfl⟩
theorem K1{I:PH}{v1 v2:Value}{t:Tr}(h1:zW I v1 t)(h2:zW I v2 t)(hz:cK t.kids<=aF)(aS:t.diags.length<=aF):aO Tryz.prog 35 #[v1,v2] I [] fun r I2 qs=>qs=[]/\r=.bool true:=by
 obtain⟨k1,d1,rfl,am,_,ap,_⟩:=h1;obtain⟨k2,d2,rfl,ak,_,ac,_⟩:=h2;obtain⟨ka,kc,rfl,_⟩:=id am;obtain⟨la,lc,rfl,_⟩:=id ak;obtain⟨da,dc,rfl,_⟩:=id ap;obtain⟨ea,ec,rfl,_⟩:=id ac;intro hd;refine Ot Tryz.func35 rfl fun w0=>?_;simp only[Tryz.ntmps35];apply RG;simp only[go_sem];refine NB hd [] rfl EL (by rfl) (ps:=[]) (F:=[]) rfl (Nz (cK t.kids+1) (Tv _) hz am ak) fun v I2 qs ao aa hq=>?_;obtain⟨rfl,rfl⟩:=hq;simp only[Z3]at ao |-;apply RG;simp only[go_sem];refine NB ao [] rfl Mz (by rfl) (ps:=[]) (F:=[]) rfl (Nt aS (SlE.le ap aa) (SlE.le ac aa)) fun v I3 qs an aj hq=>?_;obtain⟨rfl,rfl⟩:=hq;simp only[Z3]at an |-;apply RG;simp only[go_sem];exact ai rfl an (r:=[_]) rfl (Ui aa aj) ⟨rfl,rfl⟩
theorem Ab:aP Tryz.prog 23:=⟨_,Tryz.func23,rfl,rfl⟩
theorem FF:aP Tryz.prog 34:=⟨_,Tryz.func34,rfl,rfl⟩
theorem FU:aP Tryz.prog 63:=⟨_,Tryz.func63,rfl,rfl⟩
theorem Lj:aP Tryz.prog 64:=⟨_,Tryz.func64,rfl,rfl⟩
theorem LI:aP Tryz.prog 21:=⟨_,Tryz.func21,rfl,rfl⟩
theorem Hp:aP Tryz.prog 25:=⟨_,Tryz.func25,rfl,rfl⟩
theorem Ct:aP Tryz.prog 69:=⟨_,Tryz.func69,rfl,rfl⟩
def tz(_:PH)(c:List Value)(x:Nat×Nat):Prop:=c=[.int .u32 x.1,.int .u32 x.2]/\x.1<2^32/\x.2<2^32
abbrev uj(I:PH)(v:Value)(l:List (Nat×Nat)):Prop:=Sl tz I v l
theorem tz.len{I:PH}(c:List Value)(x:Nat×Nat)(h:tz I c x):c.length=2:=by rw[h.1];rfl
theorem uj.le{I J:PH}{v:Value}{l:List (Nat×Nat)}(h:uj I v l)(k:I.le J):uj J v l:=Sl.le (R:=tz) (fun{I J c a} h k=>h) h k
def JS(v:Value)(x:Nat×Option Addr×Nat×T):St:=⟨dn 26 [(0,.v v),(2,.p 2 0),(3,.p 3 0),(4,.v (iv x.1))],[⟨2,50,[.slice none 0 0,.int .i64 0]⟩,⟨3,50,[sD x.2.1 x.2.2.1 x.2.2.2,rD x.2.2.2]⟩]⟩
def PA(l:List (Nat×Nat))(I0:PH)(x:Nat×Option Addr×Nat×T)(H:PH):Prop:=∃I,H=U [I]/\Dj [I]/\I0.le I/\x.1<=l.length/\x.2.2.2=jO (l.take x.1)/\cu I (.agg #[sD x.2.1 x.2.2.1 x.2.2.2,rD x.2.2.2]) x.2.2.2
theorem i8{α:Type}{l:List α}{i:Nat}{n:α}(h:l[i]?=some n):l.take (i+1)=l.take i++[n]:=by
 rw[List.take_add_one,h];rfl
theorem Gv{I:PH}{v:Value}{l:List (Nat×Nat)}(hS:uj I v l)(hl:l.length<2^60):aO Tryz.prog 23 #[v] I [] fun r I2 qs=>qs=[]/\cu I2 r (jO l):=by
 obtain⟨va,vc,rfl,_⟩:=id hS;intro hd;refine Ot Tryz.func23 rfl fun w0=>?_;simp only[Tryz.ntmps23];apply RG;simp only[go_sem];refine Pf rfl sV (oH _) fun v H2 hv=>?_;obtain⟨rfl,rfl⟩:=hv;apply RG;simp only[go_sem,iv];refine aB (fun x=>l.length-x.1) (JS (.slice va l.length vc)) (PA l I) (0,none,0,.lf false) (ae (by simp only[go_sem,Tq,iv])) (by simp only[go_sem,Tq,JS,sD,rD,iv,T.subs,T.vis,T.plc,S9,Tp,Si]) ?_ ?_
 ·exact⟨I,rfl,hd,Uj _,S6 _,rfl,jP I false⟩
 rintro⟨i,da,dk,d⟩ H ⟨I1,rfl,an,ac,hi,am,hr⟩ aj;simp only at hi am hr;simp only[JS];rcases Sw i l.length with aS|a3
 ·have h9:=Z5 (a:=i) (b:=l.length) (by omega);have e1:=Z7 (i:=i) (by omega);obtain⟨x,hx⟩:∃x,l[i]?=some x:=⟨_,SC aS⟩;obtain⟨b,off,cs,rfl,⟨rfl,x1,x2⟩,aa⟩:=Sl.load (fun{I} c a h=>tz.len (I:=I) c a h) (uj.le hS ac) hx;have c0:=aa.get (i:=0) rfl;have c1:=aa.get (i:=1) rfl;apply RG;simp only[go_sem,iv,h9];refine ax mixed [0,1,2,3,4,5,6,7,8,9,10,11,12,13] [5,10] [] rfl rfl ?_;apply af;simp only[go_sem,iv,sD,rD]
  try refine⟨by omega,?_⟩
  refine P7 (l:=[.int .u32 x.1]) rfl (cellsU an (.head _) (by simpa using c0)) (.inr ⟨qZ,rfl⟩) ?_;apply af;simp only[go_sem,iv,sD,rD]
  try refine⟨by omega,?_⟩
  refine P7 (l:=[.int .u32 x.2]) rfl (cellsU an (.head _) (by simpa using c1)) (.inr ⟨qZ,rfl⟩) ?_;apply af;simp only[go_sem,iv,sD,rD];refine Og an [] rfl (fun h=>by cases h) rfl Ct (by rfl) (ps:=[]) (F:=[]) rfl (AX x1 x2) fun v1 I2 qs a1 ak hq=>?_;obtain⟨rfl,a2⟩:=hq;simp only[Z3]at a1 |-;obtain⟨za,zk,rfl⟩:=a2.shape2;apply af;simp only[go_sem,iv,sD,rD];refine Og a1 [] rfl (fun h=>by cases h) rfl sQ (by rfl) (ps:=[]) (F:=[]) rfl (G1 (hr.le ak) a2) fun v2 I3 qs a0 ao hq=>?_;obtain⟨rfl,ap⟩:=hq;simp only[Z3]at a0 |-;obtain⟨ya,yk,rfl⟩:=ap.shape2;apply af;simp only[go_sem,iv,sD,rD];refine aw ?_;apply RG;simp only[go_sem,iv,e1];refine aj (i+1,ya,yk,d.or (gL x.1 x.2)) _ _ (by simp only;omega) (ae (by simp only[go_sem,Tq,iv])) (by simp only[go_sem,Tq,JS,sD,rD,iv]) ⟨I3,rfl,a0,Ui ac (Ui ak ao),aS,?_,ap⟩;simp only;rw[i8 hx,am];unfold jO;rw[T9];rfl
 ·have:i=l.length:=by omega
  subst this;rw[Td]at am;have h9:=Z6 l.length;apply RG;simp only[go_sem,iv,h9,sD,rD];exact ai rfl an (r:=[.agg #[sD da dk d,rD d]]) (by simp only[Tryz.results23,go_sem,iv,sD,rD]) ac ⟨rfl,by rw[<-am];exact hr⟩
def GZ(v:Value)(c:Nat)(i:Nat):St:=⟨dn 38 [(0,.v v),(1,.v (.int .u32 c)),(5,.v (iv i))],[]⟩
theorem NG{H:PH}{v:Value}{l:List (Nat×Nat)}{c:Nat}(hS:uj H v l)(hl:l.length<2^60)(hc:c<2^32):bv Tryz.prog 34 #[v,.int .u32 c] H fun r H2=>r=.bool (KF l c)/\H2=H:=by
 obtain⟨va,vc,rfl,_⟩:=id hS;refine Ot Tryz.func34 rfl fun w0=>?_;simp only[Tryz.ntmps34];apply RG;simp only[go_sem];refine aB (fun x=>l.length-x) (GZ (.slice va l.length vc) c) (fun i H2=>H2=H/\i<=l.length/\KF l c=(l.drop i).any (EF c)) 0 (ae (by simp only[go_sem,Tq,iv])) (by simp only[go_sem,Tq,GZ]) ⟨rfl,S6 _,rfl⟩ ?_;rintro i H2 ⟨rfl,hi,ha⟩ aa;simp only[GZ];rcases Sw i l.length with aj|an
 ·have h9:=Z5 (a:=i) (b:=l.length) (by omega);have e1:=Z7 (i:=i) (by omega);obtain⟨x,hx⟩:∃x,l[i]?=some x:=⟨_,SC aj⟩;obtain⟨b,off,cs,rfl,⟨rfl,x1,x2⟩,ac⟩:=Sl.load (fun{I} c a h=>tz.len (I:=I) c a h) hS hx;have c0:=ac.get (i:=0) rfl;have c1:=ac.get (i:=1) rfl;have am:l.drop i=x::l.drop (i+1):=by
   rw[S5 aj];rw[SC aj]at hx;rw[Tk hx]
  rw[am,List.any_cons]at ha;have b1:c&&&x.1<2^32:=TM TN hc;have b2:c&&&x.2<2^32:=TM TN hc;have a1:=jY hc x1;have a2:qN .u32 ((c&&&x.1:Nat):Int) 16777215=(((c&&&x.1)&&&16777215:Nat):Int):=jY b1 (by decide);have a3:qN .u32 ((x.1:Nat):Int) 16777215=((x.1&&&16777215:Nat):Int):=jY x1 (by decide);have a4:=jY hc x2;have a5:qN .u32 ((c&&&x.2:Nat):Int) 16777215=(((c&&&x.2)&&&16777215:Nat):Int):=jY b2 (by decide);have q1:=Ht ((c&&&x.1)&&&16777215) (x.1&&&16777215);have q2:((((c&&&x.2)&&&16777215:Nat):Int) == 0)=decide ((c&&&x.2)&&&16777215=0):=pK _;apply RG;simp only[go_sem,iv,h9];refine ax mixed [0,1,2,3,4,5,6,7,8,9,10,11,12,13,14,15,16,17,18,19,20,21,22,23,24,25] [5,12,21] [] rfl rfl ?_;apply af;simp only[go_sem,iv]
  try refine⟨by omega,?_⟩
  refine P7 (l:=[.int .u32 x.1]) rfl (by simpa using c0) (.inr ⟨qZ,rfl⟩) ?_;apply af;simp only[go_sem,iv]
  try refine⟨by omega,?_⟩
  refine P7 (l:=[.int .u32 x.1]) rfl (by simpa using c0) (.inr ⟨qZ,rfl⟩) ?_;cases h1:decide ((c&&&x.1)&&&16777215=x.1&&&16777215)
  ·rw[h1]at q1;have ak:EF c x=false:=by unfold EF;rw[h1];rfl
   apply af;simp only[go_sem,iv,a1,a2,a3,q1];refine aw ?_;apply RG;simp only[go_sem,iv,e1];exact aa (i+1) _ _ (by omega) (ae (by simp only[go_sem,Tq,iv])) (by simp only[go_sem,Tq,GZ]) ⟨rfl,aj,by rw[ha,ak,TS]⟩
  ·rw[h1]at q1;apply af;simp only[go_sem,iv,a1,a2,a3,q1]
   try refine⟨by omega,?_⟩
   refine P7 (l:=[.int .u32 x.2]) rfl (by simpa using c1) (.inr ⟨qZ,rfl⟩) ?_;cases h2:decide ((c&&&x.2)&&&16777215=0)
   ·rw[h2]at q2;have ak:EF c x=false:=by unfold EF;rw[h2,Bool.and_false]
    apply af;simp only[go_sem,iv,a4,a5,q2];refine aw ?_;apply RG;simp only[go_sem,iv,e1];exact aa (i+1) _ _ (by omega) (ae (by simp only[go_sem,Tq,iv])) (by simp only[go_sem,Tq,GZ]) ⟨rfl,aj,by rw[ha,ak,TS]⟩
   ·rw[h2]at q2;have ak:EF c x=true:=by unfold EF;rw[h1,h2];rfl
    apply af;simp only[go_sem,iv,a4,a5,q2];refine aw ?_;apply RG;simp only[go_sem,iv];exact aK (r:=[_]) rfl ⟨by rw[ha,ak];rfl,rfl⟩
 ·have:i=l.length:=by omega
  subst this;rw[T4]at ha;have h9:=Z6 l.length;apply RG;simp only[go_sem,iv,h9];exact aK (r:=[_]) rfl ⟨by rw[ha];rfl,rfl⟩
theorem wrap32(z:Int):∃n:Nat,n<2^32/\IntKind.u32.wrap z=(n:Int):=by
 refine⟨(z % 4294967296).toNat,by omega,?_⟩;simp only[IntKind.wrap,show IntKind.bits .u32=32 from rfl,show IntKind.signed .u32=false from rfl];simp;omega
theorem Js(a b:Int):∃n:Nat,n<2^32/\Py .u32 a b=(n:Int):=wrap32 _
def Pk(v:Value)(x:Nat×Nat):St:=⟨dn 26 [(0,.v v),(3,.v (.int .u32 x.2)),(4,.v (iv x.1))],[]⟩
theorem E1{H:PH}{v:Value}{l:List (Nat×Nat)}(hS:uj H v l)(hl:l.length<2^60):bv Tryz.prog 63 #[v] H fun r H2=>(∃u:Nat,u<2^32/\r=.int .u32 u)/\H2=H:=by
 obtain⟨va,vc,rfl,_⟩:=id hS;refine Ot Tryz.func63 rfl fun w0=>?_;simp only[Tryz.ntmps63];apply RG;simp only[go_sem];refine aB (fun x=>l.length-x.1) (Pk (.slice va l.length vc)) (fun x H2=>H2=H/\x.1<=l.length/\x.2<2^32) (0,0) (ae (by simp only[go_sem,Tq,iv])) (by simp only[go_sem,Tq,Pk]) ⟨rfl,S6 _,by decide⟩ ?_;rintro⟨i,u⟩ H2 ⟨rfl,hi,hu⟩ ac;simp only at hi hu;simp only[Pk];rcases Sw i l.length with aj|an
 ·have h9:=Z5 (a:=i) (b:=l.length) (by omega);have e1:=Z7 (i:=i) (by omega);obtain⟨x,hx⟩:∃x,l[i]?=some x:=⟨_,SC aj⟩;obtain⟨b,off,cs,rfl,⟨rfl,x1,x2⟩,aa⟩:=Sl.load (fun{I} c a h=>tz.len (I:=I) c a h) hS hx;have c0:=aa.get (i:=0) rfl;have c1:=aa.get (i:=1) rfl;obtain⟨n1,am,q1⟩:=Js (u:Int) (x.1:Int);obtain⟨n2,ak,q2⟩:=Js (n1:Int) (x.2:Int);apply RG;simp only[go_sem,iv,h9];refine ax mixed [0,1,2,3,4,5,6,7,8,9,10,11,12,13] [5,11] [] rfl rfl ?_;apply af;simp only[go_sem,iv]
  try refine⟨by omega,?_⟩
  refine P7 (l:=[.int .u32 x.1]) rfl (by simpa using c0) (.inr ⟨qZ,rfl⟩) ?_;apply af;simp only[go_sem,iv,q1]
  try refine⟨by omega,?_⟩
  refine P7 (l:=[.int .u32 x.2]) rfl (by simpa using c1) (.inr ⟨qZ,rfl⟩) ?_;apply af;simp only[go_sem,iv,q2];refine aw ?_;apply RG;simp only[go_sem,iv,e1];exact ac (i+1,n2) _ _ (by simp only;omega) (ae (by simp only[go_sem,Tq,iv])) (by simp only[go_sem,Tq,Pk]) ⟨rfl,aj,ak⟩
 ·have:i=l.length:=by omega
  subst this;have h9:=Z6 l.length;have a1:qN .u32 (u:Int) 16777215=((u&&&16777215:Nat):Int):=jY hu (by decide);apply RG;simp only[go_sem,iv,h9,a1];exact aK (r:=[_]) rfl ⟨⟨_,TM TN hu,rfl⟩,rfl⟩
def pM(u:Nat):Nat->Nat
 |0=>0
 |i+1=>pM u i+(u.testBit i).toNat
theorem AO(u:Nat):∀i,pM u i<=i
 |0=>R7 _
 |i+1=>by
  have:=AO u i;show pM u i+(u.testBit i).toNat<=i+1;cases u.testBit i<;>simp<;>omega
theorem Hl(u:Nat){i j:Nat}(h:i<=j):pM u i<=pM u j:=by
 induction h with
 |refl=>exact R7 _
 |step _ ih=>exact R8 ih (Nat.le_add_right _ _)
theorem Qq(u i:Nat):(u >>> i)&&&1=(u.testBit i).toNat:=by
 rw[Nat.and_one_is_mod,Nat.testBit_eq_decide_div_mod_eq,TO];have:=Nat.mod_two_eq_zero_or_one (u / 2^i);rcases this with h|h<;>simp[h]
theorem Oo{u i:Nat}(hu:u<2^32)(hi:i<=32):qN .u32 (qj .u32 (u:Int) (i:Int)) 1=(((u.testBit i).toNat:Nat):Int):=by
 rw[Cy hi,<-Qq];exact jY (b:=1) (vX hu) (by decide)
def Pt(u most:Nat)(i:Nat):St:=⟨dn 21 [(0,.v (.int .u32 u)),(1,.v (iv most)),(5,.v (iv (pM u i))),(6,.v (iv i))],[]⟩
theorem O1{H:PH}{u most:Nat}(hu:u<2^32):bv Tryz.prog 64 #[.int .u32 u,iv most] H fun r H2=>r=.bool (decide (pM u 32<=most))/\H2=H:=by
 refine Ot Tryz.func64 rfl fun w0=>?_;simp only[Tryz.ntmps64,iv];apply RG;simp only[go_sem];refine aB (fun x=>32-x) (Pt u most) (fun i H2=>H2=H/\i<=32) 0 (ae (by simp only[go_sem,Tq,iv,pM])) (by simp only[go_sem,Tq,Pt]) ⟨rfl,S6 _⟩ ?_;rintro i H2 ⟨rfl,hi⟩ aa;simp only[Pt];have hp:=AO u i;rcases Sw i 32 with ac|ak
 ·have h8:decide ((i:Int)<32)=true:=Uh (by omega);have e1:=Z7 (i:=i) (by omega);have a1:=Oo hu (i:=i) (by omega);have b2:(u.testBit i).toNat<=1:=by cases u.testBit i<;>simp
  have w1:IntKind.i64.wrap (((u.testBit i).toNat:Nat):Int)=(((u.testBit i).toNat:Nat):Int):=wrap64 (by omega);have w2:IntKind.i64.wrap ((pM u i:Int)+(((u.testBit i).toNat:Nat):Int))=((pM u (i+1):Nat):Int):=by
   have e:(pM u i:Int)+(((u.testBit i).toNat:Nat):Int)=((pM u (i+1):Nat):Int):=by
    show _=(((pM u i+(u.testBit i).toNat:Nat)):Int);omega
   rw[e];exact wrap64 (by have:=AO u (i+1);omega)
  apply RG;simp only[go_sem,iv,h8,TP,a1,w1,w2,e1];exact aa (i+1) _ _ (by omega) (ae (by simp only[go_sem,Tq,iv])) (by simp only[go_sem,Tq,Pt]) ⟨rfl,ac⟩
 ·have:i=32:=by omega
  subst this;have aj:decide ((pM u 32:Int)<=(most:Int))=decide (pM u 32<=most):=by
   rw[Bool.eq_iff_iff,SX,SX];omega
  apply RG;simp only[go_sem,iv,TJ,aj];exact aK (r:=[_]) rfl ⟨rfl,rfl⟩
end Go.Proofs.YtfaclfkpnmcmlaaGreatDoor
namespace Syn
open Go Go.Sort
variable {α:Type} [Inhabited α] {lt:α->α->Bool}
theorem Me(d:Array α){i j:Nat}(hi:i<d.size)(hj:j<d.size)(k:Nat):(swp d i j)[k]! = if k=j then d[i]! else if k=i then d[j]! else d[k]!:=by
 by_cases h1:k=j
 ·rw[SI h1,h1];exact swp_right d i j hj
 ·rw[Sb h1];by_cases h2:k=i
  ·rw[SI h2,h2];exact swp_left d i j hi (fun e=>h1 (h2.trans e))
  ·rw[Sb h2];exact swp_other d i j k h2 h1
def Gu(a b i:Nat)(d e:Array α):Prop:=∀k,e[k]! = if a<=k/\k<a+i then d[k-a+b]! else if b<=k/\k<b+i then d[k-b+a]! else d[k]!
theorem Gu.zero(a b:Nat)(d:Array α):Gu a b 0 d d:=fun k=>by rw[Sb (by omega),Sb (by omega)]
theorem Gu.step{a b i n:Nat}{d e:Array α}(h:Gu a b i d e)(hs:e.size=d.size)(hi:i<n)(aa:a+n<=b)(hb:b+n<=d.size):Gu a b (i+1) d (swp e (a+i) (b+i)):=fun k=>by
 rw[Me e (by omega) (by omega) k,h k,h (a+i),h (b+i)];clear h
 repeat' split
 all_goals first|rfl|(exfalso;omega)|(congr 1;omega)
def xN(m i j:Nat)(c t:Array α):Prop:=∀k,t[k]! = if m-i<=k/\k<m-i+j then c[k+i]! else if m-i+j<=k/\k<m+j then c[k-j]! else c[k]!
theorem xN.left{m i j:Nat}{c c' t:Array α}(h:xN m i j c t)(hs:Gu (m-i) m j c c')(ac:j<i)(aa:i<=m):xN m (i-j) j c' t:=fun k=>by
 rw[h k,hs k,hs (k+(i-j)),hs (k-j)];clear h hs
 repeat' split
 all_goals first|rfl|(exfalso;omega)|(congr 1;omega)
theorem xN.right{m i j:Nat}{c c' t:Array α}(h:xN m i j c t)(hs:Gu (m-i) (m+j-i) i c c')(ac:i<j)(aa:i<=m):xN m i (j-i) c' t:=fun k=>by
 rw[h k,hs k,hs (k+i),hs (k-(j-i))];clear h hs
 repeat' split
 all_goals first|rfl|(exfalso;omega)|(congr 1;omega)
theorem xN.last{m i:Nat}{c c' t:Array α}(h:xN m i i c t)(hs:Gu (m-i) m i c c')(aa:i<=m)(hz:t.size=c'.size):t=c':=by
 have key:∀k,t[k]! = c'[k]!:=fun k=>by
  rw[h k,hs k];clear h hs
  repeat' split
  all_goals first|rfl|(exfalso;omega)|(congr 1;omega)
 refine Array.ext hz fun k h1 h2=>?_;have:=key k
 rwa [getElem!_pos t k h1,getElem!_pos c' k h2]at this
theorem xN.ex(m i j:Nat)(c:Array α)(aa:i<=m)(hj:m+j<=c.size):∃t,t.size=c.size/\xN m i j c t:=by
 refine⟨Array.ofFn (n:=c.size) fun k=>if m-i<=k.1/\k.1<m-i+j then c[k.1+i]! else if m-i+j<=k.1/\k.1<m+j then c[k.1-j]! else c[k.1]!,by simp,fun k=>?_⟩;by_cases hk:k<c.size
 ·rw[getElem!_pos _ k (by simpa using hk)];simp[hk]
 ·rw[getElem!_neg _ k (by simpa using hk),Sb (by omega),Sb (by omega),getElem!_neg c k hk]
def Kf(a k:Nat)(d e:Array α):Prop:=∀x,e[x]! = if a<=x/\x<k then d[x+1]! else if x=k then d[a]! else d[x]!
theorem Kf.zero(a:Nat)(d:Array α):Kf a a d d:=fun x=>by
 rw[Sb (by omega)];split
 ·rename_i h;rw[h]
 ·rfl
theorem Kf.step{a k:Nat}{d e:Array α}(h:Kf a k d e)(hs:e.size=d.size)(hk:a<=k)(aa:k+1<d.size):Kf a (k+1) d (swp e k (k+1)):=fun x=>by
 rw[Me e (by omega) (by omega) x,h x,h k,h (k+1)];clear h
 repeat' split
 all_goals first|rfl|(exfalso;omega)|(congr 1;omega)
def KZ(m k:Nat)(d e:Array α):Prop:=∀x,e[x]! = if x=k then d[m]! else if k<x/\x<=m then d[x-1]! else d[x]!
theorem KZ.zero(m:Nat)(d:Array α):KZ m m d d:=fun x=>by
 split
 ·rename_i h;rw[h]
 ·rw[Sb (by omega)]
theorem KZ.step{m k:Nat}{d e:Array α}(h:KZ m (k+1) d e)(hs:e.size=d.size)(hk:k+1<=m)(hm:m<d.size):KZ m k d (swp e (k+1) k):=fun x=>by
 rw[Me e (by omega) (by omega) x,h x,h (k+1),h k];clear h
 repeat' split
 all_goals first|rfl|(exfalso;omega)|(congr 1;omega)
section
variable (h:SWO lt)
include h
omit [Inhabited α] in
theorem oV{x y:α}(e:lt x y=true):lt y x=false:=by
 cases aa:lt y x with
 |false=>rfl
 |true=>have:=h.trans _ _ _ e aa;rw[h.irrefl]at this;cases this
theorem La{d e:Array α}{a m b i:Nat}(hm:m=a+1)(hs:SortedIn lt m b d)(aj:m<=i)(ak:i<=b)(hl:i=m\/lt d[i-1]! d[a]! = true)(hr:i=b\/lt d[i]! d[a]! = false)(aa:Kf a (i-1) d e):SortedIn lt a b e:=by
 have lo:∀k,m<=k->k<i->lt d[k]! d[a]! = true:=fun k h1 h2=>by
  rcases hl with e0|e0
  ·omega
  ·by_cases hk:k=i-1
   ·rw[hk];exact e0
   ·cases hc:lt d[k]! d[a]! with
    |true=>rfl
    |false=>
     have:=h.ntrans _ _ _ (hs k (i-1) h1 (by omega) (by omega)) hc;rw[e0]at this;cases this
 have hi:∀k,i<=k->k<b->lt d[k]! d[a]! = false:=fun k h1 h2=>by
  rcases hr with e0|e0
  ·omega
  ·by_cases hk:k=i
   ·rw[hk];exact e0
   ·exact h.ntrans _ _ _ (hs i k aj (by omega) h2) e0
 intro x y hx ac hy;rw[aa x,aa y];by_cases c1:a<=x/\x<i-1
 ·rw[SI c1];by_cases c2:a<=y/\y<i-1
  ·rw[SI c2];exact hs _ _ (by omega) (by omega) (by omega)
  ·rw[Sb c2];by_cases c3:y=i-1
   ·rw[SI c3];exact oV h (lo _ (by omega) (by omega))
   ·rw[Sb c3];exact hs _ _ (by omega) (by omega) (by omega)
 ·rw[Sb c1,Sb (show ¬(a<=y/\y<i-1) by omega)];by_cases c3:x=i-1
  ·rw[SI c3,Sb (by omega)];exact hi y (by omega) hy
  ·rw[Sb c3,Sb (by omega)];exact hs _ _ (by omega) ac hy
theorem GL{d e:Array α}{a m b i:Nat}(hb:b=m+1)(hs:SortedIn lt a m d)(aj:a<=i)(ak:i<=m)(hl:i=a\/lt d[m]! d[i-1]! = false)(hr:i=m\/lt d[m]! d[i]! = true)(aa:KZ m i d e):SortedIn lt a b e:=by
 have lo:∀k,a<=k->k<i->lt d[m]! d[k]! = false:=fun k h1 h2=>by
  rcases hl with e0|e0
  ·omega
  ·by_cases hk:k=i-1
   ·rw[hk];exact e0
   ·exact h.ntrans _ _ _ e0 (hs k (i-1) h1 (by omega) (by omega))
 have hi:∀k,i<=k->k<m->lt d[k]! d[m]! = false:=fun k h1 h2=>by
  rcases hr with e0|e0
  ·omega
  ·by_cases hk:k=i
   ·rw[hk];exact oV h e0
   ·exact h.ntrans _ _ _ (hs i k aj (by omega) h2) (oV h e0)
 intro x y hx ac hy;rw[aa x,aa y];by_cases c1:x=i
 ·rw[SI c1,Sb (by omega),SI (by omega)];exact hi _ (by omega) (by omega)
 ·rw[Sb c1];by_cases c2:i<x/\x<=m
  ·rw[SI c2,Sb (by omega),SI (by omega)];exact hs _ _ (by omega) (by omega) (by omega)
  ·rw[Sb c2];by_cases c3:y=i
   ·rw[SI c3];exact lo x hx (by omega)
   ·rw[Sb c3];by_cases c4:i<y/\y<=m
    ·rw[SI c4];exact hs _ _ hx (by omega) (by omega)
    ·rw[Sb c4];exact hs _ _ hx ac (by omega)
theorem Ig{d e:Array α}{a m b s mid:Nat}(a6:a<=m)(a1:m<=b)(hA:SortedIn lt a m d)(hB:SortedIn lt m b d)(am:mid=(a+b) / 2)
  (a0:a<=s) (aS:s<=m) (ap:s<=mid) (a5:m<=mid+m-s) (a4:mid+m-s<=b) (hl:(m>mid->mid+m-s=b\/s=a\/lt d[mid+m-s]! d[s-1]! = false)/\(m<=mid->s=a\/lt d[mid+m-s]! d[s-1]! = false)) (hr:s=(if m>mid then mid else m)\/lt d[mid+m-s-1]! d[s]! = true)
  (ak:xN m (m-s) (mid+m-s-m) d e) :
  SortedIn lt a s e/\SortedIn lt s mid e/\SortedIn lt mid (mid+m-s) e/\SortedIn lt (mid+m-s) b e/\∀i j,a<=i->i<mid->mid<=j->j<b->lt e[j]! e[i]! = false:=by
 have ao:a<s->mid+m-s<b->lt d[mid+m-s]! d[s-1]! = false:=fun h1 h2=>by
  by_cases c:m>mid
  ·rcases hl.1 c with e0|e0|e0
   ·omega
   ·omega
   ·exact e0
  ·rcases hl.2 (by omega)with e0|e0
   ·omega
   ·exact e0
 have an:m<mid+m-s->s<m->lt d[s]! d[mid+m-s-1]! = false:=fun h1 h2=>by
  rcases hr with e0|e0
  ·split at e0<;>omega
  ·exact oV h e0
 have g:∀k,a<=k->k<b->(k<s/\e[k]! = d[k]!)\/(s<=k/\k<mid/\e[k]! = d[k+(m-s)]!)\/(mid<=k/\k<mid+m-s/\e[k]! = d[k-(mid-s)]!)\/(mid+m-s<=k/\e[k]! = d[k]!):=fun k h1 h2=>by
  have hk:=ak k;by_cases c1:k<s
  ·rw[Sb (by omega),Sb (by omega)]at hk;exact .inl ⟨c1,hk⟩
  ·by_cases c2:k<mid
   ·rw[SI (by omega)]at hk;exact .inr (.inl ⟨by omega,c2,hk⟩)
   ·by_cases c3:k<mid+m-s
    ·rw[Sb (by omega),SI (by omega)]at hk;exact .inr (.inr (.inl ⟨by omega,c3,by rw[hk];congr 1;omega⟩))
    ·rw[Sb (by omega),Sb (by omega)]at hk;exact .inr (.inr (.inr ⟨by omega,hk⟩))
 refine⟨fun x y hx aa hy=>?_,fun x y hx aa hy=>?_,fun x y hx aa hy=>?_,fun x y hx aa hy=>?_,fun i j ac a3 a2 aj=>?_⟩
 ·rcases g x hx (by omega)with ⟨_,e1⟩|⟨_,_,e1⟩|⟨_,_,e1⟩|⟨_,e1⟩<;>rcases g y (by omega) (by omega)with ⟨_,e2⟩|⟨_,_,e2⟩|⟨_,_,e2⟩|⟨_,e2⟩<;>try omega
  rw[e1,e2];exact hA _ _ hx aa (by omega)
 ·rcases g x (by omega) (by omega)with ⟨_,e1⟩|⟨_,_,e1⟩|⟨_,_,e1⟩|⟨_,e1⟩<;>rcases g y (by omega) (by omega)with ⟨_,e2⟩|⟨_,_,e2⟩|⟨_,_,e2⟩|⟨_,e2⟩<;>try omega
  rw[e1,e2];exact hB _ _ (by omega) (by omega) (by omega)
 ·rcases g x (by omega) (by omega)with ⟨_,e1⟩|⟨_,_,e1⟩|⟨_,_,e1⟩|⟨_,e1⟩<;>rcases g y (by omega) (by omega)with ⟨_,e2⟩|⟨_,_,e2⟩|⟨_,_,e2⟩|⟨_,e2⟩<;>try omega
  rw[e1,e2];exact hA _ _ (by omega) (by omega) (by omega)
 ·rcases g x (by omega) (by omega)with ⟨_,e1⟩|⟨_,_,e1⟩|⟨_,_,e1⟩|⟨_,e1⟩<;>rcases g y (by omega) (by omega)with ⟨_,e2⟩|⟨_,_,e2⟩|⟨_,_,e2⟩|⟨_,e2⟩<;>try omega
  rw[e1,e2];exact hB _ _ (by omega) (by omega) (by omega)
 ·
  have leB:∀x y,m<=x->x<=y->y<b->lt d[y]! d[x]! = false:=fun x y h1 h2 h3=>by
   rcases Nat.lt_or_eq_of_le h2 with c|c
   ·exact hB x y h1 c h3
   ·rw[c];exact h.irrefl _
  have leA:∀x y,a<=x->x<=y->y<m->lt d[y]! d[x]! = false:=fun x y h1 h2 h3=>by
   rcases Nat.lt_or_eq_of_le h2 with c|c
   ·exact hA x y h1 c h3
   ·rw[c];exact h.irrefl _
  rcases g i ac (by omega)with ⟨p1,e1⟩|⟨p1,p2,e1⟩|⟨_,_,e1⟩|⟨_,e1⟩<;>rcases g j (by omega) aj with ⟨_,e2⟩|⟨_,_,e2⟩|⟨q1,q2,e2⟩|⟨q1,e2⟩<;>try omega
  ·rw[e1,e2];exact hA _ _ ac (by omega) (by omega)
  ·rw[e1,e2];have f:=ao (by omega) (by omega);exact h.ntrans _ _ _ (leB (mid+m-s) j (by omega) (by omega) aj) (h.ntrans _ _ _ f (leA i (s-1) ac (by omega) (by omega)))
  ·rw[e1,e2];have f:=an (by omega) (by omega);exact h.ntrans _ _ _ (leA s (j-(mid-s)) (by omega) (by omega) (by omega)) (h.ntrans _ _ _ f (leB (i+(m-s)) (mid+m-s-1) (by omega) (by omega) (by omega)))
  ·rw[e1,e2];exact hB _ _ (by omega) (by omega) (by omega)
omit h in
theorem zu{d1 d2 d3:Array α}{a b mid:Nat}(ac:a<=mid)(aa:mid<=b)(hb:b<=d1.size)(hx:∀i j,a<=i->i<mid->mid<=j->j<b->lt d1[j]! d1[i]! = false)
  (p2:PermIn a mid d1 d2) (s2:SortedIn lt a mid d2) (p3:PermIn mid b d2 d3) (s3:SortedIn lt mid b d3):PermIn a b d1 d3/\SortedIn lt a b d3:=by
 have z2:=p2.1;refine⟨permIn_trans _ _ _ a b (permIn_mono _ _ a mid a b (R7 _) aa hb p2) (permIn_mono _ _ mid b a b ac (R7 _) (by omega) p3),?_⟩;have x2:∀j,mid<=j->j<b->∀i,a<=i->i<mid->lt d1[j]! d2[i]! = false:=fun j h1 h2=>permIn_all d1 d2 a mid (fun x=>lt d1[j]! x=false) (by omega) p2 (fun i h3 h4=>hx i j h3 h4 h1 h2);have x3:∀i,a<=i->i<mid->∀j,mid<=j->j<b->lt d3[j]! d2[i]! = false:=fun i h1 h2=>permIn_all d2 d3 mid b (fun y=>lt y d2[i]! = false) (by omega) p3 (fun j h3 h4=>by rw[p2.2.1 j (.inr h3)];exact x2 j h3 h4 i h1 h2);intro i j h1 h2 h3;by_cases c1:j<mid
 ·rw[p3.2.1 i (.inl (by omega)),p3.2.1 j (.inl c1)];exact s2 i j h1 h2 c1
 ·by_cases c2:mid<=i
  ·exact s3 i j c2 h2 h3
  ·rw[p3.2.1 i (.inl (by omega))];exact x3 i h1 (by omega) j (by omega) h3
end
theorem SortedIn.sub{d:Array α}{a b a' b':Nat}(h:SortedIn lt a b d)(h1:a<=a')(h2:b'<=b):SortedIn lt a' b' d:=fun i j x y z=>h i j (by omega) y (by omega)
def yD(lt:α->α->Bool)(s x n:Nat)(d:Array α):Prop:=∀i j,x<=i->i<j->j<n->i / s=j / s->lt d[j]! d[i]! = false
def dM(lt:α->α->Bool)(s x:Nat)(d:Array α):Prop:=∀i j,i<j->j<x->i / s=j / s->lt d[j]! d[i]! = false
theorem wK{s q i:Nat}(hs:0<s)(h1:s*q<=i)(h2:i<s*q+s):i / s=q:=by
 refine Nat.div_eq_of_lt_le ?_ ?_
 ·rw[Nat.mul_comm];exact h1
 ·rw[Nat.mul_comm,Nat.mul_add,Nat.mul_one];exact h2
theorem JA{s q i:Nat}(hs:0<s)(h:i / s=q):s*q<=i/\i<s*q+s:=by
 subst h;have h1:=Nat.div_add_mod i s;have h2:=Nat.mod_lt i hs;omega
theorem dM.zero(s:Nat)(d:Array α):dM lt s 0 d:=fun i j _ h=>by omega
theorem dM.step{s q x:Nat}{d e:Array α}(hs:0<s)(h:dM lt s (s*q) d)(hx:x<=s*q+s)(hp:PermIn (s*q) x d e)(ac:SortedIn lt (s*q) x e):dM lt s x e:=fun i j aa hj hd=>by
 by_cases c:j<s*q
 ·rw[hp.2.1 i (.inl (by omega)),hp.2.1 j (.inl c)];exact h i j aa c hd
 ·have e1:j / s=q:=wK hs (by omega) (by omega);have:=(JA hs (hd.trans e1)).1;exact ac i j this aa hj
theorem dM.all{s n:Nat}{d:Array α}(h:dM lt s n d)(hn:n<=s):SortedIn lt 0 n d:=fun i j _ aa hj=>by
 refine h i j aa hj ?_;rw[Nat.div_eq_of_lt (by omega),Nat.div_eq_of_lt (by omega)]
theorem dM.runs{s n:Nat}{d:Array α}(h:dM lt s n d):yD lt s 0 n d:=fun i j _ aa hj hd=>h i j aa hj hd
theorem yD.at'{s q x n:Nat}{d:Array α}(hs:0<s)(h:yD lt s x n d)(hx:x<=s*q){y:Nat}(hy:y<=s*q+s)(hn:y<=n):SortedIn lt (s*q) y d:=fun i j h1 h2 h3=>
 h i j (by omega) h2 (by omega) (by rw[wK hs h1 (by omega),wK hs (show s*q<=j by omega) (by omega)])
theorem yD.keep{s x y n:Nat}{d e:Array α}(h:yD lt s x n d)(aa:x<=y)(hk:∀k,y<=k->e[k]! = d[k]!):yD lt s y n e:=fun i j h1 h2 h3 h4=>by
 rw[hk i h1,hk j (by omega)];exact h i j (by omega) h2 h3 h4
theorem dM.rest{s q n:Nat}{d:Array α}(hs:0<s)(h:dM lt s (s*q) d)(h2:SortedIn lt (s*q) n d)(hn:n<=s*q+s):dM lt s n d:=h.step hs hn (permIn_refl _ _ _) h2
end Syn
