import Derived.Test.YtfaclfkpnmcmlaaGreatDoorG08
import Derived.KernelRfl
import Derived.Test.YtfaclfkpnmcmlaaGreatDoorProg
set_option maxHeartbeats 8000000
set_option linter.all false
namespace Go.Proofs.YtfaclfkpnmcmlaaGreatDoor
open Go Go.Sx Go.Ke Dg
 noncomputable def MT(c:Nat):dp:=fun i=>c.testBit i
 noncomputable def mh(on off:Nat):Nat->T
 |0=>.lf true
 |n+1=>if on.testBit (23-n)then .nd (23-n) (.lf false) (mh on off n)else if off.testBit (23-n)then .nd (23-n) (mh on off n) (.lf false)else mh on off n
 noncomputable def BH(on off:Nat):T:=if (on&&&16777215)&&&(off&&&16777215)≠0 then .lf false else mh (on&&&16777215) (off&&&16777215) 24
 noncomputable def kR(s:KS):LV->Option T
 | .ag [.d0 i,.d1 j]=>if i=j then match s.L.get i with|some (.dia t)=>some t|_=>none else none
 | .ag [.v (.slice none 0 0),.v (.int .i64 0)]=>some (.lf false)
 | .ag [.v (.slice none 0 0),.v (.int .i64 1)]=>some (.lf true)
 |_=>none
 noncomputable def newD(s:KS)(t:T):Option (LV×KS×List Nat):=match s.L.put s.c (.dia t)with|some L=>some (.ag [.d0 s.c,.d1 s.c],⟨L,s.c+1⟩,[])|none=>none
 noncomputable def bl(s:KS)(b:Bool):Option (LV×KS×List Nat):=some (.v (.bool b),s,[])
 noncomputable def Aq(a:Int):Bool:=decide (0<=a/\a<4294967296)
 noncomputable def qF:c8:=fun f args s=>match f,args with
 |69,[.v (.int .u32 a),.v (.int .u32 b)]=>match Aq a && Aq b with|true=>newD s (BH a.toNat b.toNat)|false=>none
 |94,[a,b]=>match kR s a,kR s b with|some x,some y=>newD s (T.and x y)|_,_=>none
 |39,[a,b]=>match kR s a,kR s b with|some x,some y=>newD s (T.or x y)|_,_=>none
 |71,[a]=>match kR s a with|some x=>newD s (T.not x)|none=>none
 |27,[]=>newD s (.lf true)
 |80,[]=>newD s (.lf false)
 |50,[a]=>match kR s a with|some x=>bl s (decide (x=.lf false))|none=>none
 |68,[a]=>match kR s a with|some x=>bl s (decide (x=.lf true))|none=>none
 |36,[a,.v (.int .u32 c)]=>match Aq c,kR s a with|true,some t=>bl s (t.at' (MT c.toNat))|_,_=>none
 |53,[a,b]=>match kR s a,kR s b with|some x,some y=>bl s (decide (x=y))|_,_=>none
 |_,_=>none
 noncomputable def Vk(l:List UInt8):LV:=.v (.string ⟨⟨l⟩⟩)
 noncomputable def zM:List LV:=[[60,61],[62,61],[61,61],[33,61],[38,38],[124,124],[43],[45],[42],[47],[37],[60],[62],[61],[33],[40],[41],[123],[125],[44],[59],[58]].map Vk
 noncomputable def zy:List LV:=[.v (.int .u64 1),.v (.int .u64 10),.v (.int .u64 100),.v (.int .u64 1000),.v (.int .u64 10000),.v (.int .u64 100000),.v (.int .u64 1000000),.v (.int .u64 10000000),.v (.int .u64 100000000),.v (.int .u64 1000000000),.v (.int .u64 10000000000),.v (.int .u64 100000000000),.v (.int .u64 1000000000000),.v (.int .u64 10000000000000),.v (.int .u64 100000000000000),.v (.int .u64 1000000000000000),.v (.int .u64 10000000000000000),.v (.int .u64 100000000000000000),.v (.int .u64 1000000000000000000),.v (.int .u64 10000000000000000000)]
 noncomputable def L0(x y:Value):Tr LO:=Tr.set (Tr.set (Tr.set (Tr.set .lf 0 (.ro zM)) 1 (.ro [.v x])) 2 (.ro [.v y])) 3 (.ro zy)
 noncomputable def CQ(r:Option (LV×KS×List Nat)):Bool:=match r with|some (.v (.bool b),_,[])=>b|_=>false
set_option maxRecDepth 100000 in
theorem Mj(rep:PH->Value->Value->T->Prop)(mono:∀{I J:PH} {a b:Value} {t:T},rep I a b t->I.le J->rep J a b t)(ok:∀{kt:TypeId},(fun k=>k == 240) kt=true->Maps.Keyed Tryz.prog kt)(e c:TypeId)(f d:Value):
  CQ (qt ⟨Tryz.prog,rep,mono,fun k=>k == 240,ok⟩ qF (wj ⟨Tryz.prog,rep,mono,fun k=>k == 240,ok⟩ 6 qF 100000) 17 [] ⟨L0 (.iface e f) (.iface c d),1000⟩)=true:=ah
end Go.Proofs.YtfaclfkpnmcmlaaGreatDoor
