import Derived.Test.YtfaclfkpnmcmlaaGreatDoorG04
import Derived.Test.YtfaclfkpnmcmlaaGreatDoorProg
import Derived.KernelRfl
import Derived.DeepKeys4
set_option maxHeartbeats 8000000
set_option linter.all false
open Go.Proofs.Tryz
namespace Go.Proofs.YtfaclfkpnmcmlaaGreatDoor
open Go Go.Sx
theorem dI:Sx.a8 prog 3=some none:=by kernel_rfl
theorem mI:Sx.bk prog 3=some 1:=by kernel_rfl
theorem mT:Sx.aZ prog 3=some (.int .i64 0):=by kernel_rfl
theorem nG:Sx.bE prog 3=true:=by kernel_rfl
theorem qq:Sx.a8 prog 5=some none:=by kernel_rfl
theorem iT:Sx.a8 prog 9=some none:=by kernel_rfl
theorem dz:Sx.a8 prog 23=some none:=by kernel_rfl
theorem xx:Sx.a8 prog 33=some none:=by kernel_rfl
theorem Ec:Sx.bk prog 33=some 1:=by kernel_rfl
theorem Fg:Sx.a8 prog 36=some (some 2):=by kernel_rfl
theorem rZ:Sx.a8 prog 38=some none:=by kernel_rfl
theorem Ed:Sx.bk prog 38=some 1:=by kernel_rfl
theorem Bm:Sx.a8 prog 39=some none:=by kernel_rfl
theorem kO:Sx.a8 prog 43=some none:=by kernel_rfl
theorem Ee:Sx.bk prog 43=some 1:=by kernel_rfl
theorem qp:Sx.a8 prog 46=some none:=by kernel_rfl
theorem oR:Sx.a8 prog 48=some none:=by kernel_rfl
theorem Ef:Sx.bk prog 48=some 1:=by kernel_rfl
theorem nr:Sx.a8 prog 50=some (some 2):=by kernel_rfl
theorem Ac:Sx.bk prog 50=some 2:=by kernel_rfl
theorem AH:Sx.aZ prog 50=some (.agg #[.slice none 0 0,.int .i64 0]):=by kernel_rfl
theorem bK:Sx.a8 prog 60=some (some 7):=by kernel_rfl
theorem dF:Sx.bk prog 60=some 7:=by kernel_rfl
theorem jK:Sx.a8 prog 67=some (some 6):=by kernel_rfl
theorem JJ:Sx.bk prog 67=some 6:=by kernel_rfl
theorem Bn:Sx.a8 prog 78=some none:=by kernel_rfl
theorem fQ:Sx.a8 prog 80=some (some 4):=by kernel_rfl
theorem mJ:Sx.bk prog 80=some 4:=by kernel_rfl
theorem Kr:Sx.aZ prog 80=some (.agg #[.int .u8 0,.int .i64 0,.slice none 0 0,.int .i64 0]):=by kernel_rfl
theorem Fh:Sx.a8 prog 81=some none:=by kernel_rfl
theorem r8:Sx.a8 prog 91=some none:=by kernel_rfl
theorem qr:Sx.a8 prog 92=some none:=by kernel_rfl
theorem Fi:Sx.a8 prog 94=some (some 2):=by kernel_rfl
theorem l6:Sx.a8 prog 102=some (some 3):=by kernel_rfl
theorem JH:Sx.bk prog 102=some 3:=by kernel_rfl
theorem l7:Sx.a8 prog 181=some (some 3):=by kernel_rfl
theorem Fb:Sx.a8 prog 187=some (some 3):=by kernel_rfl
theorem xu:Sx.a8 prog 217=some none:=by kernel_rfl
theorem Bi:Sx.a8 prog 260=some none:=by kernel_rfl
theorem Fc:Sx.a8 prog 282=some none:=by kernel_rfl
theorem Bk:Sx.a8 prog 298=some none:=by kernel_rfl
theorem xv:Sx.a8 prog 301=some none:=by kernel_rfl
theorem xw:Sx.a8 prog 302=some none:=by kernel_rfl
theorem JI:Sx.bk prog 302=some 1:=by kernel_rfl
theorem Bl:Sx.a8 prog 315=some none:=by kernel_rfl
theorem Fe:Sx.a8 prog 316=some none:=by kernel_rfl
theorem Ff:Sx.a8 prog 317=some (some 22):=by kernel_rfl
theorem oQ:Sx.a8 prog 377=some none:=by kernel_rfl
theorem Ab:Sx.bk prog 377=some 1:=by kernel_rfl
def Js:Sx.ch prog 24 83 7 96:=ch.of (by kernel_rfl) (by kernel_rfl) O
def lJ:Sx.ch prog 33 60 7 96:=ch.of (by kernel_rfl) (by kernel_rfl) O
def lh:Sx.ch prog 34 80 4 48:=ch.of (by kernel_rfl) (by kernel_rfl) O
def i8:Sx.ch prog 38 67 6 88:=ch.of (by kernel_rfl) (by kernel_rfl) O
def mE:Sx.ch prog 39 102 3 40:=ch.of (by kernel_rfl) (by kernel_rfl) O
def ik:Sx.ch prog 43 23 1 4:=ch.of (by kernel_rfl) (by kernel_rfl) O
def zO:Sx.ch prog 48 181 3 24:=ch.of (by kernel_rfl) (by kernel_rfl) O
def jp:Sx.ch prog 81 3 1 8:=ch.of (by kernel_rfl) (by kernel_rfl) O
def Jt:Sx.ch prog 88 36 2 48:=ch.of (by kernel_rfl) (by kernel_rfl) O
def Jq:Sx.ch prog 104 111 7 112:=ch.of (by kernel_rfl) (by kernel_rfl) O
def Jr:Sx.ch prog 118 41 2 48:=ch.of (by kernel_rfl) (by kernel_rfl) O
def UN:Sx.ch prog 159 50 2 32:=ch.of (by kernel_rfl) (by kernel_rfl) O
theorem CM:prog.underlying 197=some (.map 3 50):=by kernel_rfl
theorem CN:prog.underlying 238=some (.map 240 3):=by kernel_rfl
theorem CO:prog.underlying 260=some (.map 335 3):=by kernel_rfl
def lI:Sx.ch prog 268 5 1 1:=ch.of (by kernel_rfl) (by kernel_rfl) O
def tw:Sx.ch prog 282 9 1 16:=ch.of (by kernel_rfl) (by kernel_rfl) O
theorem CP:prog.underlying 298=some (.map 181 3):=by kernel_rfl
theorem sM:prog.underlying 301=some (.map 3 3):=by kernel_rfl
def UO:Sx.ch prog 319 316 1 8:=ch.of (by kernel_rfl) (by kernel_rfl) O
def UP:Sx.ch prog 329 282 1 24:=ch.of (by kernel_rfl) (by kernel_rfl) O
theorem WT:Sx.br prog 3=.none/\Sx.bm prog 3=.int .i64/\Sx.a8 prog 4=some none/\Sx.bk prog 4=some 1/\Sx.aZ prog 4=some (.bool false)/\Sx.br prog 4=.none/\Sx.bm prog 4=.other/\Sx.bE prog 4=true/\Sx.bk prog 5=some 1/\Sx.aZ prog 5=some (.int .u8 0)/\Sx.br prog 5=.none/\Sx.bm prog 5=.int .u8/\Sx.bE prog 5=true/\Sx.bk prog 9=some 1/\Sx.aZ prog 9=some (.string ⟨#[]⟩)/\Sx.br prog 9=.none/\Sx.bm prog 9=.str/\Sx.bE prog 9=true/\Sx.a8 prog 22=some none/\Sx.bk prog 22=some 1/\Sx.aZ prog 22=some (.slice none 0 0)/\Sx.br prog 22=.sl 3/\Sx.bm prog 22=.sl/\Sx.bE prog 22=true/\Sx.bk prog 23=some 1/\Sx.aZ prog 23=some (.int .u32 0)/\Sx.br prog 23=.none/\Sx.bm prog 23=.int .u32/\Sx.bE prog 23=true/\Sx.a8 prog 24=some none/\Sx.bk prog 24=some 1/\Sx.aZ prog 24=some (.slice none 0 0)/\Sx.br prog 24=.sl 7/\Sx.bm prog 24=.sl/\Sx.bE prog 24=true/\Sx.a8 prog 27=some (some 2)/\Sx.bk prog 27=some 2/\Sx.aZ prog 27=some (.agg #[.slice none 0 0,.slice none 0 0])/\Sx.bj prog 27 0=some (0,24)/\Sx.bj prog 27 1=some (1,25)/\Sx.dD prog 27=true/\Sx.br prog 27=.none/\Sx.bm prog 27=.other/\Sx.bE prog 27=true/\Sx.a8 prog 28=some none/\Sx.bk prog 28=some 1/\Sx.aZ prog 28=some (.slice none 0 0)/\Sx.br prog 28=.sl 6/\Sx.bm prog 28=.sl/\Sx.bE prog 28=true/\Sx.aZ prog 33=some (.slice none 0 0)/\Sx.br prog 33=.sl 7/\Sx.bm prog 33=.sl/\Sx.bE prog 33=true/\Sx.a8 prog 34=some none/\Sx.bk prog 34=some 1/\Sx.aZ prog 34=some (.slice none 0 0)/\Sx.br prog 34=.sl 4/\Sx.bm prog 34=.sl/\Sx.bE prog 34=true:=by and_intros<;>kernel_rfl
theorem WU:Sx.bk prog 36=some 2/\Sx.aZ prog 36=some (.agg #[.slice none 0 0,.slice none 0 0])/\Sx.bj prog 36 0=some (0,33)/\Sx.bj prog 36 1=some (1,34)/\Sx.dD prog 36=true/\Sx.br prog 36=.none/\Sx.bm prog 36=.other/\Sx.bE prog 36=true/\Sx.aZ prog 38=some (.slice none 0 0)/\Sx.br prog 38=.sl 6/\Sx.bm prog 38=.sl/\Sx.bE prog 38=true/\Sx.bk prog 39=some 1/\Sx.aZ prog 39=some (.slice none 0 0)/\Sx.br prog 39=.sl 3/\Sx.bm prog 39=.sl/\Sx.bE prog 39=true/\Sx.a8 prog 41=some (some 2)/\Sx.bk prog 41=some 2/\Sx.aZ prog 41=some (.agg #[.slice none 0 0,.slice none 0 0])/\Sx.bj prog 41 0=some (0,38)/\Sx.bj prog 41 1=some (1,39)/\Sx.dD prog 41=true/\Sx.br prog 41=.none/\Sx.bm prog 41=.other/\Sx.bE prog 41=true/\Sx.aZ prog 43=some (.slice none 0 0)/\Sx.br prog 43=.sl 1/\Sx.bm prog 43=.sl/\Sx.bE prog 43=true/\Sx.bk prog 46=some 1/\Sx.aZ prog 46=some (.slice none 0 0)/\Sx.br prog 46=.sl 2/\Sx.bm prog 46=.sl/\Sx.bE prog 46=true/\Sx.aZ prog 48=some (.slice none 0 0)/\Sx.br prog 48=.sl 3/\Sx.bm prog 48=.sl/\Sx.bE prog 48=true/\Sx.bj prog 50 0=some (0,48)/\Sx.bj prog 50 1=some (1,3)/\Sx.dD prog 50=true/\Sx.br prog 50=.none/\Sx.bm prog 50=.other/\Sx.bE prog 50=true/\Sx.aZ prog 60=some (.agg #[.int .u8 0,.string ⟨#[]⟩,.int .i64 0,.int .i64 0,.slice none 0 0,.slice none 0 0,.int .i64 0])/\Sx.bj prog 60 0=some (0,5)/\Sx.bj prog 60 1=some (1,9)/\Sx.bj prog 60 2=some (2,3)/\Sx.bj prog 60 3=some (3,3)/\Sx.bj prog 60 4=some (4,33)/\Sx.bj prog 60 5=some (5,50)/\Sx.dD prog 60=true/\Sx.br prog 60=.none/\Sx.bm prog 60=.other/\Sx.bE prog 60=true/\Sx.a8 prog 61=some none/\Sx.bk prog 61=some 1/\Sx.aZ prog 61=some (.int .i64 0)/\Sx.br prog 61=.none:=by and_intros<;>kernel_rfl
theorem WV:Sx.bm prog 61=.int .i64/\Sx.bE prog 61=true/\Sx.aZ prog 67=some (.agg #[.int .u8 0,.string ⟨#[]⟩,.int .i64 0,.int .i64 0,.slice none 0 0,.slice none 0 0])/\Sx.bj prog 67 0=some (0,5)/\Sx.bj prog 67 1=some (1,9)/\Sx.bj prog 67 2=some (2,3)/\Sx.bj prog 67 3=some (3,3)/\Sx.bj prog 67 4=some (4,38)/\Sx.bj prog 67 5=some (5,43)/\Sx.dD prog 67=true/\Sx.br prog 67=.none/\Sx.bm prog 67=.other/\Sx.bE prog 67=true/\Sx.bk prog 78=some 1/\Sx.aZ prog 78=some (.int .u8 0)/\Sx.br prog 78=.none/\Sx.bm prog 78=.int .u8/\Sx.bE prog 78=true/\Sx.bj prog 80 0=some (0,78)/\Sx.bj prog 80 1=some (1,3)/\Sx.bj prog 80 2=some (2,50)/\Sx.dD prog 80=true/\Sx.br prog 80=.none/\Sx.bm prog 80=.other/\Sx.bE prog 80=true/\Sx.bk prog 81=some 1/\Sx.aZ prog 81=some (.slice none 0 0)/\Sx.br prog 81=.sl 1/\Sx.bm prog 81=.sl/\Sx.bE prog 81=true/\Sx.a8 prog 83=some (some 7)/\Sx.bk prog 83=some 7/\Sx.aZ prog 83=some (.agg #[.int .u8 0,.string ⟨#[]⟩,.slice none 0 0,.int .i64 0,.int .i64 0,.slice none 0 0,.int .i64 0])/\Sx.bj prog 83 0=some (0,5)/\Sx.bj prog 83 1=some (1,9)/\Sx.bj prog 83 2=some (2,81)/\Sx.bj prog 83 3=some (3,3)/\Sx.bj prog 83 4=some (4,3)/\Sx.bj prog 83 5=some (5,50)/\Sx.dD prog 83=true/\Sx.br prog 83=.none/\Sx.bm prog 83=.other/\Sx.bE prog 83=true/\Sx.a8 prog 88=some none/\Sx.bk prog 88=some 1/\Sx.aZ prog 88=some (.slice none 0 0)/\Sx.br prog 88=.sl 2/\Sx.bm prog 88=.sl/\Sx.bE prog 88=true/\Sx.bk prog 91=some 1/\Sx.aZ prog 91=some (.slice none 0 0)/\Sx.br prog 91=.sl 6/\Sx.bm prog 91=.sl/\Sx.bE prog 91=true/\Sx.bk prog 92=some 1/\Sx.aZ prog 92=some (.slice none 0 0)/\Sx.br prog 92=.sl 3/\Sx.bm prog 92=.sl/\Sx.bE prog 92=true/\Sx.bk prog 94=some 2:=by and_intros<;>kernel_rfl
theorem WW:Sx.aZ prog 94=some (.agg #[.slice none 0 0,.slice none 0 0])/\Sx.bj prog 94 0=some (0,91)/\Sx.bj prog 94 1=some (1,92)/\Sx.dD prog 94=true/\Sx.br prog 94=.none/\Sx.bm prog 94=.other/\Sx.bE prog 94=true/\Sx.a8 prog 97=some none/\Sx.bk prog 97=some 1/\Sx.aZ prog 97=some (.slice none 0 0)/\Sx.br prog 97=.sl 2/\Sx.bm prog 97=.sl/\Sx.bE prog 97=true/\Sx.aZ prog 102=some (.agg #[.int .u8 0,.int .i64 0,.slice none 0 0])/\Sx.bj prog 102 0=some (0,78)/\Sx.bj prog 102 1=some (1,3)/\Sx.bj prog 102 2=some (2,43)/\Sx.dD prog 102=true/\Sx.br prog 102=.none/\Sx.bm prog 102=.other/\Sx.bE prog 102=true/\Sx.a8 prog 104=some none/\Sx.bk prog 104=some 1/\Sx.aZ prog 104=some (.slice none 0 0)/\Sx.br prog 104=.sl 7/\Sx.bm prog 104=.sl/\Sx.bE prog 104=true/\Sx.a8 prog 111=some (some 7)/\Sx.bk prog 111=some 7/\Sx.aZ prog 111=some (.agg #[.slice none 0 0,.int .u8 0,.string ⟨#[]⟩,.int .i64 0,.int .i64 0,.slice none 0 0,.slice none 0 0])/\Sx.bj prog 111 0=some (0,81)/\Sx.bj prog 111 1=some (1,67)/\Sx.dD prog 111=true/\Sx.br prog 111=.none/\Sx.bm prog 111=.other/\Sx.bE prog 111=true/\Sx.a8 prog 118=some none/\Sx.bk prog 118=some 1/\Sx.aZ prog 118=some (.slice none 0 0)/\Sx.br prog 118=.sl 2/\Sx.bm prog 118=.sl/\Sx.bE prog 118=true/\Sx.a8 prog 134=some (some 3)/\Sx.bk prog 134=some 3/\Sx.aZ prog 134=some (.agg #[.int .u8 0,.string ⟨#[]⟩,.slice none 0 0])/\Sx.bj prog 134 0=some (0,5)/\Sx.bj prog 134 1=some (1,9)/\Sx.bj prog 134 2=some (2,46)/\Sx.dD prog 134=true/\Sx.br prog 134=.none/\Sx.bm prog 134=.other/\Sx.bE prog 134=true/\Sx.a8 prog 136=some (some 6)/\Sx.bk prog 136=some 6/\Sx.aZ prog 136=some (.agg #[.int .u8 0,.string ⟨#[]⟩,.slice none 0 0,.int .i64 0,.int .i64 0,.slice none 0 0])/\Sx.bj prog 136 0=some (0,5)/\Sx.bj prog 136 1=some (1,9)/\Sx.bj prog 136 2=some (2,81)/\Sx.bj prog 136 3=some (3,3)/\Sx.bj prog 136 4=some (4,3):=by and_intros<;>kernel_rfl
theorem WX:Sx.bj prog 136 5=some (5,43)/\Sx.dD prog 136=true/\Sx.br prog 136=.none/\Sx.bm prog 136=.other/\Sx.bE prog 136=true/\Sx.a8 prog 150=some (some 8)/\Sx.bk prog 150=some 8/\Sx.aZ prog 150=some (.agg #[.slice none 0 0,.slice none 0 0,.int .i64 0,.int .i64 0,.int .i64 0,.bool false,.int .u8 0,.int .i64 0])/\Sx.bj prog 150 0=some (0,28)/\Sx.bj prog 150 1=some (1,81)/\Sx.bj prog 150 2=some (2,3)/\Sx.bj prog 150 3=some (3,3)/\Sx.bj prog 150 4=some (4,3)/\Sx.bj prog 150 5=some (5,4)/\Sx.bj prog 150 6=some (6,78)/\Sx.bj prog 150 7=some (7,3)/\Sx.dD prog 150=true/\Sx.br prog 150=.none/\Sx.bm prog 150=.other/\Sx.bE prog 150=true/\Sx.a8 prog 152=some none/\Sx.bk prog 152=some 1/\Sx.aZ prog 152=some (.pointer none)/\Sx.br prog 152=.none/\Sx.bm prog 152=.other/\Sx.bE prog 152=true/\Sx.a8 prog 154=some none/\Sx.bk prog 154=some 1/\Sx.aZ prog 154=some (.slice none 0 0)/\Sx.br prog 154=.sl 3/\Sx.bm prog 154=.sl/\Sx.bE prog 154=true/\Sx.a8 prog 155=some none/\Sx.bk prog 155=some 1/\Sx.aZ prog 155=some (.slice none 0 0)/\Sx.br prog 155=.sl 3/\Sx.bm prog 155=.sl/\Sx.bE prog 155=true/\Sx.a8 prog 158=some none/\Sx.bk prog 158=some 1/\Sx.aZ prog 158=some (.slice none 0 0)/\Sx.br prog 158=.sl 1/\Sx.bm prog 158=.sl/\Sx.bE prog 158=true/\Sx.a8 prog 159=some none/\Sx.bk prog 159=some 1/\Sx.aZ prog 159=some (.slice none 0 0)/\Sx.br prog 159=.sl 2/\Sx.bm prog 159=.sl/\Sx.bE prog 159=true/\Sx.a8 prog 161=some (some 5)/\Sx.bk prog 161=some 5/\Sx.aZ prog 161=some (.agg #[.slice none 0 0,.slice none 0 0,.slice none 0 0,.int .i64 0,.slice none 0 0])/\Sx.bj prog 161 0=some (0,24)/\Sx.bj prog 161 1=some (1,158)/\Sx.bj prog 161 2=some (2,159)/\Sx.bj prog 161 3=some (3,3)/\Sx.bj prog 161 4=some (4,34)/\Sx.dD prog 161=true/\Sx.br prog 161=.none:=by and_intros<;>kernel_rfl
theorem WY:Sx.bm prog 161=.other/\Sx.bE prog 161=true/\Sx.a8 prog 164=some (some 2)/\Sx.bk prog 164=some 2/\Sx.aZ prog 164=some (.agg #[.int .u32 0,.int .u32 0])/\Sx.bj prog 164 0=some (0,23)/\Sx.bj prog 164 1=some (1,23)/\Sx.dD prog 164=true/\Sx.br prog 164=.none/\Sx.bm prog 164=.other/\Sx.bE prog 164=true/\Sx.a8 prog 169=some (some 3)/\Sx.bk prog 169=some 3/\Sx.aZ prog 169=some (.agg #[.int .i64 0,.slice none 0 0,.int .i64 0])/\Sx.bj prog 169 0=some (0,3)/\Sx.bj prog 169 1=some (1,50)/\Sx.dD prog 169=true/\Sx.br prog 169=.none/\Sx.bm prog 169=.other/\Sx.bE prog 169=true/\Sx.bk prog 181=some 3/\Sx.aZ prog 181=some (.agg #[.int .i64 0,.int .i64 0,.int .i64 0])/\Sx.bj prog 181 0=some (0,3)/\Sx.bj prog 181 1=some (1,3)/\Sx.bj prog 181 2=some (2,3)/\Sx.dD prog 181=true/\Sx.br prog 181=.none/\Sx.bm prog 181=.other/\Sx.bE prog 181=true/\Sx.bk prog 187=some 3/\Sx.aZ prog 187=some (.agg #[.int .u8 0,.int .i64 0,.slice none 0 0])/\Sx.bj prog 187 0=some (0,78)/\Sx.bj prog 187 1=some (1,3)/\Sx.bj prog 187 2=some (2,46)/\Sx.dD prog 187=true/\Sx.br prog 187=.none/\Sx.bm prog 187=.other/\Sx.bE prog 187=true/\Sx.a8 prog 192=some none/\Sx.bk prog 192=some 1/\Sx.aZ prog 192=some (.nilFunc)/\Sx.br prog 192=.none/\Sx.bm prog 192=.other/\Sx.bE prog 192=true/\Sx.a8 prog 197=some none/\Sx.bk prog 197=some 1/\Sx.aZ prog 197=some (.map none)/\Sx.br prog 197=.none/\Sx.bm prog 197=.other/\Sx.bE prog 197=true/\Sx.bk prog 217=some 1/\Sx.aZ prog 217=some (.pointer none)/\Sx.br prog 217=.none/\Sx.bm prog 217=.other/\Sx.bE prog 217=true/\Sx.a8 prog 227=some (some 5)/\Sx.bk prog 227=some 5/\Sx.aZ prog 227=some (.agg #[.int .i64 0,.slice none 0 0,.int .i64 0,.int .u8 0,.string ⟨#[]⟩])/\Sx.bj prog 227 0=some (0,3)/\Sx.bj prog 227 1=some (1,50):=by and_intros<;>kernel_rfl
theorem WZ:Sx.bj prog 227 2=some (3,5)/\Sx.bj prog 227 3=some (4,9)/\Sx.dD prog 227=true/\Sx.br prog 227=.none/\Sx.bm prog 227=.other/\Sx.bE prog 227=true/\Sx.a8 prog 238=some none/\Sx.bk prog 238=some 1/\Sx.aZ prog 238=some (.map none)/\Sx.br prog 238=.none/\Sx.bm prog 238=.other/\Sx.bE prog 238=true/\Sx.a8 prog 240=some (some 4)/\Sx.bk prog 240=some 4/\Sx.aZ prog 240=some (.agg #[.int .i64 0,.int .i64 0,.int .u8 0,.string ⟨#[]⟩])/\Sx.bj prog 240 0=some (0,3)/\Sx.bj prog 240 1=some (1,3)/\Sx.bj prog 240 2=some (2,5)/\Sx.bj prog 240 3=some (3,9)/\Sx.dD prog 240=true/\Sx.br prog 240=.none/\Sx.bm prog 240=.other/\Sx.bE prog 240=true/\Sx.bk prog 260=some 1/\Sx.aZ prog 260=some (.map none)/\Sx.br prog 260=.none/\Sx.bm prog 260=.other/\Sx.bE prog 260=true/\Sx.a8 prog 262=some (some 6)/\Sx.bk prog 262=some 6/\Sx.aZ prog 262=some (.agg #[.pointer none,.slice none 0 0,.int .i64 0,.slice none 0 0,.int .i64 0,.map none])/\Sx.bj prog 262 0=some (0,217)/\Sx.bj prog 262 1=some (1,50)/\Sx.bj prog 262 2=some (3,50)/\Sx.bj prog 262 3=some (5,260)/\Sx.dD prog 262=true/\Sx.br prog 262=.none/\Sx.bm prog 262=.other/\Sx.bE prog 262=true/\Sx.a8 prog 265=some (some 6)/\Sx.bk prog 265=some 6/\Sx.aZ prog 265=some (.agg #[.int .u8 0,.string ⟨#[]⟩,.int .i64 0,.int .i64 0,.slice none 0 0,.slice none 0 0])/\Sx.bj prog 265 0=some (0,5)/\Sx.bj prog 265 1=some (1,9)/\Sx.bj prog 265 2=some (2,3)/\Sx.bj prog 265 3=some (3,3)/\Sx.bj prog 265 4=some (4,91)/\Sx.bj prog 265 5=some (5,46)/\Sx.dD prog 265=true/\Sx.br prog 265=.none/\Sx.bm prog 265=.other/\Sx.bE prog 265=true/\Sx.a8 prog 268=some none/\Sx.bk prog 268=some 1/\Sx.aZ prog 268=some (.slice none 0 0)/\Sx.br prog 268=.sl 1/\Sx.bm prog 268=.sl/\Sx.bE prog 268=true/\Sx.bk prog 282=some 1/\Sx.aZ prog 282=some (.slice none 0 0):=by and_intros<;>kernel_rfl
theorem W0:Sx.br prog 282=.sl 1/\Sx.bm prog 282=.sl/\Sx.bE prog 282=true/\Sx.a8 prog 284=some none/\Sx.bk prog 284=some 1/\Sx.aZ prog 284=some (.nilIface)/\Sx.br prog 284=.none/\Sx.bm prog 284=.other/\Sx.bE prog 284=true/\Sx.bk prog 298=some 1/\Sx.aZ prog 298=some (.map none)/\Sx.br prog 298=.none/\Sx.bm prog 298=.other/\Sx.bE prog 298=true/\Sx.a8 prog 300=some (some 2)/\Sx.bk prog 300=some 2/\Sx.aZ prog 300=some (.agg #[.slice none 0 0,.map none])/\Sx.bj prog 300 0=some (0,48)/\Sx.bj prog 300 1=some (1,298)/\Sx.dD prog 300=true/\Sx.br prog 300=.none/\Sx.bm prog 300=.other/\Sx.bE prog 300=true/\Sx.bk prog 301=some 1/\Sx.aZ prog 301=some (.map none)/\Sx.br prog 301=.none/\Sx.bm prog 301=.other/\Sx.bE prog 301=true/\Sx.aZ prog 302=some (.nilFunc)/\Sx.br prog 302=.none/\Sx.bm prog 302=.other/\Sx.bE prog 302=true/\Sx.a8 prog 306=some none/\Sx.bk prog 306=some 1/\Sx.aZ prog 306=some (.slice none 0 0)/\Sx.br prog 306=.sl 5/\Sx.bm prog 306=.sl/\Sx.bE prog 306=true/\Sx.bk prog 315=some 1/\Sx.aZ prog 315=some (.nilFunc)/\Sx.br prog 315=.none/\Sx.bm prog 315=.other/\Sx.bE prog 315=true/\Sx.bk prog 316=some 1/\Sx.aZ prog 316=some (.nilFunc)/\Sx.br prog 316=.none/\Sx.bm prog 316=.other/\Sx.bE prog 316=true/\Sx.bk prog 317=some 22/\Sx.aZ prog 317=some (.agg #[.string ⟨#[]⟩,.string ⟨#[]⟩,.string ⟨#[]⟩,.string ⟨#[]⟩,.string ⟨#[]⟩,.string ⟨#[]⟩,.string ⟨#[]⟩,.string ⟨#[]⟩,.string ⟨#[]⟩,.string ⟨#[]⟩,.string ⟨#[]⟩,.string ⟨#[]⟩,.string ⟨#[]⟩,.string ⟨#[]⟩,.string ⟨#[]⟩,.string ⟨#[]⟩,.string ⟨#[]⟩,.string ⟨#[]⟩,.string ⟨#[]⟩,.string ⟨#[]⟩,.string ⟨#[]⟩,.string ⟨#[]⟩])/\Sx.br prog 317=.arr 22 1/\Sx.bm prog 317=.other/\Sx.bE prog 317=true/\Sx.a8 prog 319=some none/\Sx.bk prog 319=some 1/\Sx.aZ prog 319=some (.slice none 0 0)/\Sx.br prog 319=.sl 1/\Sx.bm prog 319=.sl/\Sx.bE prog 319=true/\Sx.a8 prog 325=some none:=by and_intros<;>kernel_rfl
theorem W1:Sx.bk prog 325=some 1/\Sx.aZ prog 325=some (.int .u64 0)/\Sx.br prog 325=.none/\Sx.bm prog 325=.int .u64/\Sx.bE prog 325=true/\Sx.a8 prog 329=some none/\Sx.bk prog 329=some 1/\Sx.aZ prog 329=some (.slice none 0 0)/\Sx.br prog 329=.sl 1/\Sx.bm prog 329=.sl/\Sx.bE prog 329=true/\Sx.a8 prog 335=some (some 2)/\Sx.bk prog 335=some 2/\Sx.aZ prog 335=some (.agg #[.int .i64 0,.int .i64 0])/\Sx.br prog 335=.arr 2 1/\Sx.bm prog 335=.other/\Sx.bE prog 335=true/\Sx.a8 prog 358=some none/\Sx.bk prog 358=some 1/\Sx.aZ prog 358=some (.int .i64 0)/\Sx.br prog 358=.none/\Sx.bm prog 358=.int .i64/\Sx.bE prog 358=true/\Sx.a8 prog 366=some none/\Sx.bk prog 366=some 1/\Sx.aZ prog 366=some (.int .u64 0)/\Sx.br prog 366=.none/\Sx.bm prog 366=.int .u64/\Sx.bE prog 366=true/\Sx.aZ prog 377=some (.int .u64 0)/\Sx.br prog 377=.none/\Sx.bm prog 377=.int .u64/\Sx.bE prog 377=true/\Sx.a8 prog 403=some none/\Sx.bk prog 403=some 1/\Sx.aZ prog 403=some (.pointer none)/\Sx.br prog 403=.none/\Sx.bm prog 403=.other/\Sx.bE prog 403=true/\Sx.a8 prog 405=some (some 1)/\Sx.bk prog 405=some 1/\Sx.aZ prog 405=some (.agg #[.string ⟨#[]⟩])/\Sx.bj prog 405 0=some (0,9)/\Sx.dD prog 405=true/\Sx.br prog 405=.none/\Sx.bm prog 405=.other/\Sx.bE prog 405=true/\Sx.a8 prog 408=some (some 32)/\Sx.bk prog 408=some 32/\Sx.aZ prog 408=some (.agg #[.int .u8 0,.int .u8 0,.int .u8 0,.int .u8 0,.int .u8 0,.int .u8 0,.int .u8 0,.int .u8 0,.int .u8 0,.int .u8 0,.int .u8 0,.int .u8 0,.int .u8 0,.int .u8 0,.int .u8 0,.int .u8 0,.int .u8 0,.int .u8 0,.int .u8 0,.int .u8 0,.int .u8 0,.int .u8 0,.int .u8 0,.int .u8 0,.int .u8 0,.int .u8 0,.int .u8 0,.int .u8 0,.int .u8 0,.int .u8 0,.int .u8 0,.int .u8 0])/\Sx.br prog 408=.arr 32 1/\Sx.bm prog 408=.other/\Sx.bE prog 408=true/\Sx.a8 prog 409=some (some 64)/\Sx.bk prog 409=some 64/\Sx.aZ prog 409=some (.agg #[.int .u8 0,.int .u8 0,.int .u8 0,.int .u8 0,.int .u8 0,.int .u8 0,.int .u8 0,.int .u8 0,.int .u8 0,.int .u8 0,.int .u8 0,.int .u8 0,.int .u8 0,.int .u8 0,.int .u8 0,.int .u8 0,.int .u8 0,.int .u8 0,.int .u8 0,.int .u8 0,.int .u8 0,.int .u8 0,.int .u8 0,.int .u8 0,.int .u8 0,.int .u8 0,.int .u8 0,.int .u8 0,.int .u8 0,.int .u8 0,.int .u8 0,.int .u8 0,.int .u8 0,.int .u8 0,.int .u8 0,.int .u8 0,.int .u8 0,.int .u8 0,.int .u8 0,.int .u8 0,.int .u8 0,.int .u8 0,.int .u8 0,.int .u8 0,.int .u8 0,.int .u8 0,.int .u8 0,.int .u8 0,.int .u8 0,.int .u8 0,.int .u8 0,.int .u8 0,.int .u8 0,.int .u8 0,.int .u8 0,.int .u8 0,.int .u8 0,.int .u8 0,.int .u8 0,.int .u8 0,.int .u8 0,.int .u8 0,.int .u8 0,.int .u8 0])/\Sx.br prog 409=.arr 64 1/\Sx.bm prog 409=.other/\Sx.bE prog 409=true:=by and_intros<;>kernel_rfl
attribute [go_sem] WT WU WV WW WX WY WZ W0 W1 dI mI mT nG qq iT dz xx Ec Fg rZ Ed Bm kO Ee qp oR Ef nr Ac AH bK dF jK JJ Bn fQ mJ Kr Fh r8 qr Fi l6 JH l7 Fb xu Bi Fc Bk xv xw JI Bl Fe Ff oQ Ab
end Go.Proofs.YtfaclfkpnmcmlaaGreatDoor
namespace Syn
open Dg
abbrev aE:=List UInt8
structure Nd where
 kind:Nat
 text:aE
 tok:Int
 slot:Int
 kids:List Nd
 cond:T
structure aN where
 code:Nat
 tok:Int
 cond:T
deriving DecidableEq
structure Tok where
 kind:Nat
 text:aE
 cond:T
 fits:Bool
abbrev ff:T:=.lf false
abbrev tt:T:=.lf true
def Am:aE:=[118,97,114]
def Ah:aE:=[102,110]
def q6:aE:=[105,110,116]
def qU:aE:=[98,111,111,108]
def Ai:aE:=[105,102]
def Ag:aE:=[101,108,115,101]
def An:aE:=[119,104,105,108,101]
def Al:aE:=[114,101,116,117,114,110]
def Aj:aE:=[112,114,105,110,116]
def Af:aE:=[97,115,115,101,114,116]
def rk:aE:=[116,114,117,101]
def qX:aE:=[102,97,108,115,101]
def Ak:aE:=[114,101,97,100]
def Ei:aE:=[33]
def mK:aE:=[45]
def rg:aE:=[124,124]
def qT:aE:=[38,38]
def qW:aE:=[61,61]
def rf:aE:=[33,61]
def q8:aE:=[60]
def q7:aE:=[60,61]
def qZ:aE:=[62]
def qY:aE:=[62,61]
def rh:aE:=[43]
def re:aE:=[42]
def qV:aE:=[47]
def q9:aE:=[37]
def fG(s:aE):Bool:=[Am,Ah,q6,qU,Ai,Ag,An,Al,Aj,Af,rk,qX,Ak].contains s
def fI(s:aE):Nat:=
 if s=rg then 0
 else if s=qT then 1
 else if [qW,rf,q8,q7,qZ,qY].contains s then 2
 else if s=rh\/s=mK then 3
 else if [re,qV,q9].contains s then 4
 else 9
def Xd(l kids:List Nd):List Nd:=l.map fun n=>{ n with kids:=n.kids++kids }
def bF:Nat:=2^40
theorem E5(c:dp):(ff:T).at' c=false:=rfl
mutual
def pN(c:dp):Nd->Option Nd
 |⟨k,t,o,s,ks,d⟩=>if d.at' c then some ⟨k,t,o,s,pL c ks,tt⟩else none
def pL (c:dp):List Nd->List Nd
 | []=>[]
 |n::l=>match pN c n with
  |some m=>m::pL c l
  |none=>pL c l
end
mutual
def sW:Nd->Prop
 |⟨_,_,_,_,ks,d⟩=>d.ok 0/\ii ks
def ii:List Nd->Prop
 | []=>True
 |n::l=>sW n/\ii l
end
def mz{l:List Nd}:ii l<->∀n∈l,sW n:=by
 induction l with
 |nil=>simp[ii]
 |cons n l a=>simp[ii,a]
def vK{n:Nd}:sW n<->n.cond.ok 0/\ii n.kids:=by cases n;rfl
def TA(c:dp)(n:Nd):pN c n=if n.cond.at' c then some { n with kids:=pL c n.kids,cond:=tt } else none:=by cases n;rfl
def zu(c:dp)(n:Nd)(l:List Nd):pL c (n::l)=if n.cond.at' c then { n with kids:=pL c n.kids,cond:=tt }::pL c l else pL c l:=by rw[pL,TA];split<;>rename_i h<;>split at h<;>simp_all
def ID(c:dp)(a b:List Nd):pL c (a++b)=pL c a++pL c b:=by
 induction a with
 |nil=>rfl
 |cons n a d=>rw[gR,zu,zu,d];split<;>rfl
def pF(e:List aN):Prop:=∀d∈e,d.cond.ok 0
open Dg
section
variable {c:dp} {ts:List Tok}
def Tz(c:dp)(n:Nd):pL c [n]=if n.cond.at' c then [{ n with kids:=pL c n.kids,cond:=tt }]else []:=by rw[zu];rfl
end
open Dg
structure SO{K:Type}(lt:K->K->Bool):Prop where
 irr:∀a,lt a a=false
 tr:∀a b c,lt a b=true->lt b c=true->lt a c=true
 tri:∀a b,lt a b=false->lt b a=false->a=b
section
variable {K:Type} {lt:K->K->Bool}
def k9(lt:K->K->Bool)(k:K):List K->List K
 | []=>[k]
 |x::l=>if lt k x then k::x::l else if lt x k then x::k9 lt k l else x::l
def pM(lt:K->K->Bool)(l:List K):List K:=l.foldr (k9 lt) []
def DQ(so:SO lt){k x:K}:∀{l:List K},x∈k9 lt k l<->x=k\/x∈l
 | []=>by simp[k9]
 |y::l=>by
  simp only[k9];split
  .simp
  .split
   .rw[fC,DQ so,fC];constructor
    .rintro(h|h|h)
     .exact .inr (.inl h)
     .exact .inl h
     .exact .inr (.inr h)
    .rintro(h|h|h)
     .exact .inr (.inl h)
     .exact .inl h
     .exact .inr (.inr h)
   .rename_i h1 h2;have:=so.tri k y (by simpa using h1) (by simpa using h2);subst this;simp
def Jd(so:SO lt){k:K}:∀{l:List K},l.Pairwise (fun a b=>lt a b=true)->(k9 lt k l).Pairwise (fun a b=>lt a b=true)
 | [],_=>by simp[k9]
 |y::l,h=>by
  rw[rC]at h;simp only[k9];split
  .rename_i h1;refine List.pairwise_cons.2 ⟨fun z c=>?_,List.pairwise_cons.2 h⟩;rcases List.mem_cons.1 c with e|e
   .subst e;exact h1
   .exact so.tr _ _ _ h1 (h.1 z e)
  .split
   .rename_i h1 h2;refine List.pairwise_cons.2 ⟨fun z c=>?_,Jd so h.2⟩;rcases(DQ so).1 c with e|e
    .subst e;exact h2
    .exact h.1 z e
   .exact List.pairwise_cons.2 h
def zE(so:SO lt){x:K}:∀{l:List K},x∈pM lt l<->x∈l
 | []=>Iff.rfl
 |y::l=>by show x∈k9 lt y (pM lt l)<->_;rw[DQ so,zE so,fC]
def wr(so:SO lt):∀(l:List K),(pM lt l).Pairwise (fun a b=>lt a b=true)
 | []=>List.Pairwise.nil
 |_::l=>Jd so (wr so l)
def tz(so:SO lt):∀{l m:List K},l.Pairwise (fun a b=>lt a b=true)->m.Pairwise (fun a b=>lt a b=true)->(∀x,x∈l<->x∈m)->l=m
 | [],[],_,_,_=>rfl
 | [],y::m,_,_,h=>absurd ((h y).2 (.head _)) dH
 |x::l,[],_,_,h=>absurd ((h x).1 (.head _)) dH
 |x::l,y::m,h1,h2,h=>by
  rw[rC]at h1 h2;have e:x=y:=by
   rcases List.mem_cons.1 ((h x).1 (.head _))with e|e
   .exact e
   .rcases List.mem_cons.1 ((h y).2 (.head _))with e2|e2
    .exact e2.symm
    .have:=so.tr _ _ _ (h1.1 y e2) (h2.1 x e);rw[so.irr]at this;cases this
  subst e;congr 1;refine tz so h1.2 h2.2 fun z=>?_;constructor
  .intro c;rcases List.mem_cons.1 ((h z).1 (.tail _ c))with e|e
   .subst e;have:=h1.1 z c;rw[so.irr]at this;cases this
   .exact e
  .intro c;rcases List.mem_cons.1 ((h z).2 (.tail _ c))with e|e
   .subst e;have:=h2.1 z c;rw[so.irr]at this;cases this
   .exact e
end
structure fc where
 slot:Int
 tok:Int
 kind:Nat
 text:aE
deriving DecidableEq
def Nd.key(n:Nd):fc:=⟨n.slot,n.tok,n.kind,n.text⟩
def fL:aE->aE->Bool
 |_,[]=>false
 | [],_::_=>true
 |a::l,b::m=>if a.toNat<b.toNat then true else if b.toNat<a.toNat then false else fL l m
def n5:SO fL where
 irr:=by
  intro a
  induction a with
  |nil=>rfl
  |cons x a d=>simp[fL,d]
 tr:=by
  intro a
  induction a with
  |nil=>
   intro b c h1 h2;cases c with
   |nil=>cases b<;>simp[fL]at h2
   |cons z c=>rfl
  |cons x a d=>
   intro b c h1 h2;cases b with
   |nil=>simp[fL]at h1
   |cons y b=>
    cases c with
    |nil=>simp[fL]at h2
    |cons z c=>
     simp only[fL]at h1 h2 |-;by_cases e:x.toNat<y.toNat
     .by_cases e2:y.toNat<z.toNat
      .rw[ak O]
      .rw[ad e2]at h2;by_cases f:z.toNat<y.toNat
       .rw[ak f]at h2;cases h2
       .rw[ak O]
     .rw[ad e]at h1;by_cases g:y.toNat<x.toNat
      .rw[ak g]at h1;cases h1
      .rw[ad g]at h1;by_cases e2:y.toNat<z.toNat
       .rw[ak O]
       .rw[ad e2]at h2;by_cases f:z.toNat<y.toNat
        .rw[ak f]at h2;cases h2
        .rw[ad f]at h2;rw[ad O,ad O];exact d b c h1 h2
 tri:=by
  intro a
  induction a with
  |nil=>
   intro b h1 h2;cases b with
   |nil=>rfl
   |cons y b=>simp[fL]at h1
  |cons x a d=>
   intro b h1 h2;cases b with
   |nil=>simp[fL]at h2
   |cons y b=>
    simp only[fL]at h1 h2;by_cases e:x.toNat<y.toNat
    .rw[ak e]at h1;cases h1
    .by_cases e2:y.toNat<x.toNat
     .rw[ak e2]at h2;cases h2
     .rw[ad e,ad e2]at h1;rw[ad e2,ad e]at h2;have:x=y:=UInt8.toNat_inj.1 O;rw[this,d b h1 h2]
def dE(a b:fc):Bool:=
 if a.slot<b.slot then true else if b.slot<a.slot then false else
 if a.tok<b.tok then true else if b.tok<a.tok then false else
 if a.kind<b.kind then true else if b.kind<a.kind then false else fL a.text b.text
def jj:SO dE where
 irr:=by intro a;simp[dE,n5.irr]
 tr:=by
  intro a b c;unfold dE;have ht:=n5.tr a.text b.text c.text;intro h1 h2;by_cases s:a.slot<c.slot
  .rw[ak s]
  .rw[ad s];by_cases a1:a.slot<b.slot
   .by_cases a2:b.slot<c.slot
    .omega
    .rw[ad a2,ak (show c.slot<b.slot by omega)]at h2;cases h2
   .rw[ad a1]at h1;by_cases a2:b.slot<a.slot
    .rw[ak a2]at h1;cases h1
    .rw[ad a2]at h1;by_cases a3:b.slot<c.slot
     .omega
     .rw[ad a3]at h2;by_cases a4:c.slot<b.slot
      .rw[ak a4]at h2;cases h2
      .rw[ad a4]at h2;rw[ad (show ¬c.slot<a.slot by omega)];by_cases t:a.tok<c.tok
       .rw[ak t]
       .rw[ad t];by_cases b1:a.tok<b.tok
        .by_cases b2:b.tok<c.tok
         .omega
         .rw[ad b2,ak (show c.tok<b.tok by omega)]at h2;cases h2
        .rw[ad b1]at h1;by_cases b2:b.tok<a.tok
         .rw[ak b2]at h1;cases h1
         .rw[ad b2]at h1;by_cases b3:b.tok<c.tok
          .omega
          .rw[ad b3]at h2;by_cases d:c.tok<b.tok
           .rw[ak d]at h2;cases h2
           .rw[ad d]at h2;rw[ad (show ¬c.tok<a.tok by omega)];by_cases k:a.kind<c.kind
            .rw[ak k]
            .rw[ad k];by_cases e:a.kind<b.kind
             .by_cases c2:b.kind<c.kind
              .omega
              .rw[ad c2,ak (show c.kind<b.kind by omega)]at h2;cases h2
             .rw[ad e]at h1;by_cases c2:b.kind<a.kind
              .rw[ak c2]at h1;cases h1
              .rw[ad c2]at h1;by_cases c3:b.kind<c.kind
               .omega
               .rw[ad c3]at h2;by_cases c4:c.kind<b.kind
                .rw[ak c4]at h2;cases h2
                .rw[ad c4]at h2;rw[ad (show ¬c.kind<a.kind by omega)];exact ht h1 h2
 tri:=by
  intro a b h1 h2;unfold dE at h1 h2;have s:a.slot=b.slot:=by
   rcases Int.lt_trichotomy a.slot b.slot with h|h|h
   .rw[ak h]at h1;cases h1
   .exact h
   .rw[ak h]at h2;cases h2
  rw[ad O,ad O]at h1 h2;have t:a.tok=b.tok:=by
   rcases Int.lt_trichotomy a.tok b.tok with h|h|h
   .rw[ak h]at h1;cases h1
   .exact h
   .rw[ak h]at h2;cases h2
  rw[ad O,ad O]at h1 h2;have k:a.kind=b.kind:=by
   rcases oe a.kind b.kind with h|h|h
   .rw[ak h]at h1;cases h1
   .exact h
   .rw[ak h]at h2;cases h2
  rw[ad O,ad O]at h1 h2;have x:=n5.tri _ _ h1 h2;cases a;cases b;simp_all
def fF(a b:Int×Nat):Bool:=if a.1<b.1 then true else if b.1<a.1 then false else decide (a.2<b.2)
def gZ:SO fF where
 irr:=by intro a;simp[fF]
 tr:=by
  intro a b c;unfold fF;intro h1 h2;by_cases s:a.1<c.1
  .rw[ak s]
  .rw[ad s];by_cases a1:a.1<b.1
   .rw[ad (show ¬b.1<c.1 by omega),ak (show c.1<b.1 by omega)]at h2;cases h2
   .rw[ad a1]at h1;by_cases a2:b.1<a.1
    .rw[ak a2]at h1;cases h1
    .rw[ad a2]at h1;rw[ad (show ¬b.1<c.1 by omega)]at h2;by_cases a4:c.1<b.1
     .rw[ak a4]at h2;cases h2
     .rw[ad a4]at h2;rw[ad (show ¬c.1<a.1 by omega)];simp only[cu]at *;omega
 tri:=by
  intro a b h1 h2;unfold fF at h1 h2;have s:a.1=b.1:=by
   rcases Int.lt_trichotomy a.1 b.1 with h|h|h
   .rw[ak h]at h1;cases h1
   .exact h
   .rw[ak h]at h2;cases h2
  rw[ad O,ad O]at h1 h2;simp only[pZ]at h1 h2;exact Prod.ext s O
def fi(k:fc)(n:Nd):Bool:=decide (n.key=k) && decide (n.cond≠ff)
def ks(l:List Nd):List fc:=pM dE ((l.filter fun n=>decide (n.cond≠ff)).map Nd.key)
def fH(l:List Nd)(k:fc):List Nd:=(l.filter (fi k)).flatMap (·.kids)
def mg(l:List Nd)(k:fc):T:=(l.filter (fi k)).foldl (fun d n=>d.or n.cond) ff
def dj:Nat->List Nd->List Nd
 |0,_=>[]
 |d+1,l=>(ks l).map fun k=>⟨k.kind,k.text,k.tok,k.slot,dj d (fH l k),mg l k⟩
mutual
def mo:Nd->Nat
 |⟨_,_,_,_,ks,_⟩=>eO ks+1
def eO:List Nd->Nat
 | []=>0
 |n::l=>max (mo n) (eO l)
end
def nx(n:Nd):mo n=eO n.kids+1:=by cases n;rfl
def kS{n:Nd}:∀{l:List Nd},n∈l->mo n<=eO l
 | [],h=>(dH h).elim
 |m::l,h=>by
  simp only[eO];rcases List.mem_cons.1 h with e|e
  .subst e;omega
  .have:=kS e;omega
def uI{b:Nat}:∀{l:List Nd},(∀n∈l,mo n<=b)->eO l<=b
 | [],_=>bg _
 |m::l,h=>by have h1:=h m (.head _);have h2:=uI fun n a=>h n (.tail _ a);simp only[eO];omega
variable{l:List Nd}
def Da{k:fc}{x:Nd}(h:x∈fH l k):∃n∈l,n.key=k/\n.cond≠ff/\x∈n.kids:=by obtain⟨n,b,a⟩:=List.mem_flatMap.1 h;obtain⟨h1,h2⟩:=List.mem_filter.1 b;simp only[fi,bu,cu]at h2;exact⟨n,h1,h2.1,h2.2,a⟩
def F3{k:fc}{d:Nat}(h:eO l<=d+1):eO (fH l k)<=d:=uI fun x a=>by obtain⟨n,b,_,_,a⟩:=Da a;have h1:=kS b;rw[nx]at h1;have h2:=kS a;omega
def R5(h:eO l=0):l=[]:=by
 cases l with
 |nil=>rfl
 |cons n l=>simp only[eO,nx]at h;omega
def If(d:Nat):dj d []=[]:=by cases d<;>rfl
def Dd:∀{d e:Nat} {l:List Nd},eO l<=d->d<=e->dj e l=dj d l
 |0,e,l,h,_=>by rw[R5 (Nat.le_zero.1 h),If,If]
 |d+1,0,l,h,h2=>by omega
 |d+1,e+1,l,h,h2=>by simp only[dj];refine n8 fun k _=>?_;rw[Dd (F3 h) O]
def Db{k:fc}:k∈ks l<->∃n∈l,n.key=k/\n.cond≠ff:=by
 unfold ks;rw[zE jj];simp only[mW,jx,cu];constructor
 .rintro⟨n,⟨h1,h2⟩,h3⟩;exact⟨n,h1,h3,h2⟩
 .rintro⟨n,h1,h3,h2⟩;exact⟨n,⟨h1,h2⟩,h3⟩
def ew(e:List aN):List (Int×Nat):=pM fF ((e.filter fun d=>decide (d.cond≠ff)).map fun d=>(d.tok,d.code))
def jO(k:Int×Nat)(d:aN):Bool:=decide ((d.tok,d.code)=k) && decide (d.cond≠ff)
def jN(e:List aN)(k:Int×Nat):T:=(e.filter (jO k)).foldl (fun t d=>t.or d.cond) ff
def cK(e:List aN):List aN:=(ew e).map fun k=>⟨k.2,k.1,jN e k⟩
def Ch{c:dp}:∀{l:List aN} {z:T},z.ok 0->(∀n∈l,n.cond.ok 0)->(l.foldl (fun t d=>t.or d.cond) z).ok 0/\(l.foldl (fun t d=>t.or d.cond) z).at' c=(z.at' c || l.any fun n=>n.cond.at' c)
 | [],z,a,_=>⟨a,by simp⟩
 |n::l,z,a,h=>by have b:=h n (.head _);have:=Ch (c:=c) (l:=l) (z:=z.or n.cond) (T.or_ok a b) fun m hm=>h m (.tail _ hm);refine⟨this.1,?_⟩;simp only[List.foldl_cons,List.any_cons];rw[this.2,T.or_at a b,Bool.or_assoc]
variable{k:Int×Nat}{e:List aN}
def NB(h:pF e):(jN e k).ok 0:=(Ch (c:=fun _=>false) (z:=ff) trivial fun n a=>h n (List.mem_filter.1 a).1).1
def Nz{c:dp}(h:pF e):(jN e k).at' c=true<->∃d∈e,(d.tok,d.code)=k/\d.cond.at' c=true:=by
 have h1:=(Ch (c:=c) (l:=e.filter (jO k)) (z:=ff) trivial fun n a=>h n (List.mem_filter.1 a).1).2;unfold jN;rw[h1,E5,ju,List.any_eq_true];simp only[jx,jO,bu,cu];constructor
 .rintro⟨n,⟨h1,h2,_⟩,h3⟩;exact⟨n,h1,h2,h3⟩
 .rintro⟨n,h1,h2,h3⟩;exact⟨n,⟨h1,h2,fun e=>by rw[e]at h3;cases h3⟩,h3⟩
def s9(c:dp)(e:List aN):List aN:=(e.filter fun d=>d.cond.at' c).map fun d=>{ d with cond:=tt }
open Dg
structure Tr where
 kids:List Nd
 diags:List aN
def prj(c:dp)(t:Tr):Tr:=⟨pL c t.kids,s9 c t.diags⟩
def vB(l:List Tr):Tr:=⟨dj (eO (l.flatMap (·.kids))) (l.flatMap (·.kids)),cK (l.flatMap (·.diags))⟩
def aN.key(d:aN):Int×Nat:=(d.tok,d.code)
mutual
def dO(d:T):List Nd->List Nd
 | []=>[]
 |n::l=>match IW d n with
  |some m=>m::dO d l
  |none=>dO d l
def IW (d:T):Nd->Option Nd
 |⟨k,t,o,s,ks,c⟩=>if d.and c=ff then none else some ⟨k,t,o,s,dO d ks,d.and c⟩
end
def gt(d:T)(e:List aN):List aN:=e.filterMap fun x=>if d.and x.cond=ff then none else some { x with cond:=d.and x.cond }
def wi(d:T)(t:Tr):Tr:=⟨dO d t.kids,gt d t.diags⟩
def qO(d:T)(n:Nd)(l:List Nd):dO d (n::l)=if d.and n.cond=ff then dO d l else { n with kids:=dO d n.kids,cond:=d.and n.cond }::dO d l:=by cases n;simp only[dO,IW];split<;>rename_i h<;>split at h<;>simp_all
def DL(d:T):∀(l:List Nd),((dO d l).map Nd.key).Sublist (l.map Nd.key)
 | []=>List.Sublist.slnil
 |n::l=>by
  rw[qO];split
  .exact(DL d l).cons _
  .exact(DL d l).cons_cons _
open Dg
mutual
def tB:Nd->Nat
 |⟨_,_,_,_,ks,_⟩=>aw ks+1
def aw:List Nd->Nat
 | []=>0
 |n::l=>tB n+aw l
end
def VB(n:Nd):tB n=aw n.kids+1:=by cases n;rfl
theorem lL:aw []=0:=rfl
def eK(n:Nd)(l:List Nd):aw (n::l)=aw n.kids+1+aw l:=by rw[aw,VB]
def jr:∀(a b:List Nd),aw (a++b)=aw a+aw b
 | [],b=>by simp[aw]
 |n::a,b=>by rw[gR,eK,eK,jr a b];omega
def iK{n:Nd}:∀{l:List Nd},n∈l->aw n.kids+1<=aw l
 | [],h=>(dH h).elim
 |m::l,h=>by
  rw[eK];rcases List.mem_cons.1 h with e|e
  .subst e;omega
  .have:=iK e;omega
def fJ:∀(l:List Nd),l.length<=aw l
 | []=>aW _
 |n::l=>by rw[eK,bf];have:=fJ l;omega
section
variable (N:Nat)
def lf:Option Nat->Nat
 |none=>0
 |some p=>N+1-p
end
def VA(l:List Nd)(k:fc):aw (fH l k)<=aw l:=by
 unfold fH
 induction l with
 |nil=>exact aW _
 |cons n l a=>
  rw[eK,gJ];split
  .rw[pV,jr];omega
  .omega
open Dg
def gF(l:List Nd)(k:fc):Nd:=⟨k.kind,k.text,k.tok,k.slot,fH l k,mg l k⟩
def j6:List Nd->Nd->List Nd
 | [],n=>[n]
 |m::out,n=>if m.key=n.key then { m with kids:=m.kids++n.kids,cond:=m.cond.or n.cond }::out else m::j6 out n
def jf(out:List Nd)(n:Nd):List Nd:=if n.cond=ff then out else j6 out n
def un:∀{out:List Nd} {n:Nd},(∀m∈out,m.key≠n.key)->j6 out n=out++[n]
 | [],n,_=>rfl
 |m::out,n,h=>by rw[j6,ad (h m (.head _)),un fun x a=>h x (.tail _ a)];rfl
def um:∀{out:List Nd} {n m:Nd} {i:Nat},out.Pairwise (fun a b=>a.key≠b.key)->out[i]?=some m->m.key=n.key->j6 out n=out.set i { m with kids:=m.kids++n.kids,cond:=m.cond.or n.cond }
 | [],n,m,i,_,h,_=>by simp at h
 |x::out,n,m,0,hp,h,c=>by simp only[mV,bv]at h;subst h;rw[j6,ak c];rfl
 |x::out,n,m,i+1,hp,h,c=>by simp only[pX]at h;have h1:=(List.pairwise_cons.1 hp).1 m (cH h);rw[j6,ad (by rw[<-c];exact h1),um (List.pairwise_cons.1 hp).2 h c];rfl
def CU(p:List Nd)(n:Nd)(k:fc):fH (p++[n]) k=fH p k++if fi k n then n.kids else []:=by unfold fH;rw[List.filter_append,pU];congr 1;cases h:fi k n<;>simp[gJ,h]
def BF(p:List Nd)(n:Nd)(k:fc):mg (p++[n]) k=if fi k n then (mg p k).or n.cond else mg p k:=by unfold mg;rw[List.filter_append,lP];cases h:fi k n<;>simp[gJ,h]
variable{p:List Nd}
def Nq{k:fc}(h:∀n∈p,n.cond≠ff->n.key≠k):mg p k=ff/\fH p k=[]:=by
 have:p.filter (fi k)=[]:=List.filter_eq_nil_iff.2 fun n a hm=>by simp only[fi,bu,cu]at hm;exact h n a hm.2 hm.1
 unfold mg fH;rw[this];exact⟨rfl,rfl⟩
def Gi{a:T}(h:a.ok 0):T.or ff a=a:=T.ext (T.or_ok (show (ff:T).ok 0 from trivial) h) h fun c=>by rw[T.or_at (show (ff:T).ok 0 from trivial) h,E5,ju]
structure fu(p out:List Nd):Prop where
 dist:out.Pairwise (fun a b=>a.key≠b.key)
 node:∀m∈out,m=gF p m.key
 has:∀n∈p,n.cond≠ff->∃m∈out,m.key=n.key
 from':∀m∈out,∃n∈p,n.cond≠ff/\n.key=m.key
def fu.nil:fu [] []:=⟨List.Pairwise.nil,fun _ h=>(dH h).elim,fun _ h=>(dH h).elim,fun _ h=>(dH h).elim⟩
def Dk{n:Nd}{k:fc}(h:n.cond=ff\/n.key≠k):gF (p++[n]) k=gF p k:=by
 have:fi k n=false:=by rcases h with h|h<;>simp[fi,h]
 unfold gF;rw[CU,BF,this];simp
theorem fu.step{out:List Nd}{n:Nd}(h:fu p out)(M:n.cond.ok 0):fu (p++[n]) (jf out n):=by
 unfold jf;split
 .rename_i F;refine⟨h.dist,fun m hm=>by rw[Dk (.inl F)];exact h.node m hm,fun x q o=>?_,fun m hm=>?_⟩
  .rcases List.mem_append.1 q with e|e
   .exact h.has x e o
   .rw[List.mem_singleton.1 e]at o;exact absurd F o
  .obtain⟨x,q,k⟩:=h.from' m hm;exact⟨x,dk _ q,k⟩
 .rename_i o;by_cases G:∃m∈out,m.key=n.key
  .obtain⟨m,hm,C⟩:=G;obtain⟨i,hi⟩:=List.mem_iff_getElem?.1 hm;rw[um h.dist hi C];have u:=(List.getElem?_eq_some_iff.1 hi).1;have f:fi n.key n=true:=by simp[fi,o]
   have Q:({ m with kids:=m.kids++n.kids,cond:=m.cond.or n.cond }:Nd)=gF (p++[n]) n.key:=by
    have L:=h.node m hm;rw[C]at L;have e2:m.kids=fH p n.key:=by rw[L];rfl
    have S:m.cond=mg p n.key:=by rw[L];rfl
    have R:gF (p++[n]) n.key=⟨n.key.kind,n.key.text,n.key.tok,n.key.slot,fH p n.key++n.kids,(mg p n.key).or n.cond⟩:=by unfold gF;rw[CU,BF,ak f,ak f]
    rw[R,<-e2,<-S,<-C];rfl
   have s:∀{x:Nd} {j:Nat},(out.set i { m with kids:=m.kids++n.kids,cond:=m.cond.or n.cond })[j]?=some x->j=i/\x={ m with kids:=m.kids++n.kids,cond:=m.cond.or n.cond }\/j≠i/\out[j]?=some x:=fun{x j} e=>by
    rw[pY]at e;split at e
    .rename_i w
     first
      |exact .inl ⟨w.symm,(df e).symm⟩
      |(rw[ak u]at e;exact .inl ⟨w.symm,(df e).symm⟩)
    .rename_i w;exact .inr ⟨fun e2=>w e2.symm,e⟩
   have r:∀{x y:Nd} {j l:Nat},out[j]?=some x->out[l]?=some y->j≠l->x.key≠y.key:=fun{x y j l} h1 h2 h3=>by
    obtain⟨a1,rfl⟩:=List.getElem?_eq_some_iff.1 h1;obtain⟨a2,rfl⟩:=List.getElem?_eq_some_iff.1 h2;rcases Nat.lt_or_gt_of_ne h3 with u|K
    .exact List.pairwise_iff_getElem.1 h.dist j l a1 a2 u
    .exact fun e=>List.pairwise_iff_getElem.1 h.dist l j a2 a1 K e.symm
   refine⟨?_,fun x q=>?_,fun x q g=>?_,fun x q=>?_⟩
   .refine List.pairwise_iff_getElem.2 fun j l v N P=>?_;have g1:=s (aL v);have g2:=s (aL N);rcases g1 with ⟨a,b⟩|⟨a,b⟩<;>rcases g2 with ⟨c,d⟩|⟨c,d⟩
    .omega
    .rw[b];exact(r (x:=m) hi d O:m.key≠_)
    .rw[d];exact(r (y:=m) b hi O:_≠m.key)
    .exact r b d O
   .obtain⟨j,v⟩:=List.mem_iff_getElem?.1 q;rcases s v with ⟨a,b⟩|⟨a,b⟩
    .have:x.key=n.key:=by rw[b];exact C
     rw[this,b,Q]
    .rw[Dk (.inr fun e=>r hi b O (by rw[C,e]))];exact h.node x (cH b)
   .have put:∀y∈out,∃z∈out.set i { m with kids:=m.kids++n.kids,cond:=m.cond.or n.cond },z.key=y.key:=fun y D=>by
     obtain⟨j,v⟩:=List.mem_iff_getElem?.1 D;by_cases e:j=i
     .subst e;rw[hi]at v;cases v
      exact⟨{ m with kids:=m.kids++n.kids,cond:=m.cond.or n.cond },List.mem_iff_getElem?.2 ⟨j,List.getElem?_set_self u⟩,rfl⟩
     .exact⟨y,List.mem_iff_getElem?.2 ⟨j,by rw[List.getElem?_set_ne (fun e2=>e e2.symm)];exact v⟩,rfl⟩
    rcases List.mem_append.1 q with e|e
    .obtain⟨y,D,I⟩:=h.has x e g;obtain⟨z,H,A⟩:=put y D;exact⟨z,H,A.trans I⟩
    .rw[List.mem_singleton.1 e];obtain⟨z,H,A⟩:=put m hm;exact⟨z,H,A.trans C⟩
   .obtain⟨j,v⟩:=List.mem_iff_getElem?.1 q;rcases s v with ⟨a,b⟩|⟨a,b⟩
    .exact⟨n,eo _ (.head _),o,by rw[b];exact C.symm⟩
    .obtain⟨y,D,k⟩:=h.from' x (cH b);exact⟨y,dk _ D,k⟩
  .have t:∀m∈out,m.key≠n.key:=fun m hm e=>G ⟨m,hm,e⟩;rw[un t];have f:fi n.key n=true:=by simp[fi,o]
   have B:∀x∈p,x.cond≠ff->x.key≠n.key:=fun x q g e=>by obtain⟨m,hm,J⟩:=h.has x q g;exact t m hm (J.trans e)
   obtain⟨T,c2⟩:=Nq B;refine⟨List.pairwise_append.2 ⟨h.dist,kE _ _,fun a ha b hb=>by rw[List.mem_singleton.1 hb];exact t a ha⟩,fun m hm=>?_,fun x q g=>?_,fun m hm=>?_⟩
   .rcases List.mem_append.1 hm with e|e
    .rw[Dk (.inr fun e2=>t m e e2.symm)];exact h.node m e
    .rw[List.mem_singleton.1 e];unfold gF;rw[CU,BF,ak f,ak f,T,c2,Gi M,gk];cases n;rfl
   .rcases List.mem_append.1 q with e|e
    .obtain⟨m,hm,k⟩:=h.has x e g;exact⟨m,dk _ hm,k⟩
    .exact⟨n,eo _ (.head _),by rw[List.mem_singleton.1 e]⟩
   .rcases List.mem_append.1 hm with e|e
    .obtain⟨x,q,k⟩:=h.from' m e;exact⟨x,dk _ q,k⟩
    .exact⟨n,eo _ (.head _),o,by rw[List.mem_singleton.1 e]⟩
def fu.of{l:List Nd}(h:∀n∈l,n.cond.ok 0):∀i,i<=l.length->fu (l.take i) ((l.take i).foldl jf [])
 |0,_=>fu.nil
 |i+1,hi=>by have a:i<l.length:=O;rw[List.take_succ_eq_append_getElem a,lP];exact(fu.of h i O).step (h _ (List.getElem_mem a))
def fu.sorted{l out L:List Nd}(h:fu l out)(hp:L.Perm out)(j:L.Pairwise (fun a b=>dE b.key a.key=false)):L=(ks l).map (gF l):=by
 have hd:L.Pairwise (fun a b=>a.key≠b.key):=(hp.pairwise_iff (fun{a b} h e=>h e.symm)).2 h.dist;have o:L.map Nd.key=ks l:=by
  refine tz jj ?_ (wr jj _) fun k=>?_
  .rw[List.pairwise_map];refine(j.and hd).imp fun{a b} h=>?_;cases i:dE a.key b.key with
   |true=>rfl
   |false=>exact absurd (jj.tri _ _ i h.1) h.2
  .rw[Db];constructor
   .intro g;obtain⟨m,hm,rfl⟩:=List.mem_map.1 g;obtain⟨n,d,c,f⟩:=h.from' m (hp.mem_iff.1 hm);exact⟨n,d,f,c⟩
   .rintro⟨n,d,rfl,c⟩;obtain⟨m,hm,g⟩:=h.has n d c;exact List.mem_map.2 ⟨m,hp.mem_iff.2 hm,g⟩
 rw[<-o,List.map_map];have:L.map id=L.map (gF l∘Nd.key):=n8 fun m hm=>h.node m (hp.mem_iff.1 hm)
 rwa [List.map_id]at this
def De(d:Nat)(l:List Nd):dj (d+1) l=((ks l).map (gF l)).map fun m=>{ m with kids:=dj d m.kids }:=by rw[dj,List.map_map];rfl
def JM:∀(K:List fc) (l:List Nd),K.Pairwise (fun a b=>a≠b)->(∀k∈K,∃n∈l,n.key=k/\n.cond≠ff)->aw (K.map (gF l))<=aw l
 | [],l,_,_=>bg _
 |k::K,l,h,g=>by
  have h2:=List.pairwise_cons.1 h;obtain⟨n0,m,o,p⟩:=g k (.head _);have u:∀(l:List Nd),aw l=aw (l.filter fun n=>decide (n.key=k))+aw (l.filter fun n=>!decide (n.key=k)):=fun l=>by
   induction l with
   |nil=>rfl
   |cons n l i=>cases f:decide (n.key=k)<;>simp[gJ,f,eK]<;>omega
  have e2:∀(l:List Nd),aw (fH l k)+((l.filter (fi k)).length)<=aw (l.filter fun n=>decide (n.key=k)):=fun l=>by
   induction l with
   |nil=>exact aW _
   |cons n l i=>
    unfold fH at i |-;by_cases f:n.key=k
    .by_cases j:n.cond=ff
     .have m1:fi k n=false:=by simp[fi,j]
      simp only[gJ,m1,f,decide_true,cY,iN,gT,eK];omega
     .have m1:fi k n=true:=by simp[fi,f,j]
      simp only[gJ,m1,f,decide_true,cY,pV,jr,bf,eK];omega
    .have m1:fi k n=false:=by simp[fi,f]
     simp only[gJ,m1,f,decide_false,iN,gT];exact i
  have y:1<=(l.filter (fi k)).length:=by have:n0∈l.filter (fi k):=List.mem_filter.2 ⟨m,by simp[fi,o,p]⟩;exact List.length_pos_of_mem this
  have r:∀d∈K,fH (l.filter fun n=>!decide (n.key=k)) d=fH l d:=fun d c=>by
   unfold fH;rw[List.filter_filter];congr 1;refine List.filter_congr fun n _=>?_;have:=h2.1 d c;by_cases e:n.key=d
   .have h3:n.key≠k:=fun e2=>this (e2.symm.trans e);simp[fi,e,show d≠k from fun e2=>this e2.symm]
   .simp[fi,e]
  have s:=JM K (l.filter fun n=>!decide (n.key=k)) h2.2 fun d c=>by obtain⟨n,f,q,j⟩:=g d (.tail _ c);refine⟨n,List.mem_filter.2 ⟨f,?_⟩,q,j⟩;have:=h2.1 d c;rw[q];simp only[g8,pZ];exact fun e=>this e.symm
  have t:aw (K.map (gF l))=aw (K.map (gF (l.filter fun n=>!decide (n.key=k)))):=by
   clear s h h2 g
   induction K with
   |nil=>rfl
   |cons x K i=>rw[jW,jW,eK,eK,i fun d c=>r d (.tail _ c)];show aw (fH l x)+1+_=aw (fH _ x)+1+_;rw[r x (.head _)]
  have w:=u l;have v:=e2 l;rw[jW,eK,t];show aw (fH l k)+1+_<=_;omega
def JN{f:List Nd->List Nd}:∀{L:List Nd},(∀n∈L,aw (f n.kids)<=aw n.kids)->aw (L.map fun m=>{ m with kids:=f m.kids })<=aw L
 | [],_=>aW _
 |n::L,h=>by rw[jW,eK,eK];have h1:=h n (.head _);have h2:=JN (f:=f) (L:=L) fun m hm=>h m (.tail _ hm);show aw (f n.kids)+1+_<=_;omega
def HB(l:List Nd):(ks l).Pairwise (fun a b=>a≠b):=(wr jj _).imp fun{a b} h e=>by rw[e,jj.irr]at h;cases h
def Eh(l:List Nd):aw ((ks l).map (gF l))<=aw l:=JM _ l (HB l) fun k a=>by obtain⟨n,h1,h2,h3⟩:=Db.1 a;exact⟨n,h1,h2,h3⟩
def JO:∀(d:Nat) (l:List Nd),aw (dj d l)<=aw l
 |0,l=>bg _
 |d+1,l=>by rw[De];exact cO (JN fun n _=>JO d n.kids) (Eh l)
def Ae(c:dp):∀(l:List Nd),aw (pL c l)<=aw l
 | []=>aW _
 |⟨k,t,o,s,ks,e⟩::l=>by
  have h1:=Ae c ks;have h2:=Ae c l;rw[zu];split
  .rw[eK,eK];show aw (pL c ks)+1+_<=aw ks+1+_;omega
  .rw[eK];omega
def bR:List Nat:=[19,13,14,15,16,17,18]
def dx:List Nat:=[2,7,19,8,9,10,11,12,6]
def rl(k:Nat):List (Nat×List Nat):=
 if k=1 then [(2,[2,3])]else if k=2 then [(0,[5]),(1,bR)]else if k=3 then [(2,[4]),(1,[5]),(0,[6])]
 else if k=4 then [(0,[5])]else if k=6 then [(2,dx)]else if k=7 then [(0,bR)]
 else if k=8 then [(0,bR),(0,[6]),(1,[6,8])]else if k=9 then [(0,bR),(0,[6])]else if k=10 then [(1,bR)]
 else if k=11 then [(0,bR)]else if k=12 then [(0,bR)]else if k=13 then [(0,bR),(0,bR)]
 else if k=14 then [(0,bR)]else if k=19 then [(2,bR)]else []
def n6(F:Nat->aE->Prop)(k:Nat)(x:aE):Prop:=
 if k=2\/k=3\/k=4\/k=7\/k=18\/k=19 then F 1 x/\fG x=false
 else if k=5 then x=q6\/x=qU
 else if k=13 then fI x≠9
 else if k=14 then x=Ei\/x=mK
 else if k=15 then F 2 x
 else if k=16 then x=rk\/x=qX
 else x=[]
def R1(k:Nat)(m:Nd):Prop:=∃i:Nat,m.slot=(i:Int)/\∃r,(rl k)[i]?=some r/\m.kind∈r.2
mutual
def iE:Nd->List (Int×T)
 |⟨_,_,o,_,ks,d⟩=>(o,d)::dv ks
def dv:List Nd->List (Int×T)
 | []=>[]
 |n::l=>iE n++dv l
end
def Gv(n:Nd)(l:List Nd):dv (n::l)=(n.tok,n.cond)::(dv n.kids++dv l):=by cases n;rfl
def o8:∀a b:List Nd,dv (a++b)=dv a++dv b
 | [],_=>rfl
 |n::a,b=>by rw[gR,Gv,Gv,o8 a b];simp
def kH(p q:Int×T):Prop:=p.1=q.1->∀c,¬(p.2.at' c=true/\q.2.at' c=true)
section
variable {F:Nat->aE->Prop}
def Ug{k i:Nat}{r:Nat×List Nat}(h:(rl k)[i]?=some r):(r.1=0\/r.1=1\/r.1=2)/\1∉r.2:=by
 have key:∀l:List (Nat×List Nat),(l.all fun r=>(r.1=0\/r.1=1\/r.1=2) && decide (1∉r.2))=true->l[i]?=some r->(r.1=0\/r.1=1\/r.1=2)/\1∉r.2:=fun l b hi=>by have:=List.all_eq_true.1 b r (cH hi);simpa using this
 refine key _ ?_ h;rcases aB k 20 with a|a
 .exact(by decide:∀k,k<20->((rl k).all fun r=>(r.1=0\/r.1=1\/r.1=2) && decide (1∉r.2))=true) k a
 .have:rl k=[]:=by
   unfold rl
   repeat rw[ad O]
  rw[this];rfl
end
end Syn
namespace Go.Proofs.YtfaclfkpnmcmlaaGreatDoor
open Go Go.Sx
theorem LN:Sx.a8 prog 266=some none:=ah
theorem Vx:Sx.bk prog 266=some 1:=ah
theorem W5:Sx.aZ prog 266=some (.slice none 0 0):=ah
theorem NW:Sx.br prog 266=.sl 2:=ah
theorem RY:Sx.bm prog 266=.sl:=ah
theorem QC:Sx.bE prog 266=true:=ah
def jT:Sx.ch prog 266 270 2 32:=ch.of ah ah O
theorem Bj:Sx.a8 prog 270=some (some 2):=ah
theorem Vy:Sx.bk prog 270=some 2:=ah
theorem W6:Sx.aZ prog 270=some (.agg #[.int .u8 0,.slice none 0 0]):=ah
theorem Ox:Sx.bj prog 270 0=some (0,5):=ah
theorem Oy:Sx.bj prog 270 1=some (1,268):=ah
theorem QU:Sx.dD prog 270=true:=ah
theorem NX:Sx.br prog 270=.none:=ah
theorem RZ:Sx.bm prog 270=.other:=ah
theorem QD:Sx.bE prog 270=true:=ah
theorem LP:Sx.a8 prog 337=some (some 20):=ah
theorem Vz:Sx.bk prog 337=some 20:=ah
theorem NY:Sx.br prog 337=.arr 20 1:=ah
theorem R0:Sx.bm prog 337=.other:=ah
theorem QE:Sx.bE prog 337=true:=ah
theorem W7:Sx.aZ prog 337=some (.agg #[.slice none 0 0,.slice none 0 0,.slice none 0 0,.slice none 0 0,.slice none 0 0,.slice none 0 0,.slice none 0 0,.slice none 0 0,.slice none 0 0,.slice none 0 0,.slice none 0 0,.slice none 0 0,.slice none 0 0,.slice none 0 0,.slice none 0 0,.slice none 0 0,.slice none 0 0,.slice none 0 0,.slice none 0 0,.slice none 0 0]):=ah
attribute [go_sem] LN Vx W5 NW RY QC Bj Vy W6 Ox Oy QU NX RZ QD LP Vz NY R0 QE W7
open Go Go.Sx Dg
def E(n:Nat):Value:=.int .i64 n
def cT(d:Nat×Nat×Nat):Value:=.agg #[E d.1,E d.2.1,E d.2.2]
def gi(d:Nat×Nat×Nat):List Value:=[E d.1,E d.2.1,E d.2.2]
def iM(ts:List T):List Value:=ts.flatMap fun t=>gi (T.dec ts t)
def pt(b:Nat):Value:=.pointer (some ⟨b,0,none⟩)
def GA{f:T->List Value}{n:Nat}(hf:∀t,(f t).length=n):∀(l:List T),(l.flatMap f).length=l.length*n
 | []=>by simp
 |t::l=>by simp only[pV,dG,hf,GA hf l,bf];rw[fm];omega
def Gy{f:T->List Value}{n:Nat}(hf:∀t,(f t).length=n):∀(l:List T) (i:Nat) (t:T),l[i]?=some t->((l.flatMap f).drop (i*n)).take n=f t
 | [],i,t,h=>by simp at h
 |x::l,0,t,h=>by simp only[mV,bv]at h;subst h;simp only[pV,Nat.zero_mul,jU];exact List.take_left' (hf x)
 |x::l,i+1,t,h=>by simp only[pX]at h;rw[pV,fm,lQ,Nat.add_comm,<-kB,List.drop_left' (hf x)];exact Gy hf l i t h
theorem rp(ts:List T):(iM ts).length=ts.length*3:=GA (f:=fun t=>gi (T.dec ts t)) (fun _=>rfl) ts
def rn{ts:List T}{i:Nat}{t:T}(h:ts[i]?=some t):((iM ts).drop (i*3)).take 3=gi (T.dec ts t):=Gy (f:=fun t=>gi (T.dec ts t)) (fun _=>rfl) ts i t h
def JX{ts:List T}(s:T.Seq ts){v:Nat}{l h:T}(a:T.isIn ts l)(b:T.isIn ts h):iM (ts++[.nd v l h])=iM ts++gi (v,T.plc ts l,T.plc ts h):=by
 unfold iM;rw[pU];congr 1
 .rw[List.flatMap_def,List.flatMap_def];congr 1;refine n8 fun t ht=>?_;obtain⟨i,hi⟩:=List.mem_iff_getElem?.1 ht;obtain⟨c,l',d,e,_⟩:=s.2 i t hi;rw[T.dec_app s (show T.isIn ts t by subst e;exact ht)]
 .simp[gi,T.dec,T.plc_app a,T.plc_app b]
def vu(ms:List T)(y u:Value):Prop:=∃t∈ms,y=cT (T.dec ms t)/\u=E (T.plc ms t)
def mY(mb:Nat)(ms:List T)(qs:List PH):Prop:=∃A sv r M,qs=[A,sg mb (.cells #[sv,.map (some r)] 300 (0,0)),M]/\cZ A 181 3 sv ms.length (iM ms)/\ip prog M r 181 (vu ms)/\T.Seq ms
def DX:1<prog.types.size:=eF ah
def Ar:prog.underlying 181=some (.struct #[⟨ "Var",3,0,false,"","",0⟩,⟨ "Low",3,1,false,"","",8⟩,⟨ "High",3,2,false,"","",16⟩]):=ah
def R9:prog.keyTypeAt 3 181=true:=ah
def VH:prog.tiled 3 181=true:=ah
def AM:Maps.Keyed prog 181:=by refine Maps.Keyed.of_law (deep_law (m:=3) O R9 VH ?_);rw[Ar]
def RR:prog.keyType 181=true:=ah
def MI:prog.cellsOf 181=3:=ah
def sx:prog.cellsOf 3=1:=ah
def tK{n:Nat}(h:n<2^62):(Lit.int .i64 n).wf=true:=by
 have h1:IntKind.min .i64=-9223372036854775808:=by decide
 have h2:IntKind.max .i64=9223372036854775807:=by decide
 simp only[Lit.wf,h1,h2,bu,cu];omega
def RV {P:Program} {k t:TypeId} {a b c:Nat} (e:P.underlying k=some (.struct #[⟨ "Var",t,0,false,"","",0⟩,⟨ "Low",t,1,false,"","",8⟩,⟨ "High",t,2,false,"","",16⟩])) (h1:P.keyType k=true) (h2:P.cellsOf k=3) (h3:P.cellsOf t=1) (g:P.underlying t=some (.int .i64)) (h:1<P.types.size)
  (ha:a<2^62) (hb:b<2^62) (f:c<2^62):dQ P k (cT (a,b,c)):=by
 obtain⟨n,d⟩:∃n,P.types.size=n+1:=⟨P.types.size-1,O⟩;unfold dQ keyOf;rw[h1];simp[e,Value.formed,cT,d,Program.keyLits,h2,h3,g,Value.cells,tK ha,tK hb,tK f,E]
def lM:prog.underlying 3=some (.int .i64):=ah
def RN{a b c:Nat}(ha:a<2^62)(hb:b<2^62)(d:c<2^62):dQ prog 181 (cT (a,b,c)):=RV (t:=3) Ar RR MI sx lM DX ha hb d
end Go.Proofs.YtfaclfkpnmcmlaaGreatDoor
