import Derived.Test.YtfaclfkpnmcmlaaGreatDoorH00
import Derived.Test.YtfaclfkpnmcmlaaGreatDoorH03
import Derived.Test.YtfaclfkpnmcmlaaGreatDoorProg
import Derived.KernelRfl
set_option maxHeartbeats 8000000
set_option linter.all false
namespace Go.Proofs.YtfaclfkpnmcmlaaGreatDoor
open Go Go.Sx
theorem jq:Sx.bk Tryz.prog 3=some none:=by kernel_rfl
theorem uZ:Sx.bY Tryz.prog 3=some 1:=by kernel_rfl
theorem NL:Sx.aV Tryz.prog 3=some (.int .i64 0):=by kernel_rfl
theorem Ep:Sx.bk Tryz.prog 4=some none:=by kernel_rfl
theorem Uv:Sx.bk Tryz.prog 5=some none:=by kernel_rfl
theorem tL:Sx.bk Tryz.prog 9=some none:=by kernel_rfl
theorem oR:Sx.bk Tryz.prog 23=some none:=by kernel_rfl
theorem uy:Sx.bk Tryz.prog 24=some none:=by kernel_rfl
theorem PL:Sx.bk Tryz.prog 33=some none:=by kernel_rfl
theorem Ke:Sx.bY Tryz.prog 33=some 1:=by kernel_rfl
theorem Te:Sx.bk Tryz.prog 34=some none:=by kernel_rfl
theorem UF:Sx.bY Tryz.prog 34=some 1:=by kernel_rfl
theorem Vd:Sx.bk Tryz.prog 36=some (some 2):=by kernel_rfl
theorem Ky:Sx.bk Tryz.prog 46=some none:=by kernel_rfl
theorem DR:Sx.bk Tryz.prog 48=some none:=by kernel_rfl
theorem SF:Sx.bY Tryz.prog 48=some 1:=by kernel_rfl
theorem r9:Sx.bk Tryz.prog 50=some (some 2):=by kernel_rfl
theorem Ds:Sx.bY Tryz.prog 50=some 2:=by kernel_rfl
theorem cL:Sx.bk Tryz.prog 60=some (some 7):=by kernel_rfl
theorem aU:Sx.bY Tryz.prog 60=some 7:=by kernel_rfl
theorem lW:Sx.bk Tryz.prog 80=some (some 4):=by kernel_rfl
theorem yM:Sx.bY Tryz.prog 80=some 4:=by kernel_rfl
theorem Wh:Sx.aV Tryz.prog 80=some (.agg #[.int .u8 0,.int .i64 0,.slice none 0 0,.int .i64 0]):=by kernel_rfl
theorem U1:Sx.bk Tryz.prog 83=some (some 7):=by kernel_rfl
theorem ze:Sx.bk Tryz.prog 152=some none:=by kernel_rfl
theorem Rq:Sx.bk Tryz.prog 158=some none:=by kernel_rfl
theorem sM:Sx.bk Tryz.prog 169=some (some 3):=by kernel_rfl
theorem Rt:Sx.bY Tryz.prog 169=some 3:=by kernel_rfl
theorem uK:Sx.bk Tryz.prog 181=some (some 3):=by kernel_rfl
theorem zj:Sx.bk Tryz.prog 217=some none:=by kernel_rfl
theorem gI:Sx.bk Tryz.prog 227=some (some 5):=by kernel_rfl
theorem Dh:Sx.bk Tryz.prog 260=some none:=by kernel_rfl
theorem MH:Sx.bk Tryz.prog 298=some none:=by kernel_rfl
theorem GM:Sx.bk Tryz.prog 301=some none:=by kernel_rfl
theorem Gq:Sx.bk Tryz.prog 302=some none:=by kernel_rfl
theorem RY:Sx.bY Tryz.prog 302=some 1:=by kernel_rfl
theorem Mm:Sx.bk Tryz.prog 315=some none:=by kernel_rfl
theorem RL:Sx.bk Tryz.prog 316=some none:=by kernel_rfl
theorem Ry:Sx.bk Tryz.prog 317=some (some 22):=by kernel_rfl
theorem n6:Sx.bk Tryz.prog 377=some none:=by kernel_rfl
theorem LI:Sx.bY Tryz.prog 377=some 1:=by kernel_rfl
def IP:Sx.jv Tryz.prog 24 83 7 96:=jv.of (by kernel_rfl) (by kernel_rfl) ab
def Iw:Sx.jv Tryz.prog 28 136 6 88:=jv.of (by kernel_rfl) (by kernel_rfl) ab
def dQ:Sx.jv Tryz.prog 33 60 7 96:=jv.of (by kernel_rfl) (by kernel_rfl) ab
def vP:Sx.jv Tryz.prog 34 80 4 48:=jv.of (by kernel_rfl) (by kernel_rfl) ab
def Lw:Sx.jv Tryz.prog 43 23 1 4:=jv.of (by kernel_rfl) (by kernel_rfl) ab
def Qr:Sx.jv Tryz.prog 48 181 3 24:=jv.of (by kernel_rfl) (by kernel_rfl) ab
def tz:Sx.jv Tryz.prog 81 3 1 8:=jv.of (by kernel_rfl) (by kernel_rfl) ab
def Xn:Sx.jv Tryz.prog 88 36 2 48:=jv.of (by kernel_rfl) (by kernel_rfl) ab
def RV:Sx.jv Tryz.prog 154 169 3 40:=jv.of (by kernel_rfl) (by kernel_rfl) ab
def jH:Sx.jv Tryz.prog 155 169 3 40:=jv.of (by kernel_rfl) (by kernel_rfl) ab
def Rp:Sx.jv Tryz.prog 158 4 1 1:=jv.of (by kernel_rfl) (by kernel_rfl) ab
theorem JT:Tryz.prog.underlying 238=some (.map 240 3):=by kernel_rfl
theorem Ec:Tryz.prog.underlying 260=some (.map 335 3):=by kernel_rfl
theorem Nr:Tryz.prog.underlying 298=some (.map 181 3):=by kernel_rfl
theorem zR:Tryz.prog.underlying 301=some (.map 3 3):=by kernel_rfl
def uV:Sx.jv Tryz.prog 306 227 5 64:=jv.of (by kernel_rfl) (by kernel_rfl) ab
def VE:Sx.jv Tryz.prog 319 316 1 8:=jv.of (by kernel_rfl) (by kernel_rfl) ab
theorem XY:Sx.co Tryz.prog 3=.none/\Sx.aY Tryz.prog 3=.int .i64/\Sx.cF Tryz.prog 3=true/\Sx.bY Tryz.prog 4=some 1/\Sx.aV Tryz.prog 4=some (.bool false)/\Sx.co Tryz.prog 4=.none/\Sx.aY Tryz.prog 4=.other/\Sx.cF Tryz.prog 4=true/\Sx.bY Tryz.prog 5=some 1/\Sx.aV Tryz.prog 5=some (.int .u8 0)/\Sx.co Tryz.prog 5=.none/\Sx.aY Tryz.prog 5=.int .u8/\Sx.cF Tryz.prog 5=true/\Sx.bY Tryz.prog 9=some 1/\Sx.aV Tryz.prog 9=some (.string ⟨#[]⟩)/\Sx.co Tryz.prog 9=.none/\Sx.aY Tryz.prog 9=.str/\Sx.cF Tryz.prog 9=true/\Sx.bk Tryz.prog 22=some none/\Sx.bY Tryz.prog 22=some 1/\Sx.aV Tryz.prog 22=some (.slice none 0 0)/\Sx.co Tryz.prog 22=.sl 3/\Sx.aY Tryz.prog 22=.sl/\Sx.cF Tryz.prog 22=true/\Sx.bY Tryz.prog 23=some 1/\Sx.aV Tryz.prog 23=some (.int .u32 0)/\Sx.co Tryz.prog 23=.none/\Sx.aY Tryz.prog 23=.int .u32/\Sx.cF Tryz.prog 23=true/\Sx.bY Tryz.prog 24=some 1/\Sx.aV Tryz.prog 24=some (.slice none 0 0)/\Sx.co Tryz.prog 24=.sl 7/\Sx.aY Tryz.prog 24=.sl/\Sx.cF Tryz.prog 24=true/\Sx.bk Tryz.prog 27=some (some 2)/\Sx.bY Tryz.prog 27=some 2/\Sx.aV Tryz.prog 27=some (.agg #[.slice none 0 0,.slice none 0 0])/\Sx.aG Tryz.prog 27 0=some (0,24)/\Sx.aG Tryz.prog 27 1=some (1,25)/\Sx.jp Tryz.prog 27=true/\Sx.co Tryz.prog 27=.none/\Sx.aY Tryz.prog 27=.other/\Sx.cF Tryz.prog 27=true/\Sx.bk Tryz.prog 28=some none/\Sx.bY Tryz.prog 28=some 1/\Sx.aV Tryz.prog 28=some (.slice none 0 0)/\Sx.co Tryz.prog 28=.sl 6/\Sx.aY Tryz.prog 28=.sl/\Sx.cF Tryz.prog 28=true/\Sx.aV Tryz.prog 33=some (.slice none 0 0)/\Sx.co Tryz.prog 33=.sl 7/\Sx.aY Tryz.prog 33=.sl/\Sx.cF Tryz.prog 33=true/\Sx.aV Tryz.prog 34=some (.slice none 0 0)/\Sx.co Tryz.prog 34=.sl 4/\Sx.aY Tryz.prog 34=.sl/\Sx.cF Tryz.prog 34=true/\Sx.bY Tryz.prog 36=some 2/\Sx.aV Tryz.prog 36=some (.agg #[.slice none 0 0,.slice none 0 0])/\Sx.aG Tryz.prog 36 0=some (0,33):=by and_intros<;>kernel_rfl
theorem Xa:Sx.aG Tryz.prog 36 1=some (1,34)/\Sx.jp Tryz.prog 36=true/\Sx.co Tryz.prog 36=.none/\Sx.aY Tryz.prog 36=.other/\Sx.cF Tryz.prog 36=true/\Sx.bk Tryz.prog 38=some none/\Sx.bY Tryz.prog 38=some 1/\Sx.aV Tryz.prog 38=some (.slice none 0 0)/\Sx.co Tryz.prog 38=.sl 6/\Sx.aY Tryz.prog 38=.sl/\Sx.cF Tryz.prog 38=true/\Sx.bk Tryz.prog 39=some none/\Sx.bY Tryz.prog 39=some 1/\Sx.aV Tryz.prog 39=some (.slice none 0 0)/\Sx.co Tryz.prog 39=.sl 3/\Sx.aY Tryz.prog 39=.sl/\Sx.cF Tryz.prog 39=true/\Sx.bk Tryz.prog 41=some (some 2)/\Sx.bY Tryz.prog 41=some 2/\Sx.aV Tryz.prog 41=some (.agg #[.slice none 0 0,.slice none 0 0])/\Sx.aG Tryz.prog 41 0=some (0,38)/\Sx.aG Tryz.prog 41 1=some (1,39)/\Sx.jp Tryz.prog 41=true/\Sx.co Tryz.prog 41=.none/\Sx.aY Tryz.prog 41=.other/\Sx.cF Tryz.prog 41=true/\Sx.bk Tryz.prog 43=some none/\Sx.bY Tryz.prog 43=some 1/\Sx.aV Tryz.prog 43=some (.slice none 0 0)/\Sx.co Tryz.prog 43=.sl 1/\Sx.aY Tryz.prog 43=.sl/\Sx.cF Tryz.prog 43=true/\Sx.bY Tryz.prog 46=some 1/\Sx.aV Tryz.prog 46=some (.slice none 0 0)/\Sx.co Tryz.prog 46=.sl 2/\Sx.aY Tryz.prog 46=.sl/\Sx.cF Tryz.prog 46=true/\Sx.aV Tryz.prog 48=some (.slice none 0 0)/\Sx.co Tryz.prog 48=.sl 3/\Sx.aY Tryz.prog 48=.sl/\Sx.cF Tryz.prog 48=true/\Sx.aV Tryz.prog 50=some (.agg #[.slice none 0 0,.int .i64 0])/\Sx.aG Tryz.prog 50 0=some (0,48)/\Sx.aG Tryz.prog 50 1=some (1,3)/\Sx.jp Tryz.prog 50=true/\Sx.co Tryz.prog 50=.none/\Sx.aY Tryz.prog 50=.other/\Sx.cF Tryz.prog 50=true/\Sx.aV Tryz.prog 60=some (.agg #[.int .u8 0,.string ⟨#[]⟩,.int .i64 0,.int .i64 0,.slice none 0 0,.slice none 0 0,.int .i64 0])/\Sx.aG Tryz.prog 60 0=some (0,5)/\Sx.aG Tryz.prog 60 1=some (1,9)/\Sx.aG Tryz.prog 60 2=some (2,3)/\Sx.aG Tryz.prog 60 3=some (3,3)/\Sx.aG Tryz.prog 60 4=some (4,33)/\Sx.aG Tryz.prog 60 5=some (5,50)/\Sx.jp Tryz.prog 60=true/\Sx.co Tryz.prog 60=.none/\Sx.aY Tryz.prog 60=.other/\Sx.cF Tryz.prog 60=true/\Sx.bk Tryz.prog 61=some none:=by and_intros<;>kernel_rfl
theorem XW:Sx.bY Tryz.prog 61=some 1/\Sx.aV Tryz.prog 61=some (.int .i64 0)/\Sx.co Tryz.prog 61=.none/\Sx.aY Tryz.prog 61=.int .i64/\Sx.cF Tryz.prog 61=true/\Sx.bk Tryz.prog 67=some (some 6)/\Sx.bY Tryz.prog 67=some 6/\Sx.aV Tryz.prog 67=some (.agg #[.int .u8 0,.string ⟨#[]⟩,.int .i64 0,.int .i64 0,.slice none 0 0,.slice none 0 0])/\Sx.aG Tryz.prog 67 0=some (0,5)/\Sx.aG Tryz.prog 67 1=some (1,9)/\Sx.aG Tryz.prog 67 2=some (2,3)/\Sx.aG Tryz.prog 67 3=some (3,3)/\Sx.aG Tryz.prog 67 4=some (4,38)/\Sx.aG Tryz.prog 67 5=some (5,43)/\Sx.jp Tryz.prog 67=true/\Sx.co Tryz.prog 67=.none/\Sx.aY Tryz.prog 67=.other/\Sx.cF Tryz.prog 67=true/\Sx.bk Tryz.prog 78=some none/\Sx.bY Tryz.prog 78=some 1/\Sx.aV Tryz.prog 78=some (.int .u8 0)/\Sx.co Tryz.prog 78=.none/\Sx.aY Tryz.prog 78=.int .u8/\Sx.cF Tryz.prog 78=true/\Sx.aG Tryz.prog 80 0=some (0,78)/\Sx.aG Tryz.prog 80 1=some (1,3)/\Sx.aG Tryz.prog 80 2=some (2,50)/\Sx.jp Tryz.prog 80=true/\Sx.co Tryz.prog 80=.none/\Sx.aY Tryz.prog 80=.other/\Sx.cF Tryz.prog 80=true/\Sx.bk Tryz.prog 81=some none/\Sx.bY Tryz.prog 81=some 1/\Sx.aV Tryz.prog 81=some (.slice none 0 0)/\Sx.co Tryz.prog 81=.sl 1/\Sx.aY Tryz.prog 81=.sl/\Sx.cF Tryz.prog 81=true/\Sx.bY Tryz.prog 83=some 7/\Sx.aV Tryz.prog 83=some (.agg #[.int .u8 0,.string ⟨#[]⟩,.slice none 0 0,.int .i64 0,.int .i64 0,.slice none 0 0,.int .i64 0])/\Sx.aG Tryz.prog 83 0=some (0,5)/\Sx.aG Tryz.prog 83 1=some (1,9)/\Sx.aG Tryz.prog 83 2=some (2,81)/\Sx.aG Tryz.prog 83 3=some (3,3)/\Sx.aG Tryz.prog 83 4=some (4,3)/\Sx.aG Tryz.prog 83 5=some (5,50)/\Sx.jp Tryz.prog 83=true/\Sx.co Tryz.prog 83=.none/\Sx.aY Tryz.prog 83=.other/\Sx.cF Tryz.prog 83=true/\Sx.bk Tryz.prog 88=some none/\Sx.bY Tryz.prog 88=some 1/\Sx.aV Tryz.prog 88=some (.slice none 0 0)/\Sx.co Tryz.prog 88=.sl 2/\Sx.aY Tryz.prog 88=.sl/\Sx.cF Tryz.prog 88=true/\Sx.bk Tryz.prog 91=some none/\Sx.bY Tryz.prog 91=some 1/\Sx.aV Tryz.prog 91=some (.slice none 0 0)/\Sx.co Tryz.prog 91=.sl 6/\Sx.aY Tryz.prog 91=.sl:=by and_intros<;>kernel_rfl
theorem Xe:Sx.cF Tryz.prog 91=true/\Sx.bk Tryz.prog 92=some none/\Sx.bY Tryz.prog 92=some 1/\Sx.aV Tryz.prog 92=some (.slice none 0 0)/\Sx.co Tryz.prog 92=.sl 3/\Sx.aY Tryz.prog 92=.sl/\Sx.cF Tryz.prog 92=true/\Sx.bk Tryz.prog 94=some (some 2)/\Sx.bY Tryz.prog 94=some 2/\Sx.aV Tryz.prog 94=some (.agg #[.slice none 0 0,.slice none 0 0])/\Sx.aG Tryz.prog 94 0=some (0,91)/\Sx.aG Tryz.prog 94 1=some (1,92)/\Sx.jp Tryz.prog 94=true/\Sx.co Tryz.prog 94=.none/\Sx.aY Tryz.prog 94=.other/\Sx.cF Tryz.prog 94=true/\Sx.bk Tryz.prog 97=some none/\Sx.bY Tryz.prog 97=some 1/\Sx.aV Tryz.prog 97=some (.slice none 0 0)/\Sx.co Tryz.prog 97=.sl 2/\Sx.aY Tryz.prog 97=.sl/\Sx.cF Tryz.prog 97=true/\Sx.bk Tryz.prog 102=some (some 3)/\Sx.bY Tryz.prog 102=some 3/\Sx.aV Tryz.prog 102=some (.agg #[.int .u8 0,.int .i64 0,.slice none 0 0])/\Sx.aG Tryz.prog 102 0=some (0,78)/\Sx.aG Tryz.prog 102 1=some (1,3)/\Sx.aG Tryz.prog 102 2=some (2,43)/\Sx.jp Tryz.prog 102=true/\Sx.co Tryz.prog 102=.none/\Sx.aY Tryz.prog 102=.other/\Sx.cF Tryz.prog 102=true/\Sx.bk Tryz.prog 104=some none/\Sx.bY Tryz.prog 104=some 1/\Sx.aV Tryz.prog 104=some (.slice none 0 0)/\Sx.co Tryz.prog 104=.sl 7/\Sx.aY Tryz.prog 104=.sl/\Sx.cF Tryz.prog 104=true/\Sx.bk Tryz.prog 111=some (some 7)/\Sx.bY Tryz.prog 111=some 7/\Sx.aV Tryz.prog 111=some (.agg #[.slice none 0 0,.int .u8 0,.string ⟨#[]⟩,.int .i64 0,.int .i64 0,.slice none 0 0,.slice none 0 0])/\Sx.aG Tryz.prog 111 0=some (0,81)/\Sx.aG Tryz.prog 111 1=some (1,67)/\Sx.jp Tryz.prog 111=true/\Sx.co Tryz.prog 111=.none/\Sx.aY Tryz.prog 111=.other/\Sx.cF Tryz.prog 111=true/\Sx.bk Tryz.prog 118=some none/\Sx.bY Tryz.prog 118=some 1/\Sx.aV Tryz.prog 118=some (.slice none 0 0)/\Sx.co Tryz.prog 118=.sl 2/\Sx.aY Tryz.prog 118=.sl/\Sx.cF Tryz.prog 118=true/\Sx.bk Tryz.prog 134=some (some 3)/\Sx.bY Tryz.prog 134=some 3/\Sx.aV Tryz.prog 134=some (.agg #[.int .u8 0,.string ⟨#[]⟩,.slice none 0 0])/\Sx.aG Tryz.prog 134 0=some (0,5)/\Sx.aG Tryz.prog 134 1=some (1,9)/\Sx.aG Tryz.prog 134 2=some (2,46)/\Sx.jp Tryz.prog 134=true:=by and_intros<;>kernel_rfl
theorem X8:Sx.co Tryz.prog 134=.none/\Sx.aY Tryz.prog 134=.other/\Sx.cF Tryz.prog 134=true/\Sx.bk Tryz.prog 136=some (some 6)/\Sx.bY Tryz.prog 136=some 6/\Sx.aV Tryz.prog 136=some (.agg #[.int .u8 0,.string ⟨#[]⟩,.slice none 0 0,.int .i64 0,.int .i64 0,.slice none 0 0])/\Sx.aG Tryz.prog 136 0=some (0,5)/\Sx.aG Tryz.prog 136 1=some (1,9)/\Sx.aG Tryz.prog 136 2=some (2,81)/\Sx.aG Tryz.prog 136 3=some (3,3)/\Sx.aG Tryz.prog 136 4=some (4,3)/\Sx.aG Tryz.prog 136 5=some (5,43)/\Sx.jp Tryz.prog 136=true/\Sx.co Tryz.prog 136=.none/\Sx.aY Tryz.prog 136=.other/\Sx.cF Tryz.prog 136=true/\Sx.bk Tryz.prog 150=some (some 8)/\Sx.bY Tryz.prog 150=some 8/\Sx.aV Tryz.prog 150=some (.agg #[.slice none 0 0,.slice none 0 0,.int .i64 0,.int .i64 0,.int .i64 0,.bool false,.int .u8 0,.int .i64 0])/\Sx.aG Tryz.prog 150 0=some (0,28)/\Sx.aG Tryz.prog 150 1=some (1,81)/\Sx.aG Tryz.prog 150 2=some (2,3)/\Sx.aG Tryz.prog 150 3=some (3,3)/\Sx.aG Tryz.prog 150 4=some (4,3)/\Sx.aG Tryz.prog 150 5=some (5,4)/\Sx.aG Tryz.prog 150 6=some (6,78)/\Sx.aG Tryz.prog 150 7=some (7,3)/\Sx.jp Tryz.prog 150=true/\Sx.co Tryz.prog 150=.none/\Sx.aY Tryz.prog 150=.other/\Sx.cF Tryz.prog 150=true/\Sx.bY Tryz.prog 152=some 1/\Sx.aV Tryz.prog 152=some (.pointer none)/\Sx.co Tryz.prog 152=.none/\Sx.aY Tryz.prog 152=.other/\Sx.cF Tryz.prog 152=true/\Sx.bk Tryz.prog 154=some none/\Sx.bY Tryz.prog 154=some 1/\Sx.aV Tryz.prog 154=some (.slice none 0 0)/\Sx.co Tryz.prog 154=.sl 3/\Sx.aY Tryz.prog 154=.sl/\Sx.cF Tryz.prog 154=true/\Sx.bk Tryz.prog 155=some none/\Sx.bY Tryz.prog 155=some 1/\Sx.aV Tryz.prog 155=some (.slice none 0 0)/\Sx.co Tryz.prog 155=.sl 3/\Sx.aY Tryz.prog 155=.sl/\Sx.cF Tryz.prog 155=true/\Sx.bY Tryz.prog 158=some 1/\Sx.aV Tryz.prog 158=some (.slice none 0 0)/\Sx.co Tryz.prog 158=.sl 1/\Sx.aY Tryz.prog 158=.sl/\Sx.cF Tryz.prog 158=true/\Sx.bk Tryz.prog 159=some none/\Sx.bY Tryz.prog 159=some 1/\Sx.aV Tryz.prog 159=some (.slice none 0 0)/\Sx.co Tryz.prog 159=.sl 2/\Sx.aY Tryz.prog 159=.sl/\Sx.cF Tryz.prog 159=true/\Sx.bk Tryz.prog 161=some (some 5):=by and_intros<;>kernel_rfl
theorem Xt:Sx.bY Tryz.prog 161=some 5/\Sx.aV Tryz.prog 161=some (.agg #[.slice none 0 0,.slice none 0 0,.slice none 0 0,.int .i64 0,.slice none 0 0])/\Sx.aG Tryz.prog 161 0=some (0,24)/\Sx.aG Tryz.prog 161 1=some (1,158)/\Sx.aG Tryz.prog 161 2=some (2,159)/\Sx.aG Tryz.prog 161 3=some (3,3)/\Sx.aG Tryz.prog 161 4=some (4,34)/\Sx.jp Tryz.prog 161=true/\Sx.co Tryz.prog 161=.none/\Sx.aY Tryz.prog 161=.other/\Sx.cF Tryz.prog 161=true/\Sx.bk Tryz.prog 164=some (some 2)/\Sx.bY Tryz.prog 164=some 2/\Sx.aV Tryz.prog 164=some (.agg #[.int .u32 0,.int .u32 0])/\Sx.aG Tryz.prog 164 0=some (0,23)/\Sx.aG Tryz.prog 164 1=some (1,23)/\Sx.jp Tryz.prog 164=true/\Sx.co Tryz.prog 164=.none/\Sx.aY Tryz.prog 164=.other/\Sx.cF Tryz.prog 164=true/\Sx.aV Tryz.prog 169=some (.agg #[.int .i64 0,.slice none 0 0,.int .i64 0])/\Sx.aG Tryz.prog 169 0=some (0,3)/\Sx.aG Tryz.prog 169 1=some (1,50)/\Sx.jp Tryz.prog 169=true/\Sx.co Tryz.prog 169=.none/\Sx.aY Tryz.prog 169=.other/\Sx.cF Tryz.prog 169=true/\Sx.bY Tryz.prog 181=some 3/\Sx.aV Tryz.prog 181=some (.agg #[.int .i64 0,.int .i64 0,.int .i64 0])/\Sx.aG Tryz.prog 181 0=some (0,3)/\Sx.aG Tryz.prog 181 1=some (1,3)/\Sx.aG Tryz.prog 181 2=some (2,3)/\Sx.jp Tryz.prog 181=true/\Sx.co Tryz.prog 181=.none/\Sx.aY Tryz.prog 181=.other/\Sx.cF Tryz.prog 181=true/\Sx.bk Tryz.prog 187=some (some 3)/\Sx.bY Tryz.prog 187=some 3/\Sx.aV Tryz.prog 187=some (.agg #[.int .u8 0,.int .i64 0,.slice none 0 0])/\Sx.aG Tryz.prog 187 0=some (0,78)/\Sx.aG Tryz.prog 187 1=some (1,3)/\Sx.aG Tryz.prog 187 2=some (2,46)/\Sx.jp Tryz.prog 187=true/\Sx.co Tryz.prog 187=.none/\Sx.aY Tryz.prog 187=.other/\Sx.cF Tryz.prog 187=true/\Sx.bk Tryz.prog 192=some none/\Sx.bY Tryz.prog 192=some 1/\Sx.aV Tryz.prog 192=some (.nilFunc)/\Sx.co Tryz.prog 192=.none/\Sx.aY Tryz.prog 192=.other/\Sx.cF Tryz.prog 192=true/\Sx.bk Tryz.prog 197=some none/\Sx.bY Tryz.prog 197=some 1/\Sx.aV Tryz.prog 197=some (.map none)/\Sx.co Tryz.prog 197=.none/\Sx.aY Tryz.prog 197=.other/\Sx.cF Tryz.prog 197=true/\Sx.bY Tryz.prog 217=some 1/\Sx.aV Tryz.prog 217=some (.pointer none):=by and_intros<;>kernel_rfl
theorem Yl:Sx.co Tryz.prog 217=.none/\Sx.aY Tryz.prog 217=.other/\Sx.cF Tryz.prog 217=true/\Sx.bY Tryz.prog 227=some 5/\Sx.aV Tryz.prog 227=some (.agg #[.int .i64 0,.slice none 0 0,.int .i64 0,.int .u8 0,.string ⟨#[]⟩])/\Sx.aG Tryz.prog 227 0=some (0,3)/\Sx.aG Tryz.prog 227 1=some (1,50)/\Sx.aG Tryz.prog 227 2=some (3,5)/\Sx.aG Tryz.prog 227 3=some (4,9)/\Sx.jp Tryz.prog 227=true/\Sx.co Tryz.prog 227=.none/\Sx.aY Tryz.prog 227=.other/\Sx.cF Tryz.prog 227=true/\Sx.bk Tryz.prog 238=some none/\Sx.bY Tryz.prog 238=some 1/\Sx.aV Tryz.prog 238=some (.map none)/\Sx.co Tryz.prog 238=.none/\Sx.aY Tryz.prog 238=.other/\Sx.cF Tryz.prog 238=true/\Sx.bk Tryz.prog 240=some (some 4)/\Sx.bY Tryz.prog 240=some 4/\Sx.aV Tryz.prog 240=some (.agg #[.int .i64 0,.int .i64 0,.int .u8 0,.string ⟨#[]⟩])/\Sx.aG Tryz.prog 240 0=some (0,3)/\Sx.aG Tryz.prog 240 1=some (1,3)/\Sx.aG Tryz.prog 240 2=some (2,5)/\Sx.aG Tryz.prog 240 3=some (3,9)/\Sx.jp Tryz.prog 240=true/\Sx.co Tryz.prog 240=.none/\Sx.aY Tryz.prog 240=.other/\Sx.cF Tryz.prog 240=true/\Sx.bY Tryz.prog 260=some 1/\Sx.aV Tryz.prog 260=some (.map none)/\Sx.co Tryz.prog 260=.none/\Sx.aY Tryz.prog 260=.other/\Sx.cF Tryz.prog 260=true/\Sx.bk Tryz.prog 262=some (some 6)/\Sx.bY Tryz.prog 262=some 6/\Sx.aV Tryz.prog 262=some (.agg #[.pointer none,.slice none 0 0,.int .i64 0,.slice none 0 0,.int .i64 0,.map none])/\Sx.aG Tryz.prog 262 0=some (0,217)/\Sx.aG Tryz.prog 262 1=some (1,50)/\Sx.aG Tryz.prog 262 2=some (3,50)/\Sx.aG Tryz.prog 262 3=some (5,260)/\Sx.jp Tryz.prog 262=true/\Sx.co Tryz.prog 262=.none/\Sx.aY Tryz.prog 262=.other/\Sx.cF Tryz.prog 262=true/\Sx.bk Tryz.prog 265=some (some 6)/\Sx.bY Tryz.prog 265=some 6/\Sx.aV Tryz.prog 265=some (.agg #[.int .u8 0,.string ⟨#[]⟩,.int .i64 0,.int .i64 0,.slice none 0 0,.slice none 0 0])/\Sx.aG Tryz.prog 265 0=some (0,5)/\Sx.aG Tryz.prog 265 1=some (1,9)/\Sx.aG Tryz.prog 265 2=some (2,3)/\Sx.aG Tryz.prog 265 3=some (3,3)/\Sx.aG Tryz.prog 265 4=some (4,91)/\Sx.aG Tryz.prog 265 5=some (5,46)/\Sx.jp Tryz.prog 265=true/\Sx.co Tryz.prog 265=.none/\Sx.aY Tryz.prog 265=.other/\Sx.cF Tryz.prog 265=true/\Sx.bk Tryz.prog 268=some none:=by and_intros<;>kernel_rfl
theorem XM:Sx.bY Tryz.prog 268=some 1/\Sx.aV Tryz.prog 268=some (.slice none 0 0)/\Sx.co Tryz.prog 268=.sl 1/\Sx.aY Tryz.prog 268=.sl/\Sx.cF Tryz.prog 268=true/\Sx.bk Tryz.prog 282=some none/\Sx.bY Tryz.prog 282=some 1/\Sx.aV Tryz.prog 282=some (.slice none 0 0)/\Sx.co Tryz.prog 282=.sl 1/\Sx.aY Tryz.prog 282=.sl/\Sx.cF Tryz.prog 282=true/\Sx.bk Tryz.prog 284=some none/\Sx.bY Tryz.prog 284=some 1/\Sx.aV Tryz.prog 284=some (.nilIface)/\Sx.co Tryz.prog 284=.none/\Sx.aY Tryz.prog 284=.other/\Sx.cF Tryz.prog 284=true/\Sx.bY Tryz.prog 298=some 1/\Sx.aV Tryz.prog 298=some (.map none)/\Sx.co Tryz.prog 298=.none/\Sx.aY Tryz.prog 298=.other/\Sx.cF Tryz.prog 298=true/\Sx.bk Tryz.prog 300=some (some 2)/\Sx.bY Tryz.prog 300=some 2/\Sx.aV Tryz.prog 300=some (.agg #[.slice none 0 0,.map none])/\Sx.aG Tryz.prog 300 0=some (0,48)/\Sx.aG Tryz.prog 300 1=some (1,298)/\Sx.jp Tryz.prog 300=true/\Sx.co Tryz.prog 300=.none/\Sx.aY Tryz.prog 300=.other/\Sx.cF Tryz.prog 300=true/\Sx.bY Tryz.prog 301=some 1/\Sx.aV Tryz.prog 301=some (.map none)/\Sx.co Tryz.prog 301=.none/\Sx.aY Tryz.prog 301=.other/\Sx.cF Tryz.prog 301=true/\Sx.aV Tryz.prog 302=some (.nilFunc)/\Sx.co Tryz.prog 302=.none/\Sx.aY Tryz.prog 302=.other/\Sx.cF Tryz.prog 302=true/\Sx.bk Tryz.prog 306=some none/\Sx.bY Tryz.prog 306=some 1/\Sx.aV Tryz.prog 306=some (.slice none 0 0)/\Sx.co Tryz.prog 306=.sl 5/\Sx.aY Tryz.prog 306=.sl/\Sx.cF Tryz.prog 306=true/\Sx.bY Tryz.prog 315=some 1/\Sx.aV Tryz.prog 315=some (.nilFunc)/\Sx.co Tryz.prog 315=.none/\Sx.aY Tryz.prog 315=.other/\Sx.cF Tryz.prog 315=true/\Sx.bY Tryz.prog 316=some 1/\Sx.aV Tryz.prog 316=some (.nilFunc)/\Sx.co Tryz.prog 316=.none/\Sx.aY Tryz.prog 316=.other/\Sx.cF Tryz.prog 316=true/\Sx.bY Tryz.prog 317=some 22/\Sx.aV Tryz.prog 317=some (.agg #[.string ⟨#[]⟩,.string ⟨#[]⟩,.string ⟨#[]⟩,.string ⟨#[]⟩,.string ⟨#[]⟩,.string ⟨#[]⟩,.string ⟨#[]⟩,.string ⟨#[]⟩,.string ⟨#[]⟩,.string ⟨#[]⟩,.string ⟨#[]⟩,.string ⟨#[]⟩,.string ⟨#[]⟩,.string ⟨#[]⟩,.string ⟨#[]⟩,.string ⟨#[]⟩,.string ⟨#[]⟩,.string ⟨#[]⟩,.string ⟨#[]⟩,.string ⟨#[]⟩,.string ⟨#[]⟩,.string ⟨#[]⟩])/\Sx.co Tryz.prog 317=.arr 22 1/\Sx.aY Tryz.prog 317=.other:=by and_intros<;>kernel_rfl
theorem W9:Sx.cF Tryz.prog 317=true/\Sx.bk Tryz.prog 319=some none/\Sx.bY Tryz.prog 319=some 1/\Sx.aV Tryz.prog 319=some (.slice none 0 0)/\Sx.co Tryz.prog 319=.sl 1/\Sx.aY Tryz.prog 319=.sl/\Sx.cF Tryz.prog 319=true/\Sx.bk Tryz.prog 325=some none/\Sx.bY Tryz.prog 325=some 1/\Sx.aV Tryz.prog 325=some (.int .u64 0)/\Sx.co Tryz.prog 325=.none/\Sx.aY Tryz.prog 325=.int .u64/\Sx.cF Tryz.prog 325=true/\Sx.bk Tryz.prog 329=some none/\Sx.bY Tryz.prog 329=some 1/\Sx.aV Tryz.prog 329=some (.slice none 0 0)/\Sx.co Tryz.prog 329=.sl 1/\Sx.aY Tryz.prog 329=.sl/\Sx.cF Tryz.prog 329=true/\Sx.bk Tryz.prog 335=some (some 2)/\Sx.bY Tryz.prog 335=some 2/\Sx.aV Tryz.prog 335=some (.agg #[.int .i64 0,.int .i64 0])/\Sx.co Tryz.prog 335=.arr 2 1/\Sx.aY Tryz.prog 335=.other/\Sx.cF Tryz.prog 335=true/\Sx.bk Tryz.prog 358=some none/\Sx.bY Tryz.prog 358=some 1/\Sx.aV Tryz.prog 358=some (.int .i64 0)/\Sx.co Tryz.prog 358=.none/\Sx.aY Tryz.prog 358=.int .i64/\Sx.cF Tryz.prog 358=true/\Sx.bk Tryz.prog 366=some none/\Sx.bY Tryz.prog 366=some 1/\Sx.aV Tryz.prog 366=some (.int .u64 0)/\Sx.co Tryz.prog 366=.none/\Sx.aY Tryz.prog 366=.int .u64/\Sx.cF Tryz.prog 366=true/\Sx.aV Tryz.prog 377=some (.int .u64 0)/\Sx.co Tryz.prog 377=.none/\Sx.aY Tryz.prog 377=.int .u64/\Sx.cF Tryz.prog 377=true/\Sx.bk Tryz.prog 403=some none/\Sx.bY Tryz.prog 403=some 1/\Sx.aV Tryz.prog 403=some (.pointer none)/\Sx.co Tryz.prog 403=.none/\Sx.aY Tryz.prog 403=.other/\Sx.cF Tryz.prog 403=true/\Sx.bk Tryz.prog 405=some (some 1)/\Sx.bY Tryz.prog 405=some 1/\Sx.aV Tryz.prog 405=some (.agg #[.string ⟨#[]⟩])/\Sx.aG Tryz.prog 405 0=some (0,9)/\Sx.jp Tryz.prog 405=true/\Sx.co Tryz.prog 405=.none/\Sx.aY Tryz.prog 405=.other/\Sx.cF Tryz.prog 405=true/\Sx.bk Tryz.prog 408=some (some 32)/\Sx.bY Tryz.prog 408=some 32/\Sx.aV Tryz.prog 408=some (.agg #[.int .u8 0,.int .u8 0,.int .u8 0,.int .u8 0,.int .u8 0,.int .u8 0,.int .u8 0,.int .u8 0,.int .u8 0,.int .u8 0,.int .u8 0,.int .u8 0,.int .u8 0,.int .u8 0,.int .u8 0,.int .u8 0,.int .u8 0,.int .u8 0,.int .u8 0,.int .u8 0,.int .u8 0,.int .u8 0,.int .u8 0,.int .u8 0,.int .u8 0,.int .u8 0,.int .u8 0,.int .u8 0,.int .u8 0,.int .u8 0,.int .u8 0,.int .u8 0])/\Sx.co Tryz.prog 408=.arr 32 1/\Sx.aY Tryz.prog 408=.other:=by and_intros<;>kernel_rfl
theorem ab2:Sx.cF Tryz.prog 408=true/\Sx.bk Tryz.prog 409=some (some 64)/\Sx.bY Tryz.prog 409=some 64/\Sx.aV Tryz.prog 409=some (.agg #[.int .u8 0,.int .u8 0,.int .u8 0,.int .u8 0,.int .u8 0,.int .u8 0,.int .u8 0,.int .u8 0,.int .u8 0,.int .u8 0,.int .u8 0,.int .u8 0,.int .u8 0,.int .u8 0,.int .u8 0,.int .u8 0,.int .u8 0,.int .u8 0,.int .u8 0,.int .u8 0,.int .u8 0,.int .u8 0,.int .u8 0,.int .u8 0,.int .u8 0,.int .u8 0,.int .u8 0,.int .u8 0,.int .u8 0,.int .u8 0,.int .u8 0,.int .u8 0,.int .u8 0,.int .u8 0,.int .u8 0,.int .u8 0,.int .u8 0,.int .u8 0,.int .u8 0,.int .u8 0,.int .u8 0,.int .u8 0,.int .u8 0,.int .u8 0,.int .u8 0,.int .u8 0,.int .u8 0,.int .u8 0,.int .u8 0,.int .u8 0,.int .u8 0,.int .u8 0,.int .u8 0,.int .u8 0,.int .u8 0,.int .u8 0,.int .u8 0,.int .u8 0,.int .u8 0,.int .u8 0,.int .u8 0,.int .u8 0,.int .u8 0,.int .u8 0])/\Sx.co Tryz.prog 409=.arr 64 1/\Sx.aY Tryz.prog 409=.other/\Sx.cF Tryz.prog 409=true:=by and_intros<;>kernel_rfl
attribute [go_sem] XY Xa XW Xe X8 Xt Yl XM W9 ab2 jq uZ NL Ep Uv tL oR uy PL Ke Te UF Vd Ky DR SF r9 Ds cL aU lW yM Wh U1 ze Rq sM Rt uK zj gI Dh MH GM Gq RY Mm RL Ry n6 LI
end Go.Proofs.YtfaclfkpnmcmlaaGreatDoor
namespace Dg
abbrev bP:=Nat->Bool
def AT(c:bP)(j:Nat)(x:Bool):bP:=fun i=>if i=j then x else c i
inductive T where
 |lf (b:Bool)
 |nd (v:Nat) (l h:T)
deriving DecidableEq
namespace T
def at'(c:bP):T->Bool
 |lf b=>b
 |nd v l h=>if c v then h.at' c else l.at' c
def ok:Nat->T->Prop
 |_,lf _=>True
 |k,nd v l h=>k<=v/\v<24/\l≠h/\ok (v+1) l/\ok (v+1) h
variable{k:Nat}{t:T}
def ok.mono{j:Nat}(hj:j<=k)(h:t.ok k):t.ok j:=by
 cases t with
 |lf b=>trivial
 |nd v l r=>exact⟨ZS hj h.1,h.2⟩
def se:∀{k:Nat},t.ok k->∀{j:Nat},j<k->∀(c:bP) (x:Bool),t.at' (AT c j x)=t.at' c:=by
 induction t with
 |lf b=>intros;rfl
 |nd v l h ihl ihh=>
  intro k hk j hj c x;have hv:AT c j x v=c v:=by unfold AT;rw[ZV];have:=hk.1;omega
  simp only[at',hv,ihl hk.2.2.2.1 (show j<v+1 by have:=hk.1;omega),ihh hk.2.2.2.2 (show j<v+1 by have:=hk.1;omega)]
variable{l h:T}{v:Nat}
def zK(hk:(nd v l h).ok k)(c:bP):(nd v l h).at' (AT c v false)=l.at' c:=by
 simp only[at',AT,ZT,aa5,Z2];exact se hk.2.2.2.1 (aba v) c false
def Ad(hk:(nd v l h).ok k)(c:bP):(nd v l h).at' (AT c v true)=h.at' c:=by
 simp only[at',AT,ZT];exact se hk.2.2.2.2 (aba v) c true
def sz:T->Nat
 |lf _=>1
 |nd _ l h=>l.sz+h.sz+1
def Vg:∀(n:Nat) (a b:T) (k j:Nat),a.sz+b.sz<=n->a.ok k->b.ok j->(∀c,a.at' c=b.at' c)->a=b:=by
 intro n
 induction n with
 |zero=>intro a b k j hn;cases a<;>simp[sz]at hn
 |succ n ih=>
  intro a b k j hn ha hb he;cases a with
  |lf x=>
   cases b with
   |lf y=>have:=he (fun _=>false);simp only[at']at this;rw[this]
   |nd v l h=>
    exfalso;simp only[sz]at hn;have e1:lf x=l:=ih (lf x) l 0 _ (by simp only[sz];omega) trivial hb.2.2.2.1 (fun c=>by rw[<-zK hb c,<-he];rfl);have e2:lf x=h:=ih (lf x) h 0 _ (by simp only[sz];omega) trivial hb.2.2.2.2 (fun c=>by rw[<-Ad hb c,<-he];rfl);exact hb.2.2.1 (e1.symm.trans e2)
  |nd v l h=>
   cases b with
   |lf y=>
    exfalso;simp only[sz]at hn;have e1:l=lf y:=ih l (lf y) _ 0 (by simp only[sz];omega) ha.2.2.2.1 trivial (fun c=>by rw[<-zK ha c,he];rfl);have e2:h=lf y:=ih h (lf y) _ 0 (by simp only[sz];omega) ha.2.2.2.2 trivial (fun c=>by rw[<-Ad ha c,he];rfl);exact ha.2.2.1 (e1.trans e2.symm)
   |nd v' l' h'=>
    simp only[sz]at hn;rcases aal v v' with hv|hv|hv
    ·exfalso;have aa:(nd v' l' h').ok (v+1):=⟨hv,hb.2⟩;have e1:l=nd v' l' h':=ih l _ _ _ (by simp only[sz];omega) ha.2.2.2.1 aa (fun c=>by rw[<-zK ha c,he,se aa (aba v)]);have e2:h=nd v' l' h':=ih h _ _ _ (by simp only[sz];omega) ha.2.2.2.2 aa (fun c=>by rw[<-Ad ha c,he,se aa (aba v)]);exact ha.2.2.1 (e1.trans e2.symm)
    ·subst hv;have e1:l=l':=ih l l' _ _ ab ha.2.2.2.1 hb.2.2.2.1 (fun c=>by rw[<-zK ha c,he,zK hb c]);have e2:h=h':=ih h h' _ _ ab ha.2.2.2.2 hb.2.2.2.2 (fun c=>by rw[<-Ad ha c,he,Ad hb c]);rw[e1,e2]
    ·exfalso;have ac:(nd v l h).ok (v'+1):=⟨hv,ha.2⟩;have e1:nd v l h=l':=ih _ l' _ _ (by simp only[sz];omega) ac hb.2.2.2.1 (fun c=>by rw[<-zK hb c,<-he,se ac (aba v')]);have e2:nd v l h=h':=ih _ h' _ _ (by simp only[sz];omega) ac hb.2.2.2.2 (fun c=>by rw[<-Ad hb c,<-he,se ac (aba v')]);exact hb.2.2.1 (e1.symm.trans e2)
variable{a b:T}
theorem ext{j:Nat}(ha:a.ok k)(hb:b.ok j)(h:∀c,a.at' c=b.at' c):a=b:=Vg _ a b k j (ZR _) ha hb h
def mk(v:Nat)(l h:T):T:=if l=h then l else nd v l h
theorem mk_ok(hk:k<=v)(hv:v<24)(hl:l.ok (v+1))(hh:h.ok (v+1)):(mk v l h).ok k:=by
 unfold mk;split
 ·exact hl.mono ab
 ·exact⟨hk,hv,by assumption,hl,hh⟩
theorem mk_at(v:Nat)(l h:T)(c:bP):(mk v l h).at' c=if c v then h.at' c else l.at' c:=by
 unfold mk;split
 ·subst_vars;simp
 ·rfl
def var:T->Nat
 |lf _=>24
 |nd v _ _=>v
def lo(i:Nat):T->T
 |nd v l h=>if v=i then l else nd v l h
 |lf b=>lf b
def hi(i:Nat):T->T
 |nd v l h=>if v=i then h else nd v l h
 |lf b=>lf b
theorem var_ge(h:t.ok k)(hk:k<=24):k<=t.var:=by
 cases t with
 |lf b=>exact hk
 |nd v l r=>exact h.1
theorem var_le(h:t.ok k):t.var<=24:=by
 cases t with
 |lf b=>exact ZR _
 |nd v l r=>exact aar h.2.1
theorem lo_ok{i:Nat}(h:t.ok k)(hi:i<=t.var):(lo i t).ok (i+1):=by
 cases t with
 |lf b=>trivial
 |nd v l r=>
  simp only[lo,var]at *;split
  ·subst_vars;exact h.2.2.2.1
  ·exact⟨ab,h.2⟩
theorem hi_ok{i:Nat}(h:t.ok k)(aa:i<=t.var):(hi i t).ok (i+1):=by
 cases t with
 |lf b=>trivial
 |nd v l r=>
  simp only[hi,var]at *;split
  ·subst_vars;exact h.2.2.2.2
  ·exact⟨ab,h.2⟩
def tg(i:Nat)(t:T)(c:bP):t.at' c=if c i then (hi i t).at' c else (lo i t).at' c:=by
 cases t with
 |lf b=>simp[lo,hi,at']
 |nd v l r=>
  simp only[lo,hi];by_cases e:v=i
  ·subst e;simp[at']
  ·simp[e]
def op(f:Bool->Bool->Bool):Nat->T->T->T
 |0,a,b=>lf (f (a.at' fun _=>false) (b.at' fun _=>false))
 |n+1,a,b=>match a,b with
  |lf x,lf y=>lf (f x y)
  |a,b=>mk (min a.var b.var) (op f n (lo (min a.var b.var) a) (lo (min a.var b.var) b)) (op f n (hi (min a.var b.var) a) (hi (min a.var b.var) b))
theorem is_lf(h:t.ok 24):∃b,t=lf b:=by
 cases t with
 |lf b=>exact⟨b,rfl⟩
 |nd v l r=>exact absurd h.1 (by have:=h.2.1;omega)
def ql(f:Bool->Bool->Bool):∀(n k:Nat) (a b:T),24<=n+k->k<=24->a.ok k->b.ok k->(op f n a b).ok k/\∀c,(op f n a b).at' c=f (a.at' c) (b.at' c):=by
 intro n
 induction n with
 |zero=>
  intro k a b hn hk ha hb;have:k=24:=by omega
  subst this;obtain⟨x,rfl⟩:=is_lf ha;obtain⟨y,rfl⟩:=is_lf hb;exact⟨trivial,fun c=>rfl⟩
 |succ n ih=>
  intro k a b hn hk ha hb;have main:∀i,i=min a.var b.var->i<24->(mk i (op f n (lo i a) (lo i b)) (op f n (hi i a) (hi i b))).ok k/\∀c,(mk i (op f n (lo i a) (lo i b)) (op f n (hi i a) (hi i b))).at' c=f (a.at' c) (b.at' c):=by
   intro i aj ac;have h1:=var_ge ha hk;have h2:=var_ge hb hk;obtain⟨l1,l2⟩:=ih (i+1) (lo i a) (lo i b) ab ab (lo_ok ha ab) (lo_ok hb ab);obtain⟨r1,r2⟩:=ih (i+1) (hi i a) (hi i b) ab ab (hi_ok ha ab) (hi_ok hb ab);refine⟨mk_ok ab ac l1 r1,fun c=>?_⟩;rw[mk_at,l2,r2,tg i a c,tg i b c];split<;>rfl
  unfold op;split
  ·exact⟨trivial,fun c=>rfl⟩
  ·rename_i aa;refine main _ rfl ?_;cases a with
   |nd v l r=>have:=ha.2.1;simp only[var];omega
   |lf x=>
    cases b with
    |nd v l r=>have:=hb.2.1;simp only[var];omega
    |lf y=>exact(aa x y rfl rfl).elim
def and(a b:T):T:=op (· && ·) 24 a b
def or(a b:T):T:=op (· || ·) 24 a b
def not:T->T
 |lf b=>lf (!b)
 |nd v l h=>nd v l.not h.not
theorem and_ok(ha:a.ok 0)(hb:b.ok 0):(and a b).ok 0:=(ql _ 24 0 a b ab ab ha hb).1
theorem or_ok(ha:a.ok 0)(hb:b.ok 0):(or a b).ok 0:=(ql _ 24 0 a b ab ab ha hb).1
theorem and_at(ha:a.ok 0)(hb:b.ok 0)(c:bP):(and a b).at' c=(a.at' c && b.at' c):=(ql _ 24 0 a b ab ab ha hb).2 c
theorem or_at(ha:a.ok 0)(hb:b.ok 0)(c:bP):(or a b).at' c=(a.at' c || b.at' c):=(ql _ 24 0 a b ab ab ha hb).2 c
theorem not_not(t:T):t.not.not=t:=by
 induction t with
 |lf b=>simp[not]
 |nd v l h ihl ihh=>simp[not,ihl,ihh]
theorem not_ok:∀{k:Nat},t.ok k->t.not.ok k:=by
 induction t with
 |lf b=>intros;trivial
 |nd v l h ihl ihh=>
  intro k hk;refine⟨hk.1,hk.2.1,fun e=>hk.2.2.1 ?_,ihl hk.2.2.2.1,ihh hk.2.2.2.2⟩;rw[<-not_not l,e,not_not]
theorem not_at(t:T)(c:bP):t.not.at' c=!t.at' c:=by
 induction t with
 |lf b=>rfl
 |nd v l h ihl ihh=>simp only[not,at',ihl,ihh];split<;>rfl
def Iy(h:t.ok k):t=lf false<->∀c,t.at' c=false:=
 ⟨fun e c=>by rw[e];rfl,fun he=>ext h (show (lf false).ok 0 from trivial) fun c=>by rw[he c];rfl⟩
theorem some_of_ne(h:t.ok k)(ac:t≠lf false):∃c,t.at' c=true:=by
 apply Classical.byContradiction;intro aa;refine ac ((Iy h).2 fun c=>?_);cases hc:t.at' c with
 |false=>rfl
 |true=>exact absurd ⟨c,hc⟩ aa
def vis:T->List T->List T
 |lf _,ts=>ts
 |nd v l h,ts=>if nd v l h∈ts then ts else h.vis (l.vis ts)++[nd v l h]
def plc(ts:List T):T->Nat
 |lf b=>if b then 1 else 0
 |nd v l h=>ts.idxOf (nd v l h)+2
def isIn(ts:List T):T->Prop
 |lf _=>True
 |nd v l h=>nd v l h∈ts
def Seq(ts:List T):Prop:=ts.Nodup/\∀(i:Nat) (t:T),ts[i]?=some t->∃v l h,t=nd v l h/\t.ok 0/\isIn (ts.take i) l/\isIn (ts.take i) h
variable{us:List T}
def isIn.mono{ts:List T}(h:isIn ts t)(hs:∀x∈ts,x∈us):isIn us t:=by
 cases t with
 |lf b=>trivial
 |nd v l r=>exact hs _ h
def isIn.app{ts:List T}(h:isIn ts t):isIn (ts++us) t:=h.mono fun x hx=>aau _ hx
theorem plc_app{ts:List T}(h:isIn ts t):plc (ts++us) t=plc ts t:=by
 cases t with
 |lf b=>rfl
 |nd v l r=>
  have hm:nd v l r∈ts:=h;simp only[plc];rw[List.idxOf_append,aaq hm]
theorem plc_inj{ts:List T}(ha:isIn ts a)(hb:isIn ts b)(h:plc ts a=plc ts b):a=b:=by
 cases a with
 |lf x=>cases b with
  |lf y=>cases x<;>cases y<;>simp[plc]at h<;>rfl
  |nd v l r=>simp only[plc]at h;split at h<;>omega
 |nd v l r=>cases b with
  |lf y=>simp only[plc]at h;split at h<;>omega
  |nd v' l' r'=>
   have h1:nd v l r∈ts:=ha;have h2:nd v' l' r'∈ts:=hb;simp only[plc]at h;have e:ts.idxOf (nd v l r)=ts.idxOf (nd v' l' r'):=by omega
   have g1:ts[ts.idxOf (nd v l r)]?=some (nd v l r):=by
    rw[aak (abb h1)];simp
   have g2:ts[ts.idxOf (nd v' l' r')]?=some (nd v' l' r'):=by
    rw[aak (abb h2)];simp
   rw[e,g2]at g1;exact(aaZ g1).symm
theorem plc_get{ts:List T}{r:T}(h:nd v l r∈ts):ts[plc ts (nd v l r)-2]?=some (nd v l r):=by
 simp only[plc,acU];rw[aak (abb h)];simp
theorem plc_lt{ts:List T}(h:isIn ts t):plc ts t<ts.length+2:=by
 cases t with
 |lf b=>simp only[plc];split<;>omega
 |nd v l r=>have:=abb (show nd v l r∈ts from h);simp only[plc];omega
def Seq.nil:Seq []:=⟨List.nodup_nil,fun i t h=>by simp at h⟩
def Seq.snoc{ts:List T}(s:Seq ts)(ac:(nd v l h).ok 0)(hl:isIn ts l)(hh:isIn ts h)(hn:nd v l h∉ts):Seq (ts++[nd v l h]):=by
 refine⟨?_,fun i t hi=>?_⟩
 ·rw[List.nodup_append];refine⟨s.1,by simp,fun a ha b hb=>?_⟩;simp at hb;subst hb;intro e;subst e;exact hn ha
 ·rcases aal i ts.length with aa|rfl|aj
  ·rw[aaG aa]at hi;obtain⟨v',l',h',a,b,c,d⟩:=s.2 i t hi;refine⟨v',l',h',a,b,?_,?_⟩<;>rw[aaR (aar aa)]<;>assumption
  ·rw[aaH (ZR _)]at hi;simp at hi;subst hi;refine⟨v,l,h,rfl,ac,?_,?_⟩<;>rw[aaR (ZR _),aaS]<;>assumption
  ·rw[aan (by simp;omega)]at hi;cases hi
theorem vis_spec(t:T):∀{k:Nat},t.ok k->k<=24->∀(ts:List T),Seq ts->Seq (t.vis ts)/\isIn (t.vis ts) t/\(∃us,t.vis ts=ts++us/\us.length+1<=2^(24-k)/\∀x∈us,x.sz<=t.sz):=by
 induction t with
 |lf b=>
  intro k hk ac ts s;exact⟨s,trivial,[],by simp[vis],by simpa using Nat.one_le_two_pow,fun x hx=>absurd hx aaB⟩
 |nd v l h ihl ihh=>
  intro k hk ac ts s;unfold vis;split
  ·rename_i hm;exact⟨s,hm,[],by simp,by simpa using Nat.one_le_two_pow,fun x hx=>absurd hx aaB⟩
  ·rename_i hm;obtain⟨s1,i1,us1,e1,n1,z1⟩:=ihl hk.2.2.2.1 (by have:=hk.2.1;omega) ts s;obtain⟨s2,i2,us2,e2,n2,z2⟩:=ihh hk.2.2.2.2 (by have:=hk.2.1;omega) _ s1;have aa:nd v l h∉h.vis (l.vis ts):=by
    rw[e2,e1];simp only[aaX];rintro((hx|hx)|hx)
    ·exact hm hx
    ·have:=z1 _ hx;simp only[sz]at this;omega
    ·have:=z2 _ hx;simp only[sz]at this;omega
   refine⟨s2.snoc ⟨aaL _,hk.2⟩ ?_ i2 aa,?_,us1++us2++[nd v l h],?_,?_,?_⟩
   ·rw[e2];exact i1.app
   ·show nd v l h∈_;simp
   ·rw[e2,e1];simp
   ·have hp:2^(24-(v+1))+2^(24-(v+1))<=2^(24-k):=by
     have h1:=hk.1;have h2:=hk.2.1;have:2^(24-(v+1))+2^(24-(v+1))=2^(24-v):=by rw[show 24-v=(24-(v+1))+1 by omega,abd];omega
     rw[this];exact abe ab ab
    simp;omega
   ·intro x hx;simp only[aaX,List.mem_singleton]at hx;rcases hx with (hx|hx)|rfl
    ·have:=z1 _ hx;simp only[sz];omega
    ·have:=z2 _ hx;simp only[sz];omega
    ·exact ZR _
def subs(t:T):List T:=t.vis []
theorem subs_seq(h:t.ok 0):Seq (subs t):=(vis_spec t h ab [] Seq.nil).1
theorem subs_in(h:t.ok 0):isIn (subs t) t:=(vis_spec t h ab [] Seq.nil).2.1
theorem subs_len(h:t.ok 0):(subs t).length<2^24:=by
 obtain⟨us,e,n,_⟩:=(vis_spec t h ab [] Seq.nil).2.2;unfold subs;rw[e];simp only[aaA];omega
def dec(ts:List T):T->Nat×Nat×Nat
 |lf b=>(24,if b then 1 else 0,if b then 1 else 0)
 |nd v l h=>(v,plc ts l,plc ts h)
theorem dec_app{ts:List T}(s:Seq ts)(h:isIn ts t):dec (ts++us) t=dec ts t:=by
 cases t with
 |lf b=>rfl
 |nd v l r=>
  have hm:nd v l r∈ts:=h;obtain⟨i,hi⟩:=List.mem_iff_getElem?.1 hm;obtain⟨v',l',r',e,_,hl,hr⟩:=s.2 i _ hi;cases e
  have sub:∀x∈ts.take i,x∈ts:=fun x hx=>abf hx;simp only[dec,plc_app (hl.mono sub),plc_app (hr.mono sub)]
def Seq.kids{ts:List T}(s:Seq ts)(hm:nd v l h∈ts):isIn ts l/\isIn ts h:=by
 obtain⟨i,hi⟩:=List.mem_iff_getElem?.1 hm;obtain⟨v',l',r',e,_,hl,hr⟩:=s.2 i _ hi;cases e
 have sub:∀x∈ts.take i,x∈ts:=fun x hx=>abf hx;exact⟨hl.mono sub,hr.mono sub⟩
def Seq.okk{ts:List T}(s:Seq ts)(h:isIn ts t):t.ok 0:=by
 cases t with
 |lf b=>trivial
 |nd v l r=>
  obtain⟨i,hi⟩:=List.mem_iff_getElem?.1 (show nd v l r∈ts from h);exact(s.2 i _ hi).choose_spec.choose_spec.choose_spec.2.1
end T
def AZ(S:bP->Bool):Nat->bP->Nat
 |0,c=>(S c).toNat
 |n+1,c=>AZ S n (AT c n false)+AZ S n (AT c n true)
def G8{A B S:bP->Bool}(h:∀c,(S c).toNat=(A c).toNat+(B c).toNat):∀(n:Nat) (c:bP),AZ S n c=AZ A n c+AZ B n c
 |0,c=>h c
 |n+1,c=>by simp only[AZ,G8 h n];omega
def xB{A B:bP->Bool}(h:∀c,A c=true->B c=true):∀(n:Nat) (c:bP),AZ A n c<=AZ B n c
 |0,c=>by
  simp only[AZ];cases ha:A c
  ·simp
  ·rw[h c ha];exact ZR _
 |n+1,c=>by simp only[AZ];have:=xB h n (AT c n false);have:=xB h n (AT c n true);omega
def Et(S:bP->Bool):∀(n:Nat) (c:bP),AZ S n c<=2^n
 |0,c=>by simp only[AZ];cases S c<;>simp
 |n+1,c=>by simp only[AZ];have:=Et S n (AT c n false);have:=Et S n (AT c n true);rw[abd];omega
def Gv{S:bP->Bool}{c0:bP}(hs:S c0=true):∀(n:Nat) (c:bP),(∀i,n<=i->c i=c0 i)->1<=AZ S n c
 |0,c,h=>by
  have:c=c0:=funext fun i=>h i (aaL i);subst this;simp[AZ,hs]
 |n+1,c,h=>by
  simp only[AZ];have:=Gv hs n (AT c n (c0 n)) (fun i hi=>by
   unfold AT;split
   ·subst_vars;rfl
   ·exact h i ab)
  cases hc:c0 n<;>rw[hc]at this<;>omega
def T.card(t:T):Nat:=AZ t.at' 24 (fun _=>false)
def T.card_le(t:T):t.card<=2^24:=Et _ _ _
def T.at_cut{t:T}:∀{k:Nat},t.ok k->∀{c d:bP},(∀i,i<24->c i=d i)->t.at' c=t.at' d:=by
 induction t with
 |lf b=>intros;rfl
 |nd v l h ihl ihh=>
  intro k hk c d aa;simp only[T.at',aa v hk.2.1,ihl hk.2.2.2.1 aa,ihh hk.2.2.2.2 aa]
def T.card_pos{t:T}(h:t.ok 0)(aa:t≠.lf false):1<=t.card:=by
 obtain⟨c,hc⟩:=T.some_of_ne h aa;have:t.at' (fun i=>if i<24 then c i else false)=true:=by rw[T.at_cut h (d:=c) (fun i hi=>by simp[hi])];exact hc
 exact Gv this 24 _ fun i hi=>by simp[Nat.not_lt.2 hi]
def T.card_add{a b s:T}(h:∀c,(s.at' c).toNat=(a.at' c).toNat+(b.at' c).toNat):s.card=a.card+b.card:=G8 h _ _
def T.card_mono{a b:T}(h:∀c,a.at' c=true->b.at' c=true):a.card<=b.card:=xB h _ _
end Dg
namespace Syn
open Dg
abbrev bq:=List UInt8
structure Nd where
 kind:Nat
 text:bq
 tok:Int
 slot:Int
 kids:List Nd
 cond:T
structure cO where
 code:Nat
 tok:Int
 cond:T
deriving DecidableEq
structure Tok where
 kind:Nat
 text:bq
 cond:T
 fits:Bool
structure aB where
 at':Nat
 cond:T
 kind:Nat
 text:bq
abbrev ar:=List (Nat×T)
abbrev ff:T:=.lf false
abbrev tt:T:=.lf true
def vL:ar->Nat->T->ar
 | [],a,d=>[(a,d)]
 |(b,e)::l,a,d=>if b<a then (b,e)::vL l a d else if b=a then (b,e.or d)::l else (a,d)::(b,e)::l
def join(f:ar)(a:Nat)(d:T):ar:=if d=ff then f else vL f a d
def joinAll(f g:ar):ar:=g.foldl (fun f s=>join f s.1 s.2) f
def ii(f:ar):T:=f.foldl (fun d s=>d.or s.2) ff
def eW(at':ar):List Tok->Nat->T->ar
 | [],i,d=>join at' i d
 |t::l,i,d=>if d=ff then at' else eW (join at' i (d.and t.cond)) l (i+1) (d.and t.cond.not)
def eK(ts:List Tok)(f:ar):ar:=f.foldl (fun at' s=>eW at' (ts.drop s.1) s.1 s.2) []
def cQ(ts:List Tok)(s:Nat×T):aB:=match ts[s.1]? with
 |some t=>if t.fits then ⟨s.1,s.2,t.kind,t.text⟩else ⟨s.1,s.2,0,[]⟩
 |none=>⟨s.1,s.2,0,[]⟩
def bE(ts:List Tok)(f:ar):List aB:=((eK ts f).filter (fun s=>decide (s.2≠ff))).map (cQ ts)
def lT:bq:=[118,97,114]
def Gg:bq:=[102,110]
def vM:bq:=[105,110,116]
def oO:bq:=[98,111,111,108]
def kT:bq:=[105,102]
def dr:bq:=[101,108,115,101]
def jG:bq:=[119,104,105,108,101]
def iH:bq:=[114,101,116,117,114,110]
def jU:bq:=[112,114,105,110,116]
def ew:bq:=[97,115,115,101,114,116]
def pH:bq:=[116,114,117,101]
def mK:bq:=[102,97,108,115,101]
def qX:bq:=[114,101,97,100]
def eM:bq:=[40]
def fK:bq:=[41]
def Im:bq:=[123]
def qD:bq:=[125]
def bB:bq:=[44]
def a8:bq:=[59]
def bA:bq:=[58]
def su:bq:=[61]
def Fg:bq:=[33]
def jS:bq:=[45]
def xU:bq:=[124,124]
def nK:bq:=[38,38]
def wT:bq:=[61,61]
def Si:bq:=[33,61]
def Uc:bq:=[60]
def TZ:bq:=[60,61]
def S1:bq:=[62]
def Ss:bq:=[62,61]
def ym:bq:=[43]
def Fi:bq:=[42]
def EG:bq:=[47]
def FM:bq:=[37]
structure bW where
 l:List Nd
 f:ar
 e:List cO
def cJ(h:aB)(code:Nat):List cO:=[⟨12,h.at',ff⟩,⟨code,h.at',h.cond⟩]
def lg{α:Type}(ts:List Tok)(f:ar)(z:α)(g:α->aB->α):α:=(bE ts f).foldl g z
def take(ts:List Tok)(f:ar)(s:bq):ar×List cO:=
 lg ts f ([],[]) fun(out,e) h=>if h.text=s then (join out (h.at'+1) h.cond,e)else (out,e++cJ h 10)
def aM(ts:List Tok)(f:ar)(is:aB->Bool):List aB×ar:=
 lg ts f ([],[]) fun(yes,no) h=>if is h then (yes++[h],no)else (yes,join no h.at' h.cond)
def bD(s:bq)(h:aB):Bool:=decide (h.text=s)
def dG(s:bq):Bool:=[lT,Gg,vM,oO,kT,dr,jG,iH,jU,ew,pH,mK,qX].contains s
def dX(s:bq):Nat:=
 if s=xU then 0
 else if s=nK then 1
 else if [wT,Si,Uc,TZ,S1,Ss].contains s then 2
 else if s=ym\/s=jS then 3
 else if [Fi,EG,FM].contains s then 4
 else 9
def named(ts:List Tok)(f:ar)(kind slot:Nat):bW:=
 lg ts f ⟨[],[],[]⟩ fun r h=>
  if h.kind≠1\/dG h.text=true then { r with e:=r.e++cJ h 10 }
  else ⟨r.l++[⟨kind,h.text,h.at',slot,[],h.cond⟩],join r.f (h.at'+1) h.cond,r.e⟩
def sW(ts:List Tok)(f:ar)(slot:Nat):bW:=
 lg ts f ⟨[],[],[]⟩ fun r h=>
  if h.text≠vM/\h.text≠oO then { r with e:=r.e++cJ h 10 }
  else ⟨r.l++[⟨5,h.text,h.at',slot,[],h.cond⟩],join r.f (h.at'+1) h.cond,r.e⟩
def give(l kids:List Nd):List Nd:=l.map fun n=>{ n with kids:=n.kids++kids }
def bv(h:aB):ar:=[(h.at'+1,h.cond)]
def bX(h:aB):ar:=[(h.at',h.cond)]
def joinH(f:ar)(h:aB):ar:=join f h.at' h.cond
def joinH1(f:ar)(h:aB):ar:=join f (h.at'+1) h.cond
inductive Call where
 |line (k o:Nat) (f:ar) (slot:Nat)
 |lineL (k o:Nat) (slot:Nat) (first:Bool) (l:List Nd) (g out:ar)
 |lineO (k o:Nat) (slot:Nat) (ops:List aB) (l:List Nd) (g:ar)
 |unary (o:Nat) (f:ar) (slot:Nat)
 |unaryH (o:Nat) (h:aB) (slot:Nat)
 |calls (o:Nat) (h:aB) (slot:Nat) (xs:List aB) (names:List Nd) (g:ar)
 |inside (o:Nat) (f:ar) (slot:Nat)
 |listed (par:Bool) (o:Nat) (f:ar)
 |listL (par:Bool) (o:Nat) (l:List Nd) (g fin:ar)
 |item (par:Bool) (o:Nat) (f:ar)
 |behind (typ:Bool) (o:Nat) (f:ar) (sign:bq) (slot:Nat)
 |vrb (o:Nat) (f:ar)
 |function (o:Nat) (f:ar)
 |block (o:Nat) (f:ar) (slot:Nat)
 |seqL (top:Bool) (o:Nat) (f:ar) (l:List Nd) (out:ar)
 |stmt (o:Nat) (h:aB)
 |sCalls (o:Nat) (h:aB) (xs:List aB) (l:List Nd) (g:ar)
 |branch (o:Nat) (h:aB) (slot:Nat)
 |elses (o:Nat) (xs:List aB) (l:List Nd) (out:ar)
 |ifs (o:Nat) (ys:List aB) (l:List Nd) (out:ar)
def aN:Nat:=2^40
def lH{α β:Type}(g:α->β->Option α):α->List β->Option α
 |a,[]=>some a
 |a,x::l=>match g a x with
  |some b=>lH g b l
  |none=>none
def ck(l:List Nd):Option Unit:=if l.length<=aN then some ()else none
def jb(l kids:List Nd):Option (List Nd):=if l.all fun n=>decide (n.kids.length+kids.length<=aN)then some (give l kids)else none
def fX(l:List Nd)(d:T):List Nd:=l.filterMap fun n=>if n.cond.and d=ff then none else some { n with cond:=n.cond.and d,slot:=0 }
def dH(l:List Nd)(d:T):List Nd:=l.filterMap fun n=>if n.cond.and d.not=ff then none else some { n with cond:=n.cond.and d.not }
def kJ(l:List Nd)(d:T):List Nd:=match l with
 | []=>[]
 |n::l=>{ n with cond:=n.cond.and d.not }::l
abbrev sY:=Call->Option bW
def gz(kind:Nat)(h:aB)(slot:Nat):Nd:=⟨kind,[],h.at',slot,[],h.cond⟩
section
variable (ts:List Tok) (rec:sY)
def cT(f:ar)(g:aB->Option bW):Option bW:=
 lH (fun r h=>match g h with
  |some x=>if (r.l++x.l).length<=aN then some ⟨r.l++x.l,joinAll r.f x.f,r.e++x.e⟩else none
  |none=>none) ⟨[],[],[]⟩ (bE ts f)
def line(k o:Nat)(f:ar)(slot:Nat):Option bW:=
 if k=5 then rec (.unary o f slot)
 else do
  let a <-rec (.line (k+1) o f slot)
  let b <-rec (.lineL k o slot true a.l a.f [])
  some ⟨b.l,b.f,a.e++b.e⟩
def ti(k:Nat)(h:aB):Bool:=decide (h.kind=3) && decide (dX h.text=k)
def lineL(k o slot:Nat)(first:Bool)(l:List Nd)(g out:ar):Option bW:=
 if g=[]then some ⟨l,out,[]⟩
 else if k=2/\first=false then some ⟨l,joinAll out g,[]⟩
 else do
  let (ops,rest):=aM ts g (ti k)
  let a <-rec (.lineO k o slot ops l [])
  let b <-rec (.lineL k o slot false a.l a.f (joinAll out rest))
  some ⟨b.l,b.f,a.e++b.e⟩
def lineO(k o slot:Nat)(ops:List aB)(l:List Nd)(g:ar):Option bW:=
 match ops with
 | []=>some ⟨l,g,[]⟩
 |h::ops=>do
  let a <-rec (.line (k+1) o (bv h) 1)
  ck (fX l h.cond++a.l)
  ck (dH l h.cond++[⟨13,h.text,h.at',slot,fX l h.cond++a.l,h.cond⟩])
  let b <-rec (.lineO k o slot ops (dH l h.cond++[⟨13,h.text,h.at',slot,fX l h.cond++a.l,h.cond⟩]) (joinAll g a.f))
  some ⟨b.l,b.f,a.e++b.e⟩
def unaryH(o:Nat)(h:aB)(slot:Nat):Option bW:=
 if h.text=Fg\/h.text=jS then
  if o=64 then some ⟨[],[],cJ h 11⟩
  else do
   let a <-rec (.unary (o+1) (bv h) 0)
   some ⟨[⟨14,h.text,h.at',slot,a.l,h.cond⟩],a.f,a.e⟩
 else if h.text=eM then rec (.inside o (bX h) slot)
 else if h.kind=2 then some ⟨[⟨15,h.text,h.at',slot,[],h.cond⟩],bv h,[]⟩
 else if h.text=pH\/h.text=mK then some ⟨[⟨16,h.text,h.at',slot,[],h.cond⟩],bv h,[]⟩
 else if h.text=qX then some ⟨[⟨17,[],h.at',slot,[],h.cond⟩],bv h,[]⟩
 else do
  let a:=named ts (bX h) 18 slot
  let (xs,g):=aM ts a.f (bD eM)
  let b <-rec (.calls o h slot xs a.l g)
  some ⟨b.l,b.f,a.e++b.e⟩
def calls(o:Nat)(h:aB)(slot:Nat)(xs:List aB)(names:List Nd)(g:ar):Option bW:=
 match xs with
 | []=>some ⟨names,g,[]⟩
 |x::xs=>do
  let a <-rec (.listed false o (bX x))
  ck (kJ names x.cond++[⟨19,h.text,h.at',slot,a.l,x.cond⟩])
  let b <-rec (.calls o h slot xs (kJ names x.cond++[⟨19,h.text,h.at',slot,a.l,x.cond⟩]) (joinAll g a.f))
  some ⟨b.l,b.f,a.e++b.e⟩
def ml(o:Nat)(slot:Nat)(h:aB):Option bW:=
 if h.text≠eM then some ⟨[],[],cJ h 10⟩
 else if o=64 then some ⟨[],[],cJ h 11⟩
 else do
  let a <-rec (.line 0 (o+1) (bv h) slot)
  let (g,e):=take ts a.f fK
  some ⟨a.l,g,a.e++e⟩
def mw(par:Bool)(o:Nat)(h:aB):Option bW:=
 if h.text≠eM then some ⟨[],[],cJ h 10⟩
 else if o=64 then some ⟨[],[],cJ h 11⟩
 else do
  let (yes,g):=aM ts (bv h) (bD fK)
  let a <-rec (.listL par (o+1) [] g (yes.foldl joinH []))
  let (f,e):=take ts a.f fK
  some ⟨a.l,f,a.e++e⟩
def listL(par:Bool)(o:Nat)(l:List Nd)(g fin:ar):Option bW:=
 match g with
 | []=>some ⟨l,fin,[]⟩
 |s::g=>do
  let a <-rec (.item par o [s])
  ck (l++a.l)
  let (more,done):=aM ts a.f (bD bB)
  let b <-rec (.listL par o (l++a.l) (more.foldl joinH1 g) (joinAll fin done))
  some ⟨b.l,b.f,a.e++b.e⟩
def item(par:Bool)(o:Nat)(f:ar):Option bW:=
 if par then do
  let a:=named ts f 4 0
  let (g,e):=take ts a.f bA
  let b:=sW ts g 0
  let l <-jb a.l b.l
  some ⟨l,b.f,a.e++e++b.e⟩
 else rec (.line 0 o f 0)
def wu(typ:Bool)(o:Nat)(f:ar)(slot:Nat):Option bW:=if typ then some (sW ts f slot)else rec (.line 0 o f slot)
def behind(typ:Bool)(o:Nat)(f:ar)(sign:bq)(slot:Nat):Option bW:=do
 let (yes,out):=aM ts f (bD sign)
 let a <-wu ts rec typ o (yes.foldl joinH1 []) slot
 some ⟨a.l,joinAll out a.f,a.e⟩
def jQ(o:Nat)(f:ar):Option bW:=do
 let a:=named ts f 2 0
 let (g1,e1):=take ts a.f bA
 let b:=sW ts g1 0
 let c <-rec (.behind false o b.f su 1)
 let l1 <-jb a.l b.l
 let l2 <-jb l1 c.l
 let (g2,e2):=take ts c.f a8
 some ⟨l2,g2,a.e++e1++b.e++c.e++e2⟩
def function(o:Nat)(f:ar):Option bW:=do
 let a:=named ts f 3 0
 let b <-rec (.listed true o a.f)
 let c <-rec (.behind true o b.f bA 1)
 let d <-rec (.block o c.f 2)
 let l1 <-jb a.l b.l
 let l2 <-jb l1 c.l
 let l3 <-jb l2 d.l
 some ⟨l3,d.f,a.e++b.e++c.e++d.e⟩
def oZ(o:Nat)(slot:Nat)(h:aB):Option bW:=
 if h.text≠Im then some ⟨[],[],cJ h 10⟩
 else if o=64 then some ⟨[],[],cJ h 11⟩
 else do
  let a <-rec (.seqL false (o+1) (bv h) [] [])
  let (f,e):=take ts a.f qD
  some ⟨[⟨6,[],h.at',slot,a.l,h.cond⟩],f,a.e++e⟩
def lF(top:Bool)(h:aB):Bool:=if top then decide (h.at'=ts.length)else decide (h.text=qD)
def qj(o:Nat)(h:aB):Option bW:=
 if h.text=lT then rec (.vrb o (bv h))
 else if h.text=Gg then rec (.function o (bv h))
 else some ⟨[],[],cJ h 10⟩
def zy(top:Bool)(o:Nat)(h:aB):Option bW:=if top then qj rec o h else rec (.stmt o h)
def seqL(top:Bool)(o:Nat)(f:ar)(l:List Nd)(out:ar):Option bW:=
 match bE ts f with
 | []=>some ⟨l,out,[]⟩
 |h::hs=>
  if lF ts top h then rec (.seqL top o (hs.foldl joinH []) l (joinH out h))
  else do
   let a <-zy rec top o h
   ck (l++a.l)
   let b <-rec (.seqL top o (hs.foldl joinH (joinAll [] a.f)) (l++a.l) out)
   some ⟨b.l,b.f,a.e++b.e⟩
def stmt(o:Nat)(h:aB):Option bW:=
 if h.text=lT then rec (.vrb o (bv h))
 else if h.text=kT then rec (.branch o h 0)
 else if h.text=jG then do
  let a <-rec (.inside o (bv h) 0)
  let b <-rec (.block o a.f 1)
  let l1 <-jb [gz 9 h 0] a.l
  let l2 <-jb l1 b.l
  some ⟨l2,b.f,a.e++b.e⟩
 else if h.text=Im then rec (.block o (bX h) 0)
 else if h.text=iH then do
  let (fin,g):=aM ts (bv h) (bD a8)
  let a <-rec (.line 0 o g 0)
  let l1 <-jb [gz 10 h 0] a.l
  let (f,e):=take ts (fin.foldl joinH a.f) a8
  some ⟨l1,f,a.e++e⟩
 else if h.text=jU\/h.text=ew then do
  let a <-rec (.line 0 o (bv h) 0)
  let l1 <-jb [gz (if h.text=ew then 12 else 11) h 0] a.l
  let (f,e):=take ts a.f a8
  some ⟨l1,f,a.e++e⟩
 else
  let a:=named ts (bX h) 7 0
  if a.l=[]then some ⟨[],[],a.e⟩
  else do
   let (xs,g):=aM ts a.f (bD eM)
   let (g1,e1):=take ts g su
   let b <-rec (.line 0 o g1 0)
   let l1 <-jb a.l b.l
   let c <-rec (.sCalls o h xs l1 b.f)
   let (f,e2):=take ts c.f a8
   some ⟨c.l,f,a.e++e1++b.e++c.e++e2⟩
def sCalls(o:Nat)(h:aB)(xs:List aB)(l:List Nd)(g:ar):Option bW:=
 match xs with
 | []=>some ⟨l,g,[]⟩
 |x::xs=>do
  let a <-rec (.listed false o (bX x))
  ck (l++[⟨19,h.text,h.at',0,a.l,x.cond⟩])
  let b <-rec (.sCalls o h xs (kJ (l++[⟨19,h.text,h.at',0,a.l,x.cond⟩]) x.cond) (joinAll g a.f))
  some ⟨b.l,b.f,a.e++b.e⟩
def branch(o:Nat)(h:aB)(slot:Nat):Option bW:=do
 let a <-rec (.inside o (bv h) 0)
 let b <-rec (.block o a.f 1)
 let l1 <-jb [gz 8 h slot] a.l
 let l2 <-jb l1 b.l
 let (xs,out):=aM ts b.f (bD dr)
 let c <-rec (.elses o xs l2 out)
 some ⟨c.l,c.f,a.e++b.e++c.e⟩
def elses(o:Nat)(xs:List aB)(l:List Nd)(out:ar):Option bW:=
 match xs with
 | []=>some ⟨l,out,[]⟩
 |x::xs=>do
  let (ys,rest):=aM ts (bv x) (bD kT)
  let a <-rec (.block o rest 2)
  let l1 <-jb l a.l
  let b <-rec (.ifs o ys l1 (joinAll out a.f))
  let c <-rec (.elses o xs b.l b.f)
  some ⟨c.l,c.f,a.e++b.e++c.e⟩
def ifs(o:Nat)(ys:List aB)(l:List Nd)(out:ar):Option bW:=
 match ys with
 | []=>some ⟨l,out,[]⟩
 |y::ys=>
  if o=64 then do
   let b <-rec (.ifs o ys l out)
   some ⟨b.l,b.f,cJ y 11++b.e⟩
  else do
   let a <-rec (.branch (o+1) y 2)
   let l1 <-jb l a.l
   let b <-rec (.ifs o ys l1 (joinAll out a.f))
   some ⟨b.l,b.f,a.e++b.e⟩
def step:Call->Option bW
 | .line k o f slot=>line rec k o f slot
 | .lineL k o slot first l g out=>lineL ts rec k o slot first l g out
 | .lineO k o slot ops l g=>lineO rec k o slot ops l g
 | .unary o f slot=>cT ts f fun h=>rec (.unaryH o h slot)
 | .unaryH o h slot=>unaryH ts rec o h slot
 | .calls o h slot xs names g=>calls rec o h slot xs names g
 | .inside o f slot=>cT ts f (ml ts rec o slot)
 | .listed par o f=>cT ts f (mw ts rec par o)
 | .listL par o l g fin=>listL ts rec par o l g fin
 | .item par o f=>item ts rec par o f
 | .behind typ o f sign slot=>behind ts rec typ o f sign slot
 | .vrb o f=>jQ ts rec o f
 | .function o f=>function ts rec o f
 | .block o f slot=>cT ts f (oZ ts rec o slot)
 | .seqL top o f l out=>seqL ts rec top o f l out
 | .stmt o h=>stmt ts rec o h
 | .sCalls o h xs l g=>sCalls rec o h xs l g
 | .branch o h slot=>branch ts rec o h slot
 | .elses o xs l out=>elses ts rec o xs l out
 | .ifs o ys l out=>ifs rec o ys l out
end
def run(ts:List Tok):Nat->sY
 |0=>fun _=>none
 |n+1=>step ts (run ts n)
end Syn
