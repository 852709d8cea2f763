import Derived.Test.YtfaclfkpnmcmlaaGreatDoorJ00
import Derived.Test.YtfaclfkpnmcmlaaGreatDoorJ03
import Derived.Test.YtfaclfkpnmcmlaaGreatDoorProg
import Derived.KernelRfl
set_option maxHeartbeats 8000000
set_option linter.all false
open Go.Proofs.Tryz
namespace Go.Proofs.YtfaclfkpnmcmlaaGreatDoor
open Go Go.Sx
theorem fI:Sx.bp prog 3=some none:=by kernel_rfl
theorem r9:Sx.bD prog 3=some 1:=by kernel_rfl
theorem pe:Sx.bk prog 3=some (.int .i64 0):=by kernel_rfl
theorem Gq:Sx.bp prog 4=some none:=by kernel_rfl
theorem uq:Sx.bp prog 5=some none:=by kernel_rfl
theorem gM:Sx.bp prog 9=some none:=by kernel_rfl
theorem my:Sx.bp prog 23=some none:=by kernel_rfl
theorem lL:Sx.bp prog 24=some none:=by kernel_rfl
theorem zv:Sx.bp prog 33=some none:=by kernel_rfl
theorem yz:Sx.bD prog 33=some 1:=by kernel_rfl
theorem CM:Sx.bp prog 34=some none:=by kernel_rfl
theorem K9:Sx.bD prog 34=some 1:=by kernel_rfl
theorem Gp:Sx.bp prog 36=some (some 2):=by kernel_rfl
theorem wH:Sx.bp prog 46=some none:=by kernel_rfl
theorem ro:Sx.bp prog 48=some none:=by kernel_rfl
theorem Fe:Sx.bD prog 48=some 1:=by kernel_rfl
theorem iB:Sx.bp prog 50=some (some 2):=by kernel_rfl
theorem qC:Sx.bD prog 50=some 2:=by kernel_rfl
theorem B0:Sx.bk prog 50=some (.agg #[.slice none 0 0,.int .i64 0]):=by kernel_rfl
theorem b9:Sx.bp prog 60=some (some 7):=by kernel_rfl
theorem ep:Sx.bD prog 60=some 7:=by kernel_rfl
theorem gA:Sx.bp prog 80=some (some 4):=by kernel_rfl
theorem o4:Sx.bD prog 80=some 4:=by kernel_rfl
theorem LM:Sx.bk prog 80=some (.agg #[.int .u8 0,.int .i64 0,.slice none 0 0,.int .i64 0]):=by kernel_rfl
theorem Gr:Sx.bp prog 83=some (some 7):=by kernel_rfl
theorem uo:Sx.bp prog 152=some none:=by kernel_rfl
theorem Gl:Sx.bp prog 158=some none:=by kernel_rfl
theorem rg:Sx.bp prog 169=some (some 3):=by kernel_rfl
theorem K4:Sx.bD prog 169=some 3:=by kernel_rfl
theorem sO:Sx.bp prog 181=some (some 3):=by kernel_rfl
theorem zr:Sx.bp prog 217=some none:=by kernel_rfl
theorem gm:Sx.bp prog 227=some (some 5):=by kernel_rfl
theorem CI:Sx.bp prog 260=some none:=by kernel_rfl
theorem CK:Sx.bp prog 298=some none:=by kernel_rfl
theorem zt:Sx.bp prog 301=some none:=by kernel_rfl
theorem zu:Sx.bp prog 302=some none:=by kernel_rfl
theorem K5:Sx.bD prog 302=some 1:=by kernel_rfl
theorem CL:Sx.bp prog 315=some none:=by kernel_rfl
theorem Gm:Sx.bp prog 316=some none:=by kernel_rfl
theorem Gn:Sx.bp prog 317=some (some 22):=by kernel_rfl
theorem rh:Sx.bp prog 377=some none:=by kernel_rfl
theorem BH:Sx.bD prog 377=some 1:=by kernel_rfl
def yf:Sx.cL prog 24 83 7 96:=cL.of (by kernel_rfl) (by kernel_rfl) O
def E4:Sx.cL prog 28 136 6 88:=cL.of (by kernel_rfl) (by kernel_rfl) O
def df:Sx.cL prog 33 60 7 96:=cL.of (by kernel_rfl) (by kernel_rfl) O
def mU:Sx.cL prog 34 80 4 48:=cL.of (by kernel_rfl) (by kernel_rfl) O
def yg:Sx.cL prog 43 23 1 4:=cL.of (by kernel_rfl) (by kernel_rfl) O
def By:Sx.cL prog 48 181 3 24:=cL.of (by kernel_rfl) (by kernel_rfl) O
def mV:Sx.cL prog 81 3 1 8:=cL.of (by kernel_rfl) (by kernel_rfl) O
def VM:Sx.cL prog 88 36 2 48:=cL.of (by kernel_rfl) (by kernel_rfl) O
def Kx:Sx.cL prog 154 169 3 40:=cL.of (by kernel_rfl) (by kernel_rfl) O
def jp:Sx.cL prog 155 169 3 40:=cL.of (by kernel_rfl) (by kernel_rfl) O
def Ky:Sx.cL prog 158 4 1 1:=cL.of (by kernel_rfl) (by kernel_rfl) O
def VJ:Sx.cL prog 159 50 2 32:=cL.of (by kernel_rfl) (by kernel_rfl) O
theorem D1:prog.underlying 197=some (.map 3 50):=by kernel_rfl
theorem Ea:prog.underlying 238=some (.map 240 3):=by kernel_rfl
theorem Eb:prog.underlying 260=some (.map 335 3):=by kernel_rfl
def nT:Sx.cL prog 268 5 1 1:=cL.of (by kernel_rfl) (by kernel_rfl) O
theorem Ec:prog.underlying 298=some (.map 181 3):=by kernel_rfl
theorem uK:prog.underlying 301=some (.map 3 3):=by kernel_rfl
def r0:Sx.cL prog 306 227 5 64:=cL.of (by kernel_rfl) (by kernel_rfl) O
def VK:Sx.cL prog 319 316 1 8:=cL.of (by kernel_rfl) (by kernel_rfl) O
theorem XO:Sx.bI prog 3=.none/\Sx.bB prog 3=.int .i64/\Sx.bP prog 3=true/\Sx.bD prog 4=some 1/\Sx.bk prog 4=some (.bool false)/\Sx.bI prog 4=.none/\Sx.bB prog 4=.other/\Sx.bP prog 4=true/\Sx.bD prog 5=some 1/\Sx.bk prog 5=some (.int .u8 0)/\Sx.bI prog 5=.none/\Sx.bB prog 5=.int .u8/\Sx.bP prog 5=true/\Sx.bD prog 9=some 1/\Sx.bk prog 9=some (.string ⟨#[]⟩)/\Sx.bI prog 9=.none/\Sx.bB prog 9=.str/\Sx.bP prog 9=true/\Sx.bp prog 22=some none/\Sx.bD prog 22=some 1/\Sx.bk prog 22=some (.slice none 0 0)/\Sx.bI prog 22=.sl 3/\Sx.bB prog 22=.sl/\Sx.bP prog 22=true/\Sx.bD prog 23=some 1/\Sx.bk prog 23=some (.int .u32 0)/\Sx.bI prog 23=.none/\Sx.bB prog 23=.int .u32/\Sx.bP prog 23=true/\Sx.bD prog 24=some 1/\Sx.bk prog 24=some (.slice none 0 0)/\Sx.bI prog 24=.sl 7/\Sx.bB prog 24=.sl/\Sx.bP prog 24=true/\Sx.bp prog 27=some (some 2)/\Sx.bD prog 27=some 2/\Sx.bk prog 27=some (.agg #[.slice none 0 0,.slice none 0 0])/\Sx.bv prog 27 0=some (0,24)/\Sx.bv prog 27 1=some (1,25)/\Sx.fd prog 27=true/\Sx.bI prog 27=.none/\Sx.bB prog 27=.other/\Sx.bP prog 27=true/\Sx.bp prog 28=some none/\Sx.bD prog 28=some 1/\Sx.bk prog 28=some (.slice none 0 0)/\Sx.bI prog 28=.sl 6/\Sx.bB prog 28=.sl/\Sx.bP prog 28=true/\Sx.bk prog 33=some (.slice none 0 0)/\Sx.bI prog 33=.sl 7/\Sx.bB prog 33=.sl/\Sx.bP prog 33=true/\Sx.bk prog 34=some (.slice none 0 0)/\Sx.bI prog 34=.sl 4/\Sx.bB prog 34=.sl/\Sx.bP prog 34=true/\Sx.bD prog 36=some 2/\Sx.bk prog 36=some (.agg #[.slice none 0 0,.slice none 0 0])/\Sx.bv prog 36 0=some (0,33):=by and_intros<;>kernel_rfl
theorem XP:Sx.bv prog 36 1=some (1,34)/\Sx.fd prog 36=true/\Sx.bI prog 36=.none/\Sx.bB prog 36=.other/\Sx.bP prog 36=true/\Sx.bp prog 38=some none/\Sx.bD prog 38=some 1/\Sx.bk prog 38=some (.slice none 0 0)/\Sx.bI prog 38=.sl 6/\Sx.bB prog 38=.sl/\Sx.bP prog 38=true/\Sx.bp prog 39=some none/\Sx.bD prog 39=some 1/\Sx.bk prog 39=some (.slice none 0 0)/\Sx.bI prog 39=.sl 3/\Sx.bB prog 39=.sl/\Sx.bP prog 39=true/\Sx.bp prog 41=some (some 2)/\Sx.bD prog 41=some 2/\Sx.bk prog 41=some (.agg #[.slice none 0 0,.slice none 0 0])/\Sx.bv prog 41 0=some (0,38)/\Sx.bv prog 41 1=some (1,39)/\Sx.fd prog 41=true/\Sx.bI prog 41=.none/\Sx.bB prog 41=.other/\Sx.bP prog 41=true/\Sx.bp prog 43=some none/\Sx.bD prog 43=some 1/\Sx.bk prog 43=some (.slice none 0 0)/\Sx.bI prog 43=.sl 1/\Sx.bB prog 43=.sl/\Sx.bP prog 43=true/\Sx.bD prog 46=some 1/\Sx.bk prog 46=some (.slice none 0 0)/\Sx.bI prog 46=.sl 2/\Sx.bB prog 46=.sl/\Sx.bP prog 46=true/\Sx.bk prog 48=some (.slice none 0 0)/\Sx.bI prog 48=.sl 3/\Sx.bB prog 48=.sl/\Sx.bP prog 48=true/\Sx.bv prog 50 0=some (0,48)/\Sx.bv prog 50 1=some (1,3)/\Sx.fd prog 50=true/\Sx.bI prog 50=.none/\Sx.bB prog 50=.other/\Sx.bP prog 50=true/\Sx.bk prog 60=some (.agg #[.int .u8 0,.string ⟨#[]⟩,.int .i64 0,.int .i64 0,.slice none 0 0,.slice none 0 0,.int .i64 0])/\Sx.bv prog 60 0=some (0,5)/\Sx.bv prog 60 1=some (1,9)/\Sx.bv prog 60 2=some (2,3)/\Sx.bv prog 60 3=some (3,3)/\Sx.bv prog 60 4=some (4,33)/\Sx.bv prog 60 5=some (5,50)/\Sx.fd prog 60=true/\Sx.bI prog 60=.none/\Sx.bB prog 60=.other/\Sx.bP prog 60=true/\Sx.bp prog 61=some none/\Sx.bD prog 61=some 1:=by and_intros<;>kernel_rfl
theorem XQ:Sx.bk prog 61=some (.int .i64 0)/\Sx.bI prog 61=.none/\Sx.bB prog 61=.int .i64/\Sx.bP prog 61=true/\Sx.bp prog 67=some (some 6)/\Sx.bD prog 67=some 6/\Sx.bk prog 67=some (.agg #[.int .u8 0,.string ⟨#[]⟩,.int .i64 0,.int .i64 0,.slice none 0 0,.slice none 0 0])/\Sx.bv prog 67 0=some (0,5)/\Sx.bv prog 67 1=some (1,9)/\Sx.bv prog 67 2=some (2,3)/\Sx.bv prog 67 3=some (3,3)/\Sx.bv prog 67 4=some (4,38)/\Sx.bv prog 67 5=some (5,43)/\Sx.fd prog 67=true/\Sx.bI prog 67=.none/\Sx.bB prog 67=.other/\Sx.bP prog 67=true/\Sx.bp prog 78=some none/\Sx.bD prog 78=some 1/\Sx.bk prog 78=some (.int .u8 0)/\Sx.bI prog 78=.none/\Sx.bB prog 78=.int .u8/\Sx.bP prog 78=true/\Sx.bv prog 80 0=some (0,78)/\Sx.bv prog 80 1=some (1,3)/\Sx.bv prog 80 2=some (2,50)/\Sx.fd prog 80=true/\Sx.bI prog 80=.none/\Sx.bB prog 80=.other/\Sx.bP prog 80=true/\Sx.bp prog 81=some none/\Sx.bD prog 81=some 1/\Sx.bk prog 81=some (.slice none 0 0)/\Sx.bI prog 81=.sl 1/\Sx.bB prog 81=.sl/\Sx.bP prog 81=true/\Sx.bD prog 83=some 7/\Sx.bk prog 83=some (.agg #[.int .u8 0,.string ⟨#[]⟩,.slice none 0 0,.int .i64 0,.int .i64 0,.slice none 0 0,.int .i64 0])/\Sx.bv prog 83 0=some (0,5)/\Sx.bv prog 83 1=some (1,9)/\Sx.bv prog 83 2=some (2,81)/\Sx.bv prog 83 3=some (3,3)/\Sx.bv prog 83 4=some (4,3)/\Sx.bv prog 83 5=some (5,50)/\Sx.fd prog 83=true/\Sx.bI prog 83=.none/\Sx.bB prog 83=.other/\Sx.bP prog 83=true/\Sx.bp prog 88=some none/\Sx.bD prog 88=some 1/\Sx.bk prog 88=some (.slice none 0 0)/\Sx.bI prog 88=.sl 2/\Sx.bB prog 88=.sl/\Sx.bP prog 88=true/\Sx.bp prog 91=some none/\Sx.bD prog 91=some 1/\Sx.bk prog 91=some (.slice none 0 0)/\Sx.bI prog 91=.sl 6/\Sx.bB prog 91=.sl/\Sx.bP prog 91=true:=by and_intros<;>kernel_rfl
theorem XR:Sx.bp prog 92=some none/\Sx.bD prog 92=some 1/\Sx.bk prog 92=some (.slice none 0 0)/\Sx.bI prog 92=.sl 3/\Sx.bB prog 92=.sl/\Sx.bP prog 92=true/\Sx.bp prog 94=some (some 2)/\Sx.bD prog 94=some 2/\Sx.bk prog 94=some (.agg #[.slice none 0 0,.slice none 0 0])/\Sx.bv prog 94 0=some (0,91)/\Sx.bv prog 94 1=some (1,92)/\Sx.fd prog 94=true/\Sx.bI prog 94=.none/\Sx.bB prog 94=.other/\Sx.bP prog 94=true/\Sx.bp prog 97=some none/\Sx.bD prog 97=some 1/\Sx.bk prog 97=some (.slice none 0 0)/\Sx.bI prog 97=.sl 2/\Sx.bB prog 97=.sl/\Sx.bP prog 97=true/\Sx.bp prog 102=some (some 3)/\Sx.bD prog 102=some 3/\Sx.bk prog 102=some (.agg #[.int .u8 0,.int .i64 0,.slice none 0 0])/\Sx.bv prog 102 0=some (0,78)/\Sx.bv prog 102 1=some (1,3)/\Sx.bv prog 102 2=some (2,43)/\Sx.fd prog 102=true/\Sx.bI prog 102=.none/\Sx.bB prog 102=.other/\Sx.bP prog 102=true/\Sx.bp prog 104=some none/\Sx.bD prog 104=some 1/\Sx.bk prog 104=some (.slice none 0 0)/\Sx.bI prog 104=.sl 7/\Sx.bB prog 104=.sl/\Sx.bP prog 104=true/\Sx.bp prog 111=some (some 7)/\Sx.bD prog 111=some 7/\Sx.bk prog 111=some (.agg #[.slice none 0 0,.int .u8 0,.string ⟨#[]⟩,.int .i64 0,.int .i64 0,.slice none 0 0,.slice none 0 0])/\Sx.bv prog 111 0=some (0,81)/\Sx.bv prog 111 1=some (1,67)/\Sx.fd prog 111=true/\Sx.bI prog 111=.none/\Sx.bB prog 111=.other/\Sx.bP prog 111=true/\Sx.bp prog 118=some none/\Sx.bD prog 118=some 1/\Sx.bk prog 118=some (.slice none 0 0)/\Sx.bI prog 118=.sl 2/\Sx.bB prog 118=.sl/\Sx.bP prog 118=true/\Sx.bp prog 134=some (some 3)/\Sx.bD prog 134=some 3/\Sx.bk prog 134=some (.agg #[.int .u8 0,.string ⟨#[]⟩,.slice none 0 0])/\Sx.bv prog 134 0=some (0,5)/\Sx.bv prog 134 1=some (1,9)/\Sx.bv prog 134 2=some (2,46)/\Sx.fd prog 134=true/\Sx.bI prog 134=.none:=by and_intros<;>kernel_rfl
theorem XS:Sx.bB prog 134=.other/\Sx.bP prog 134=true/\Sx.bp prog 136=some (some 6)/\Sx.bD prog 136=some 6/\Sx.bk prog 136=some (.agg #[.int .u8 0,.string ⟨#[]⟩,.slice none 0 0,.int .i64 0,.int .i64 0,.slice none 0 0])/\Sx.bv prog 136 0=some (0,5)/\Sx.bv prog 136 1=some (1,9)/\Sx.bv prog 136 2=some (2,81)/\Sx.bv prog 136 3=some (3,3)/\Sx.bv prog 136 4=some (4,3)/\Sx.bv prog 136 5=some (5,43)/\Sx.fd prog 136=true/\Sx.bI prog 136=.none/\Sx.bB prog 136=.other/\Sx.bP prog 136=true/\Sx.bp prog 150=some (some 8)/\Sx.bD prog 150=some 8/\Sx.bk prog 150=some (.agg #[.slice none 0 0,.slice none 0 0,.int .i64 0,.int .i64 0,.int .i64 0,.bool false,.int .u8 0,.int .i64 0])/\Sx.bv prog 150 0=some (0,28)/\Sx.bv prog 150 1=some (1,81)/\Sx.bv prog 150 2=some (2,3)/\Sx.bv prog 150 3=some (3,3)/\Sx.bv prog 150 4=some (4,3)/\Sx.bv prog 150 5=some (5,4)/\Sx.bv prog 150 6=some (6,78)/\Sx.bv prog 150 7=some (7,3)/\Sx.fd prog 150=true/\Sx.bI prog 150=.none/\Sx.bB prog 150=.other/\Sx.bP prog 150=true/\Sx.bD prog 152=some 1/\Sx.bk prog 152=some (.pointer none)/\Sx.bI prog 152=.none/\Sx.bB prog 152=.other/\Sx.bP prog 152=true/\Sx.bp prog 154=some none/\Sx.bD prog 154=some 1/\Sx.bk prog 154=some (.slice none 0 0)/\Sx.bI prog 154=.sl 3/\Sx.bB prog 154=.sl/\Sx.bP prog 154=true/\Sx.bp prog 155=some none/\Sx.bD prog 155=some 1/\Sx.bk prog 155=some (.slice none 0 0)/\Sx.bI prog 155=.sl 3/\Sx.bB prog 155=.sl/\Sx.bP prog 155=true/\Sx.bD prog 158=some 1/\Sx.bk prog 158=some (.slice none 0 0)/\Sx.bI prog 158=.sl 1/\Sx.bB prog 158=.sl/\Sx.bP prog 158=true/\Sx.bp prog 159=some none/\Sx.bD prog 159=some 1/\Sx.bk prog 159=some (.slice none 0 0)/\Sx.bI prog 159=.sl 2/\Sx.bB prog 159=.sl/\Sx.bP prog 159=true/\Sx.bp prog 161=some (some 5)/\Sx.bD prog 161=some 5:=by and_intros<;>kernel_rfl
theorem XT:Sx.bk prog 161=some (.agg #[.slice none 0 0,.slice none 0 0,.slice none 0 0,.int .i64 0,.slice none 0 0])/\Sx.bv prog 161 0=some (0,24)/\Sx.bv prog 161 1=some (1,158)/\Sx.bv prog 161 2=some (2,159)/\Sx.bv prog 161 3=some (3,3)/\Sx.bv prog 161 4=some (4,34)/\Sx.fd prog 161=true/\Sx.bI prog 161=.none/\Sx.bB prog 161=.other/\Sx.bP prog 161=true/\Sx.bp prog 164=some (some 2)/\Sx.bD prog 164=some 2/\Sx.bk prog 164=some (.agg #[.int .u32 0,.int .u32 0])/\Sx.bv prog 164 0=some (0,23)/\Sx.bv prog 164 1=some (1,23)/\Sx.fd prog 164=true/\Sx.bI prog 164=.none/\Sx.bB prog 164=.other/\Sx.bP prog 164=true/\Sx.bk prog 169=some (.agg #[.int .i64 0,.slice none 0 0,.int .i64 0])/\Sx.bv prog 169 0=some (0,3)/\Sx.bv prog 169 1=some (1,50)/\Sx.fd prog 169=true/\Sx.bI prog 169=.none/\Sx.bB prog 169=.other/\Sx.bP prog 169=true/\Sx.bD prog 181=some 3/\Sx.bk prog 181=some (.agg #[.int .i64 0,.int .i64 0,.int .i64 0])/\Sx.bv prog 181 0=some (0,3)/\Sx.bv prog 181 1=some (1,3)/\Sx.bv prog 181 2=some (2,3)/\Sx.fd prog 181=true/\Sx.bI prog 181=.none/\Sx.bB prog 181=.other/\Sx.bP prog 181=true/\Sx.bp prog 187=some (some 3)/\Sx.bD prog 187=some 3/\Sx.bk prog 187=some (.agg #[.int .u8 0,.int .i64 0,.slice none 0 0])/\Sx.bv prog 187 0=some (0,78)/\Sx.bv prog 187 1=some (1,3)/\Sx.bv prog 187 2=some (2,46)/\Sx.fd prog 187=true/\Sx.bI prog 187=.none/\Sx.bB prog 187=.other/\Sx.bP prog 187=true/\Sx.bp prog 192=some none/\Sx.bD prog 192=some 1/\Sx.bk prog 192=some (.nilFunc)/\Sx.bI prog 192=.none/\Sx.bB prog 192=.other/\Sx.bP prog 192=true/\Sx.bp prog 197=some none/\Sx.bD prog 197=some 1/\Sx.bk prog 197=some (.map none)/\Sx.bI prog 197=.none/\Sx.bB prog 197=.other/\Sx.bP prog 197=true/\Sx.bD prog 217=some 1/\Sx.bk prog 217=some (.pointer none)/\Sx.bI prog 217=.none:=by and_intros<;>kernel_rfl
theorem XU:Sx.bB prog 217=.other/\Sx.bP prog 217=true/\Sx.bD prog 227=some 5/\Sx.bk prog 227=some (.agg #[.int .i64 0,.slice none 0 0,.int .i64 0,.int .u8 0,.string ⟨#[]⟩])/\Sx.bv prog 227 0=some (0,3)/\Sx.bv prog 227 1=some (1,50)/\Sx.bv prog 227 2=some (3,5)/\Sx.bv prog 227 3=some (4,9)/\Sx.fd prog 227=true/\Sx.bI prog 227=.none/\Sx.bB prog 227=.other/\Sx.bP prog 227=true/\Sx.bp prog 238=some none/\Sx.bD prog 238=some 1/\Sx.bk prog 238=some (.map none)/\Sx.bI prog 238=.none/\Sx.bB prog 238=.other/\Sx.bP prog 238=true/\Sx.bp prog 240=some (some 4)/\Sx.bD prog 240=some 4/\Sx.bk prog 240=some (.agg #[.int .i64 0,.int .i64 0,.int .u8 0,.string ⟨#[]⟩])/\Sx.bv prog 240 0=some (0,3)/\Sx.bv prog 240 1=some (1,3)/\Sx.bv prog 240 2=some (2,5)/\Sx.bv prog 240 3=some (3,9)/\Sx.fd prog 240=true/\Sx.bI prog 240=.none/\Sx.bB prog 240=.other/\Sx.bP prog 240=true/\Sx.bD prog 260=some 1/\Sx.bk prog 260=some (.map none)/\Sx.bI prog 260=.none/\Sx.bB prog 260=.other/\Sx.bP prog 260=true/\Sx.bp prog 262=some (some 6)/\Sx.bD prog 262=some 6/\Sx.bk prog 262=some (.agg #[.pointer none,.slice none 0 0,.int .i64 0,.slice none 0 0,.int .i64 0,.map none])/\Sx.bv prog 262 0=some (0,217)/\Sx.bv prog 262 1=some (1,50)/\Sx.bv prog 262 2=some (3,50)/\Sx.bv prog 262 3=some (5,260)/\Sx.fd prog 262=true/\Sx.bI prog 262=.none/\Sx.bB prog 262=.other/\Sx.bP prog 262=true/\Sx.bp prog 265=some (some 6)/\Sx.bD prog 265=some 6/\Sx.bk prog 265=some (.agg #[.int .u8 0,.string ⟨#[]⟩,.int .i64 0,.int .i64 0,.slice none 0 0,.slice none 0 0])/\Sx.bv prog 265 0=some (0,5)/\Sx.bv prog 265 1=some (1,9)/\Sx.bv prog 265 2=some (2,3)/\Sx.bv prog 265 3=some (3,3)/\Sx.bv prog 265 4=some (4,91)/\Sx.bv prog 265 5=some (5,46)/\Sx.fd prog 265=true/\Sx.bI prog 265=.none/\Sx.bB prog 265=.other/\Sx.bP prog 265=true/\Sx.bp prog 268=some none/\Sx.bD prog 268=some 1:=by and_intros<;>kernel_rfl
theorem XW:Sx.bk prog 268=some (.slice none 0 0)/\Sx.bI prog 268=.sl 1/\Sx.bB prog 268=.sl/\Sx.bP prog 268=true/\Sx.bp prog 282=some none/\Sx.bD prog 282=some 1/\Sx.bk prog 282=some (.slice none 0 0)/\Sx.bI prog 282=.sl 1/\Sx.bB prog 282=.sl/\Sx.bP prog 282=true/\Sx.bp prog 284=some none/\Sx.bD prog 284=some 1/\Sx.bk prog 284=some (.nilIface)/\Sx.bI prog 284=.none/\Sx.bB prog 284=.other/\Sx.bP prog 284=true/\Sx.bD prog 298=some 1/\Sx.bk prog 298=some (.map none)/\Sx.bI prog 298=.none/\Sx.bB prog 298=.other/\Sx.bP prog 298=true/\Sx.bp prog 300=some (some 2)/\Sx.bD prog 300=some 2/\Sx.bk prog 300=some (.agg #[.slice none 0 0,.map none])/\Sx.bv prog 300 0=some (0,48)/\Sx.bv prog 300 1=some (1,298)/\Sx.fd prog 300=true/\Sx.bI prog 300=.none/\Sx.bB prog 300=.other/\Sx.bP prog 300=true/\Sx.bD prog 301=some 1/\Sx.bk prog 301=some (.map none)/\Sx.bI prog 301=.none/\Sx.bB prog 301=.other/\Sx.bP prog 301=true/\Sx.bk prog 302=some (.nilFunc)/\Sx.bI prog 302=.none/\Sx.bB prog 302=.other/\Sx.bP prog 302=true/\Sx.bp prog 306=some none/\Sx.bD prog 306=some 1/\Sx.bk prog 306=some (.slice none 0 0)/\Sx.bI prog 306=.sl 5/\Sx.bB prog 306=.sl/\Sx.bP prog 306=true/\Sx.bD prog 315=some 1/\Sx.bk prog 315=some (.nilFunc)/\Sx.bI prog 315=.none/\Sx.bB prog 315=.other/\Sx.bP prog 315=true/\Sx.bD prog 316=some 1/\Sx.bk prog 316=some (.nilFunc)/\Sx.bI prog 316=.none/\Sx.bB prog 316=.other/\Sx.bP prog 316=true/\Sx.bD prog 317=some 22/\Sx.bk prog 317=some (.agg #[.string ⟨#[]⟩,.string ⟨#[]⟩,.string ⟨#[]⟩,.string ⟨#[]⟩,.string ⟨#[]⟩,.string ⟨#[]⟩,.string ⟨#[]⟩,.string ⟨#[]⟩,.string ⟨#[]⟩,.string ⟨#[]⟩,.string ⟨#[]⟩,.string ⟨#[]⟩,.string ⟨#[]⟩,.string ⟨#[]⟩,.string ⟨#[]⟩,.string ⟨#[]⟩,.string ⟨#[]⟩,.string ⟨#[]⟩,.string ⟨#[]⟩,.string ⟨#[]⟩,.string ⟨#[]⟩,.string ⟨#[]⟩])/\Sx.bI prog 317=.arr 22 1/\Sx.bB prog 317=.other/\Sx.bP prog 317=true:=by and_intros<;>kernel_rfl
theorem XX:Sx.bp prog 319=some none/\Sx.bD prog 319=some 1/\Sx.bk prog 319=some (.slice none 0 0)/\Sx.bI prog 319=.sl 1/\Sx.bB prog 319=.sl/\Sx.bP prog 319=true/\Sx.bp prog 325=some none/\Sx.bD prog 325=some 1/\Sx.bk prog 325=some (.int .u64 0)/\Sx.bI prog 325=.none/\Sx.bB prog 325=.int .u64/\Sx.bP prog 325=true/\Sx.bp prog 329=some none/\Sx.bD prog 329=some 1/\Sx.bk prog 329=some (.slice none 0 0)/\Sx.bI prog 329=.sl 1/\Sx.bB prog 329=.sl/\Sx.bP prog 329=true/\Sx.bp prog 335=some (some 2)/\Sx.bD prog 335=some 2/\Sx.bk prog 335=some (.agg #[.int .i64 0,.int .i64 0])/\Sx.bI prog 335=.arr 2 1/\Sx.bB prog 335=.other/\Sx.bP prog 335=true/\Sx.bp prog 358=some none/\Sx.bD prog 358=some 1/\Sx.bk prog 358=some (.int .i64 0)/\Sx.bI prog 358=.none/\Sx.bB prog 358=.int .i64/\Sx.bP prog 358=true/\Sx.bp prog 366=some none/\Sx.bD prog 366=some 1/\Sx.bk prog 366=some (.int .u64 0)/\Sx.bI prog 366=.none/\Sx.bB prog 366=.int .u64/\Sx.bP prog 366=true/\Sx.bk prog 377=some (.int .u64 0)/\Sx.bI prog 377=.none/\Sx.bB prog 377=.int .u64/\Sx.bP prog 377=true/\Sx.bp prog 403=some none/\Sx.bD prog 403=some 1/\Sx.bk prog 403=some (.pointer none)/\Sx.bI prog 403=.none/\Sx.bB prog 403=.other/\Sx.bP prog 403=true/\Sx.bp prog 405=some (some 1)/\Sx.bD prog 405=some 1/\Sx.bk prog 405=some (.agg #[.string ⟨#[]⟩])/\Sx.bv prog 405 0=some (0,9)/\Sx.fd prog 405=true/\Sx.bI prog 405=.none/\Sx.bB prog 405=.other/\Sx.bP prog 405=true/\Sx.bp prog 408=some (some 32)/\Sx.bD prog 408=some 32/\Sx.bk prog 408=some (.agg #[.int .u8 0,.int .u8 0,.int .u8 0,.int .u8 0,.int .u8 0,.int .u8 0,.int .u8 0,.int .u8 0,.int .u8 0,.int .u8 0,.int .u8 0,.int .u8 0,.int .u8 0,.int .u8 0,.int .u8 0,.int .u8 0,.int .u8 0,.int .u8 0,.int .u8 0,.int .u8 0,.int .u8 0,.int .u8 0,.int .u8 0,.int .u8 0,.int .u8 0,.int .u8 0,.int .u8 0,.int .u8 0,.int .u8 0,.int .u8 0,.int .u8 0,.int .u8 0])/\Sx.bI prog 408=.arr 32 1/\Sx.bB prog 408=.other/\Sx.bP prog 408=true:=by and_intros<;>kernel_rfl
theorem XY:Sx.bp prog 409=some (some 64)/\Sx.bD prog 409=some 64/\Sx.bk prog 409=some (.agg #[.int .u8 0,.int .u8 0,.int .u8 0,.int .u8 0,.int .u8 0,.int .u8 0,.int .u8 0,.int .u8 0,.int .u8 0,.int .u8 0,.int .u8 0,.int .u8 0,.int .u8 0,.int .u8 0,.int .u8 0,.int .u8 0,.int .u8 0,.int .u8 0,.int .u8 0,.int .u8 0,.int .u8 0,.int .u8 0,.int .u8 0,.int .u8 0,.int .u8 0,.int .u8 0,.int .u8 0,.int .u8 0,.int .u8 0,.int .u8 0,.int .u8 0,.int .u8 0,.int .u8 0,.int .u8 0,.int .u8 0,.int .u8 0,.int .u8 0,.int .u8 0,.int .u8 0,.int .u8 0,.int .u8 0,.int .u8 0,.int .u8 0,.int .u8 0,.int .u8 0,.int .u8 0,.int .u8 0,.int .u8 0,.int .u8 0,.int .u8 0,.int .u8 0,.int .u8 0,.int .u8 0,.int .u8 0,.int .u8 0,.int .u8 0,.int .u8 0,.int .u8 0,.int .u8 0,.int .u8 0,.int .u8 0,.int .u8 0,.int .u8 0,.int .u8 0])/\Sx.bI prog 409=.arr 64 1/\Sx.bB prog 409=.other/\Sx.bP prog 409=true:=by and_intros<;>kernel_rfl
attribute [go_sem] XO XP XQ XR XS XT XU XW XX XY fI r9 pe Gq uq gM my lL zv yz CM K9 Gp wH ro Fe iB qC B0 b9 ep gA o4 LM Gr uo Gl rg K4 sO zr gm CI CK zt zu K5 CL Gm Gn rh BH
end Go.Proofs.YtfaclfkpnmcmlaaGreatDoor
namespace Dg
abbrev aD:=Nat->Bool
def jj(c:aD)(j:Nat)(x:Bool):aD:=fun i=>if i=j then x else c i
inductive T where
 |lf (b:Bool)
 |nd (v:Nat) (l h:T)
deriving DecidableEq
namespace T
def at'(c:aD):T->Bool
 |lf b=>b
 |nd v l h=>if c v then h.at' c else l.at' c
def ok:Nat->T->Prop
 |_,lf _=>True
 |k,nd v l h=>k<=v/\v<24/\l≠h/\ok (v+1) l/\ok (v+1) h
variable{k:Nat}{t:T}
def ok.mono{j:Nat}(a:j<=k)(h:t.ok k):t.ok j:=by
 cases t with
 |lf b=>trivial
 |nd v l r=>exact⟨fD a h.1,h.2⟩
def pX:∀{k:Nat},t.ok k->∀{j:Nat},j<k->∀(c:aD) (x:Bool),t.at' (jj c j x)=t.at' c:=by
 induction t with
 |lf b=>intros;rfl
 |nd v l h d e=>
  intro k a j f c x;have hv:jj c j x v=c v:=by unfold jj;rw[ab];have:=a.1;omega
  simp only[at',hv,d a.2.2.2.1 (show j<v+1 by have:=a.1;omega),e a.2.2.2.2 (show j<v+1 by have:=a.1;omega)]
variable{l h:T}{v:Nat}
def uu(a:(nd v l h).ok k)(c:aD):(nd v l h).at' (jj c v false)=l.at' c:=by simp only[at',jj,co,dK,dD];exact pX a.2.2.2.1 (eO v) c false
def ut(a:(nd v l h).ok k)(c:aD):(nd v l h).at' (jj c v true)=h.at' c:=by simp only[at',jj,co];exact pX a.2.2.2.2 (eO v) c true
def sz:T->Nat
 |lf _=>1
 |nd _ l h=>l.sz+h.sz+1
def NI:∀(n:Nat) (a b:T) (k j:Nat),a.sz+b.sz<=n->a.ok k->b.ok j->(∀c,a.at' c=b.at' c)->a=b:=by
 intro n
 induction n with
 |zero=>intro a b k j o;cases a<;>simp[sz]at o
 |succ n e=>
  intro a b k j o ha hb d;cases a with
  |lf x=>
   cases b with
   |lf y=>have:=d (fun _=>false);simp only[at']at this;rw[this]
   |nd v l h=>exfalso;simp only[sz]at o;have e1:lf x=l:=e (lf x) l 0 _ (by simp only[sz];omega) trivial hb.2.2.2.1 (fun c=>by rw[<-uu hb c,<-d];rfl);have e2:lf x=h:=e (lf x) h 0 _ (by simp only[sz];omega) trivial hb.2.2.2.2 (fun c=>by rw[<-ut hb c,<-d];rfl);exact hb.2.2.1 (e1.symm.trans e2)
  |nd v l h=>
   cases b with
   |lf y=>exfalso;simp only[sz]at o;have e1:l=lf y:=e l (lf y) _ 0 (by simp only[sz];omega) ha.2.2.2.1 trivial (fun c=>by rw[<-uu ha c,d];rfl);have e2:h=lf y:=e h (lf y) _ 0 (by simp only[sz];omega) ha.2.2.2.2 trivial (fun c=>by rw[<-ut ha c,d];rfl);exact ha.2.2.1 (e1.trans e2.symm)
   |nd i l' m=>
    simp only[sz]at o;rcases sx v i with hv|hv|hv
    .exfalso;have f:(nd i l' m).ok (v+1):=⟨hv,hb.2⟩;have e1:l=nd i l' m:=e l _ _ _ (by simp only[sz];omega) ha.2.2.2.1 f (fun c=>by rw[<-uu ha c,d,pX f (eO v)]);have e2:h=nd i l' m:=e h _ _ _ (by simp only[sz];omega) ha.2.2.2.2 f (fun c=>by rw[<-ut ha c,d,pX f (eO v)]);exact ha.2.2.1 (e1.trans e2.symm)
    .subst hv;have e1:l=l':=e l l' _ _ O ha.2.2.2.1 hb.2.2.2.1 (fun c=>by rw[<-uu ha c,d,uu hb c]);have e2:h=m:=e h m _ _ O ha.2.2.2.2 hb.2.2.2.2 (fun c=>by rw[<-ut ha c,d,ut hb c]);rw[e1,e2]
    .exfalso;have g:(nd v l h).ok (i+1):=⟨hv,ha.2⟩;have e1:nd v l h=l':=e _ l' _ _ (by simp only[sz];omega) g hb.2.2.2.1 (fun c=>by rw[<-uu hb c,<-d,pX g (eO i)]);have e2:nd v l h=m:=e _ m _ _ (by simp only[sz];omega) g hb.2.2.2.2 (fun c=>by rw[<-ut hb c,<-d,pX g (eO i)]);exact hb.2.2.1 (e1.symm.trans e2)
variable{a b:T}
theorem ext{j:Nat}(ha:a.ok k)(hb:b.ok j)(h:∀c,a.at' c=b.at' c):a=b:=NI _ a b k j (aR _) ha hb h
def mk(v:Nat)(l h:T):T:=if l=h then l else nd v l h
theorem mk_ok(b:k<=v)(hv:v<24)(a:l.ok (v+1))(c:h.ok (v+1)):(mk v l h).ok k:=by
 unfold mk;split
 .exact a.mono O
 .exact⟨b,hv,by assumption,a,c⟩
theorem mk_at(v:Nat)(l h:T)(c:aD):(mk v l h).at' c=if c v then h.at' c else l.at' c:=by
 unfold mk;split
 .subst_vars;simp
 .rfl
def var:T->Nat
 |lf _=>24
 |nd v _ _=>v
def lo(i:Nat):T->T
 |nd v l h=>if v=i then l else nd v l h
 |lf b=>lf b
def hi(i:Nat):T->T
 |nd v l h=>if v=i then h else nd v l h
 |lf b=>lf b
theorem var_ge(h:t.ok k)(a:k<=24):k<=t.var:=by
 cases t with
 |lf b=>exact a
 |nd v l r=>exact h.1
theorem var_le(h:t.ok k):t.var<=24:=by
 cases t with
 |lf b=>exact aR _
 |nd v l r=>exact lC h.2.1
theorem lo_ok{i:Nat}(h:t.ok k)(hi:i<=t.var):(lo i t).ok (i+1):=by
 cases t with
 |lf b=>trivial
 |nd v l r=>
  simp only[lo,var]at *;split
  .subst_vars;exact h.2.2.2.1
  .exact⟨O,h.2⟩
theorem hi_ok{i:Nat}(h:t.ok k)(a:i<=t.var):(hi i t).ok (i+1):=by
 cases t with
 |lf b=>trivial
 |nd v l r=>
  simp only[hi,var]at *;split
  .subst_vars;exact h.2.2.2.2
  .exact⟨O,h.2⟩
def zz(i:Nat)(t:T)(c:aD):t.at' c=if c i then (hi i t).at' c else (lo i t).at' c:=by
 cases t with
 |lf b=>simp[lo,hi,at']
 |nd v l r=>
  simp only[lo,hi];by_cases e:v=i
  .subst e;simp[at']
  .simp[e]
def op(f:Bool->Bool->Bool):Nat->T->T->T
 |0,a,b=>lf (f (a.at' fun _=>false) (b.at' fun _=>false))
 |n+1,a,b=>match a,b with
  |lf x,lf y=>lf (f x y)
  |a,b=>mk (min a.var b.var) (op f n (lo (min a.var b.var) a) (lo (min a.var b.var) b)) (op f n (hi (min a.var b.var) a) (hi (min a.var b.var) b))
theorem is_lf(h:t.ok 24):∃b,t=lf b:=by
 cases t with
 |lf b=>exact⟨b,rfl⟩
 |nd v l r=>exact absurd h.1 (by have:=h.2.1;omega)
def u7(f:Bool->Bool->Bool):∀(n k:Nat) (a b:T),24<=n+k->k<=24->a.ok k->b.ok k->(op f n a b).ok k/\∀c,(op f n a b).at' c=f (a.at' c) (b.at' c):=by
 intro n
 induction n with
 |zero=>
  intro k a b s h ha hb;have:k=24:=by omega
  subst this;obtain⟨x,rfl⟩:=is_lf ha;obtain⟨y,rfl⟩:=is_lf hb;exact⟨trivial,fun c=>rfl⟩
 |succ n j=>
  intro k a b s h ha hb;have d:∀i,i=min a.var b.var->i<24->(mk i (op f n (lo i a) (lo i b)) (op f n (hi i a) (hi i b))).ok k/\∀c,(mk i (op f n (lo i a) (lo i b)) (op f n (hi i a) (hi i b))).at' c=f (a.at' c) (b.at' c):=by intro i t g;have h1:=var_ge ha h;have h2:=var_ge hb h;obtain⟨q,p⟩:=j (i+1) (lo i a) (lo i b) O O (lo_ok ha O) (lo_ok hb O);obtain⟨o,m⟩:=j (i+1) (hi i a) (hi i b) O O (hi_ok ha O) (hi_ok hb O);refine⟨mk_ok O g q o,fun c=>?_⟩;rw[mk_at,p,m,zz i a c,zz i b c];split<;>rfl
  unfold op;split
  .exact⟨trivial,fun c=>rfl⟩
  .rename_i e;refine d _ rfl ?_;cases a with
   |nd v l r=>have:=ha.2.1;simp only[var];omega
   |lf x=>
    cases b with
    |nd v l r=>have:=hb.2.1;simp only[var];omega
    |lf y=>exact(e x y rfl rfl).elim
def and(a b:T):T:=op (· && ·) 24 a b
def or(a b:T):T:=op (· || ·) 24 a b
def not:T->T
 |lf b=>lf (!b)
 |nd v l h=>nd v l.not h.not
theorem and_ok(ha:a.ok 0)(hb:b.ok 0):(and a b).ok 0:=(u7 _ 24 0 a b O O ha hb).1
theorem or_ok(ha:a.ok 0)(hb:b.ok 0):(or a b).ok 0:=(u7 _ 24 0 a b O O ha hb).1
theorem and_at(ha:a.ok 0)(hb:b.ok 0)(c:aD):(and a b).at' c=(a.at' c && b.at' c):=(u7 _ 24 0 a b O O ha hb).2 c
theorem or_at(ha:a.ok 0)(hb:b.ok 0)(c:aD):(or a b).at' c=(a.at' c || b.at' c):=(u7 _ 24 0 a b O O ha hb).2 c
theorem not_not(t:T):t.not.not=t:=by
 induction t with
 |lf b=>simp[not]
 |nd v l h a c=>simp[not,a,c]
theorem not_ok:∀{k:Nat},t.ok k->t.not.ok k:=by
 induction t with
 |lf b=>intros;trivial
 |nd v l h c d=>intro k a;refine⟨a.1,a.2.1,fun e=>a.2.2.1 ?_,c a.2.2.2.1,d a.2.2.2.2⟩;rw[<-not_not l,e,not_not]
theorem not_at(t:T)(c:aD):t.not.at' c=!t.at' c:=by
 induction t with
 |lf b=>rfl
 |nd v l h a d=>simp only[not,at',a,d];split<;>rfl
def OE(h:t.ok k):t=lf false<->∀c,t.at' c=false:=
 ⟨fun e c=>by rw[e];rfl,fun a=>ext h (show (lf false).ok 0 from trivial) fun c=>by rw[a c];rfl⟩
theorem some_of_ne(h:t.ok k)(b:t≠lf false):∃c,t.at' c=true:=by
 apply Classical.byContradiction;intro a;refine b ((OE h).2 fun c=>?_);cases d:t.at' c with
 |false=>rfl
 |true=>exact absurd ⟨c,d⟩ a
def vis:T->List T->List T
 |lf _,Z=>Z
 |nd v l h,Z=>if nd v l h∈Z then Z else h.vis (l.vis Z)++[nd v l h]
def plc(Z:List T):T->Nat
 |lf b=>if b then 1 else 0
 |nd v l h=>Z.idxOf (nd v l h)+2
def isIn(Z:List T):T->Prop
 |lf _=>True
 |nd v l h=>nd v l h∈Z
def Seq(Z:List T):Prop:=Z.Nodup/\∀(i:Nat) (t:T),Z[i]?=some t->∃v l h,t=nd v l h/\t.ok 0/\isIn (Z.take i) l/\isIn (Z.take i) h
variable{us:List T}
def isIn.mono{Z:List T}(h:isIn Z t)(hs:∀x∈Z,x∈us):isIn us t:=by
 cases t with
 |lf b=>trivial
 |nd v l r=>exact hs _ h
def isIn.app{Z:List T}(h:isIn Z t):isIn (Z++us) t:=h.mono fun x a=>ge _ a
theorem plc_app{Z:List T}(h:isIn Z t):plc (Z++us) t=plc Z t:=by
 cases t with
 |lf b=>rfl
 |nd v l r=>have hm:nd v l r∈Z:=h;simp only[plc];rw[List.idxOf_append,ag hm]
theorem plc_inj{Z:List T}(ha:isIn Z a)(hb:isIn Z b)(h:plc Z a=plc Z b):a=b:=by
 cases a with
 |lf x=>cases b with
  |lf y=>cases x<;>cases y<;>simp[plc]at h<;>rfl
  |nd v l r=>simp only[plc]at h;split at h<;>omega
 |nd v l r=>cases b with
  |lf y=>simp only[plc]at h;split at h<;>omega
  |nd c l' d=>
   have h1:nd v l r∈Z:=ha;have h2:nd c l' d∈Z:=hb;simp only[plc]at h;have e:Z.idxOf (nd v l r)=Z.idxOf (nd c l' d):=by omega
   have g1:Z[Z.idxOf (nd v l r)]?=some (nd v l r):=by rw[aZ (tK h1)];simp
   have g2:Z[Z.idxOf (nd c l' d)]?=some (nd c l' d):=by rw[aZ (tK h2)];simp
   rw[e,g2]at g1;exact(cW g1).symm
theorem plc_get{Z:List T}{r:T}(h:nd v l r∈Z):Z[plc Z (nd v l r)-2]?=some (nd v l r):=by simp only[plc,tM];rw[aZ (tK h)];simp
theorem plc_lt{Z:List T}(h:isIn Z t):plc Z t<Z.length+2:=by
 cases t with
 |lf b=>simp only[plc];split<;>omega
 |nd v l r=>have:=tK (show nd v l r∈Z from h);simp only[plc];omega
def Seq.nil:Seq []:=⟨List.nodup_nil,fun i t h=>by simp at h⟩
def Seq.snoc{Z:List T}(s:Seq Z)(g:(nd v l h).ok 0)(o:isIn Z l)(p:isIn Z h)(k:nd v l h∉Z):Seq (Z++[nd v l h]):=by
 refine⟨?_,fun i t hi=>?_⟩
 .rw[List.nodup_append];refine⟨s.1,by simp,fun a ha b hb=>?_⟩;simp at hb;subst hb;intro e;subst e;exact k ha
 .rcases sx i Z.length with f|rfl|m
  .rw[vV f]at hi;obtain⟨j,l',n,a,b,c,d⟩:=s.2 i t hi;refine⟨j,l',n,a,b,?_,?_⟩<;>rw[Cd (lC f)]<;>assumption
  .rw[yP (aR _)]at hi;simp at hi;subst hi;refine⟨v,l,h,rfl,g,?_,?_⟩<;>rw[Cd (aR _),dO]<;>assumption
  .rw[fe (by simp;omega)]at hi;cases hi
theorem vis_spec(t:T):∀{k:Nat},t.ok k->k<=24->∀(Z:List T),Seq Z->Seq (t.vis Z)/\isIn (t.vis Z) t/\(∃us,t.vis Z=Z++us/\us.length+1<=2^(24-k)/\∀x∈us,x.sz<=t.sz):=by
 induction t with
 |lf b=>intro k c j Z s;exact⟨s,trivial,[],by simp[vis],by simpa using Nat.one_le_two_pow,fun x a=>absurd a dH⟩
 |nd v l h g i=>
  intro k c j Z s;unfold vis;split
  .rename_i hm;exact⟨s,hm,[],by simp,by simpa using Nat.one_le_two_pow,fun x a=>absurd a dH⟩
  .rename_i hm;obtain⟨o,p,f,e1,r,m⟩:=g c.2.2.2.1 (by have:=c.2.1;omega) Z s;obtain⟨n,i2,e,e2,q,z2⟩:=i c.2.2.2.2 (by have:=c.2.1;omega) _ o;have d:nd v l h∉h.vis (l.vis Z):=by
    rw[e2,e1];simp only[lx];rintro((a|a)|a)
    .exact hm a
    .have:=m _ a;simp only[sz]at this;omega
    .have:=z2 _ a;simp only[sz]at this;omega
   refine⟨n.snoc ⟨aF _,c.2⟩ ?_ i2 d,?_,f++e++[nd v l h],?_,?_,?_⟩
   .rw[e2];exact p.app
   .show nd v l h∈_;simp
   .rw[e2,e1];simp
   .have hp:2^(24-(v+1))+2^(24-(v+1))<=2^(24-k):=by
     have h1:=c.1;have h2:=c.2.1;have:2^(24-(v+1))+2^(24-(v+1))=2^(24-v):=by rw[show 24-v=(24-(v+1))+1 by omega,tN];omega
     rw[this];exact we O O
    simp;omega
   .intro x a;simp only[lx,List.mem_singleton]at a;rcases a with (a|a)|rfl
    .have:=m _ a;simp only[sz];omega
    .have:=z2 _ a;simp only[sz];omega
    .exact aR _
def subs(t:T):List T:=t.vis []
theorem subs_seq(h:t.ok 0):Seq (subs t):=(vis_spec t h O [] Seq.nil).1
theorem subs_in(h:t.ok 0):isIn (subs t) t:=(vis_spec t h O [] Seq.nil).2.1
theorem subs_len(h:t.ok 0):(subs t).length<2^24:=by obtain⟨us,e,n,_⟩:=(vis_spec t h O [] Seq.nil).2.2;unfold subs;rw[e];simp only[aM];omega
def dec(Z:List T):T->Nat×Nat×Nat
 |lf b=>(24,if b then 1 else 0,if b then 1 else 0)
 |nd v l h=>(v,plc Z l,plc Z h)
theorem dec_app{Z:List T}(s:Seq Z)(h:isIn Z t):dec (Z++us) t=dec Z t:=by
 cases t with
 |lf b=>rfl
 |nd v l r=>
  have hm:nd v l r∈Z:=h;obtain⟨i,hi⟩:=List.mem_iff_getElem?.1 hm;obtain⟨d,l',f,e,_,c,hr⟩:=s.2 i _ hi;cases e
  have sub:∀x∈Z.take i,x∈Z:=fun x a=>ly a;simp only[dec,plc_app (c.mono sub),plc_app (hr.mono sub)]
def Seq.kids{Z:List T}(s:Seq Z)(hm:nd v l h∈Z):isIn Z l/\isIn Z h:=by
 obtain⟨i,hi⟩:=List.mem_iff_getElem?.1 hm;obtain⟨c,l',d,e,_,b,hr⟩:=s.2 i _ hi;cases e
 have sub:∀x∈Z.take i,x∈Z:=fun x a=>ly a;exact⟨b.mono sub,hr.mono sub⟩
def Seq.okk{Z:List T}(s:Seq Z)(h:isIn Z t):t.ok 0:=by
 cases t with
 |lf b=>trivial
 |nd v l r=>obtain⟨i,hi⟩:=List.mem_iff_getElem?.1 (show nd v l r∈Z from h);exact(s.2 i _ hi).choose_spec.choose_spec.choose_spec.2.1
end T
def i7(S:aD->Bool):Nat->aD->Nat
 |0,c=>(S c).toNat
 |n+1,c=>i7 S n (jj c n false)+i7 S n (jj c n true)
def GZ{A B S:aD->Bool}(h:∀c,(S c).toNat=(A c).toNat+(B c).toNat):∀(n:Nat) (c:aD),i7 S n c=i7 A n c+i7 B n c
 |0,c=>h c
 |n+1,c=>by simp only[i7,GZ h n];omega
def Da{A B:aD->Bool}(h:∀c,A c=true->B c=true):∀(n:Nat) (c:aD),i7 A n c<=i7 B n c
 |0,c=>by
  simp only[i7];cases ha:A c
  .simp
  .rw[h c ha];exact aR _
 |n+1,c=>by simp only[i7];have:=Da h n (jj c n false);have:=Da h n (jj c n true);omega
def C9(S:aD->Bool):∀(n:Nat) (c:aD),i7 S n c<=2^n
 |0,c=>by simp only[i7];cases S c<;>simp
 |n+1,c=>by simp only[i7];have:=C9 S n (jj c n false);have:=C9 S n (jj c n true);rw[tN];omega
def G0{S:aD->Bool}{c0:aD}(hs:S c0=true):∀(n:Nat) (c:aD),(∀i,n<=i->c i=c0 i)->1<=i7 S n c
 |0,c,h=>by have:c=c0:=funext fun i=>h i (aF i);subst this;simp[i7,hs]
 |n+1,c,h=>by
  simp only[i7];have:=G0 hs n (jj c n (c0 n)) (fun i hi=>by
   unfold jj;split
   .subst_vars;rfl
   .exact h i O)
  cases a:c0 n<;>rw[a]at this<;>omega
def T.card(t:T):Nat:=i7 t.at' 24 (fun _=>false)
def T.card_le(t:T):t.card<=2^24:=C9 _ _ _
def T.at_cut{t:T}:∀{k:Nat},t.ok k->∀{c d:aD},(∀i,i<24->c i=d i)->t.at' c=t.at' d:=by
 induction t with
 |lf b=>intros;rfl
 |nd v l h e f=>intro k g c d a;simp only[T.at',a v g.2.1,e g.2.2.2.1 a,f g.2.2.2.2 a]
def T.card_pos{t:T}(h:t.ok 0)(a:t≠.lf false):1<=t.card:=by
 obtain⟨c,b⟩:=T.some_of_ne h a;have:t.at' (fun i=>if i<24 then c i else false)=true:=by rw[T.at_cut h (d:=c) (fun i hi=>by simp[hi])];exact b
 exact G0 this 24 _ fun i hi=>by simp[Nat.not_lt.2 hi]
def T.card_add{a b s:T}(h:∀c,(s.at' c).toNat=(a.at' c).toNat+(b.at' c).toNat):s.card=a.card+b.card:=GZ h _ _
def T.card_mono{a b:T}(h:∀c,a.at' c=true->b.at' c=true):a.card<=b.card:=Da h _ _
end Dg
namespace Syn
open Dg
abbrev al:=List UInt8
structure M where
 kind:Nat
 text:al
 tok:Int
 slot:Int
 kids:List M
 cond:T
structure aG where
 code:Nat
 tok:Int
 cond:T
deriving DecidableEq
structure Tok where
 kind:Nat
 text:al
 cond:T
 fits:Bool
structure ah where
 at':Nat
 cond:T
 kind:Nat
 text:al
abbrev ad:=List (Nat×T)
abbrev ff:T:=.lf false
abbrev tt:T:=.lf true
def gu:ad->Nat->T->ad
 | [],a,d=>[(a,d)]
 |(b,e)::l,a,d=>if b<a then (b,e)::gu l a d else if b=a then (b,e.or d)::l else (a,d)::(b,e)::l
def join(f:ad)(a:Nat)(d:T):ad:=if d=ff then f else gu f a d
def joinAll(f g:ad):ad:=g.foldl (fun f s=>join f s.1 s.2) f
def gB(f:ad):T:=f.foldl (fun d s=>d.or s.2) ff
def gF(at':ad):List Tok->Nat->T->ad
 | [],i,d=>join at' i d
 |t::l,i,d=>if d=ff then at' else gF (join at' i (d.and t.cond)) l (i+1) (d.and t.cond.not)
def ll(Z:List Tok)(f:ad):ad:=f.foldl (fun at' s=>gF at' (Z.drop s.1) s.1 s.2) []
def fk(Z:List Tok)(s:Nat×T):ah:=match Z[s.1]? with
 |some t=>if t.fits then ⟨s.1,s.2,t.kind,t.text⟩else ⟨s.1,s.2,0,[]⟩
 |none=>⟨s.1,s.2,0,[]⟩
def ce(Z:List Tok)(f:ad):List ah:=((ll Z f).filter (fun s=>decide (s.2≠ff))).map (fk Z)
def mX:al:=[118,97,114]
def tz:al:=[102,110]
def nZ:al:=[105,110,116]
def nY:al:=[98,111,111,108]
def eG:al:=[105,102]
def iQ:al:=[101,108,115,101]
def tF:al:=[119,104,105,108,101]
def tE:al:=[114,101,116,117,114,110]
def tC:al:=[112,114,105,110,116]
def jF:al:=[97,115,115,101,114,116]
def o6:al:=[116,114,117,101]
def qD:al:=[102,97,108,115,101]
def tD:al:=[114,101,97,100]
def cg:al:=[40]
def dm:al:=[41]
def qE:al:=[123]
def iR:al:=[125]
def eM:al:=[44]
def bO:al:=[59]
def du:al:=[58]
def iw:al:=[61]
def sd:al:=[33]
def o5:al:=[45]
def Fs:al:=[124,124]
def Fh:al:=[38,38]
def Fj:al:=[61,61]
def Fr:al:=[33,61]
def Fo:al:=[60]
def Fm:al:=[60,61]
def Fl:al:=[62]
def Fk:al:=[62,61]
def Ft:al:=[43]
def Fq:al:=[42]
def Fi:al:=[47]
def Fp:al:=[37]
structure aw where
 l:List M
 f:ad
 e:List aG
def db(h:ah)(code:Nat):List aG:=[⟨12,h.at',ff⟩,⟨code,h.at',h.cond⟩]
def qi{α:Type}(Z:List Tok)(f:ad)(z:α)(g:α->ah->α):α:=(ce Z f).foldl g z
def take(Z:List Tok)(f:ad)(s:al):ad×List aG:=
 qi Z f ([],[]) fun(out,e) h=>if h.text=s then (join out (h.at'+1) h.cond,e)else (out,e++db h 10)
def bM(Z:List Tok)(f:ad)(is:ah->Bool):List ah×ad:=
 qi Z f ([],[]) fun(yes,no) h=>if is h then (yes++[h],no)else (yes,join no h.at' h.cond)
def bg(s:al)(h:ah):Bool:=decide (h.text=s)
def fy(s:al):Bool:=[mX,tz,nZ,nY,eG,iQ,tF,tE,tC,jF,o6,qD,tD].contains s
def fQ(s:al):Nat:=
 if s=Fs then 0
 else if s=Fh then 1
 else if [Fj,Fr,Fo,Fm,Fl,Fk].contains s then 2
 else if s=Ft\/s=o5 then 3
 else if [Fq,Fi,Fp].contains s then 4
 else 9
def named(Z:List Tok)(f:ad)(kind slot:Nat):aw:=
 qi Z f ⟨[],[],[]⟩ fun r h=>
  if h.kind≠1\/fy h.text=true then { r with e:=r.e++db h 10 }
  else ⟨r.l++[⟨kind,h.text,h.at',slot,[],h.cond⟩],join r.f (h.at'+1) h.cond,r.e⟩
def hU(Z:List Tok)(f:ad)(slot:Nat):aw:=
 qi Z f ⟨[],[],[]⟩ fun r h=>
  if h.text≠nZ/\h.text≠nY then { r with e:=r.e++db h 10 }
  else ⟨r.l++[⟨5,h.text,h.at',slot,[],h.cond⟩],join r.f (h.at'+1) h.cond,r.e⟩
def give(l kids:List M):List M:=l.map fun n=>{ n with kids:=n.kids++kids }
def bT(h:ah):ad:=[(h.at'+1,h.cond)]
def bG(h:ah):ad:=[(h.at',h.cond)]
def joinH(f:ad)(h:ah):ad:=join f h.at' h.cond
def joinH1(f:ad)(h:ah):ad:=join f (h.at'+1) h.cond
inductive Call where
 |line (k o:Nat) (f:ad) (slot:Nat)
 |lineL (k o:Nat) (slot:Nat) (first:Bool) (l:List M) (g out:ad)
 |lineO (k o:Nat) (slot:Nat) (ops:List ah) (l:List M) (g:ad)
 |unary (o:Nat) (f:ad) (slot:Nat)
 |unaryH (o:Nat) (h:ah) (slot:Nat)
 |calls (o:Nat) (h:ah) (slot:Nat) (xs:List ah) (names:List M) (g:ad)
 |inside (o:Nat) (f:ad) (slot:Nat)
 |listed (par:Bool) (o:Nat) (f:ad)
 |listL (par:Bool) (o:Nat) (l:List M) (g fin:ad)
 |item (par:Bool) (o:Nat) (f:ad)
 |behind (typ:Bool) (o:Nat) (f:ad) (sign:al) (slot:Nat)
 |vrb (o:Nat) (f:ad)
 |function (o:Nat) (f:ad)
 |block (o:Nat) (f:ad) (slot:Nat)
 |seqL (top:Bool) (o:Nat) (f:ad) (l:List M) (out:ad)
 |stmt (o:Nat) (h:ah)
 |sCalls (o:Nat) (h:ah) (xs:List ah) (l:List M) (g:ad)
 |branch (o:Nat) (h:ah) (slot:Nat)
 |elses (o:Nat) (xs:List ah) (l:List M) (out:ad)
 |ifs (o:Nat) (ys:List ah) (l:List M) (out:ad)
def ao:Nat:=2^40
def kh{α β:Type}(g:α->β->Option α):α->List β->Option α
 |a,[]=>some a
 |a,x::l=>match g a x with
  |some b=>kh g b l
  |none=>none
def ck(l:List M):Option Unit:=if l.length<=ao then some ()else none
def iq(l kids:List M):Option (List M):=if l.all fun n=>decide (n.kids.length+kids.length<=ao)then some (give l kids)else none
def fJ(l:List M)(d:T):List M:=l.filterMap fun n=>if n.cond.and d=ff then none else some { n with cond:=n.cond.and d,slot:=0 }
def fK(l:List M)(d:T):List M:=l.filterMap fun n=>if n.cond.and d.not=ff then none else some { n with cond:=n.cond.and d.not }
def gv(l:List M)(d:T):List M:=match l with
 | []=>[]
 |n::l=>{ n with cond:=n.cond.and d.not }::l
abbrev fG:=Call->Option aw
def gx(kind:Nat)(h:ah)(slot:Nat):M:=⟨kind,[],h.at',slot,[],h.cond⟩
section
variable (Z:List Tok) (rec:fG)
def iL(f:ad)(g:ah->Option aw):Option aw:=
 kh (fun r h=>match g h with
  |some x=>if (r.l++x.l).length<=ao then some ⟨r.l++x.l,joinAll r.f x.f,r.e++x.e⟩else none
  |none=>none) ⟨[],[],[]⟩ (ce Z f)
def line(k o:Nat)(f:ad)(slot:Nat):Option aw:=
 if k=5 then rec (.unary o f slot)
 else do
  let a <-rec (.line (k+1) o f slot)
  let b <-rec (.lineL k o slot true a.l a.f [])
  some ⟨b.l,b.f,a.e++b.e⟩
def gP(k:Nat)(h:ah):Bool:=decide (h.kind=3) && decide (fQ h.text=k)
def lineL(k o slot:Nat)(first:Bool)(l:List M)(g out:ad):Option aw:=
 if g=[]then some ⟨l,out,[]⟩
 else if k=2/\first=false then some ⟨l,joinAll out g,[]⟩
 else do
  let (ops,rest):=bM Z g (gP k)
  let a <-rec (.lineO k o slot ops l [])
  let b <-rec (.lineL k o slot false a.l a.f (joinAll out rest))
  some ⟨b.l,b.f,a.e++b.e⟩
def lineO(k o slot:Nat)(ops:List ah)(l:List M)(g:ad):Option aw:=
 match ops with
 | []=>some ⟨l,g,[]⟩
 |h::ops=>do
  let a <-rec (.line (k+1) o (bT h) 1)
  ck (fJ l h.cond++a.l)
  ck (fK l h.cond++[⟨13,h.text,h.at',slot,fJ l h.cond++a.l,h.cond⟩])
  let b <-rec (.lineO k o slot ops (fK l h.cond++[⟨13,h.text,h.at',slot,fJ l h.cond++a.l,h.cond⟩]) (joinAll g a.f))
  some ⟨b.l,b.f,a.e++b.e⟩
def unaryH(o:Nat)(h:ah)(slot:Nat):Option aw:=
 if h.text=sd\/h.text=o5 then
  if o=64 then some ⟨[],[],db h 11⟩
  else do
   let a <-rec (.unary (o+1) (bT h) 0)
   some ⟨[⟨14,h.text,h.at',slot,a.l,h.cond⟩],a.f,a.e⟩
 else if h.text=cg then rec (.inside o (bG h) slot)
 else if h.kind=2 then some ⟨[⟨15,h.text,h.at',slot,[],h.cond⟩],bT h,[]⟩
 else if h.text=o6\/h.text=qD then some ⟨[⟨16,h.text,h.at',slot,[],h.cond⟩],bT h,[]⟩
 else if h.text=tD then some ⟨[⟨17,[],h.at',slot,[],h.cond⟩],bT h,[]⟩
 else do
  let a:=named Z (bG h) 18 slot
  let (xs,g):=bM Z a.f (bg cg)
  let b <-rec (.calls o h slot xs a.l g)
  some ⟨b.l,b.f,a.e++b.e⟩
def calls(o:Nat)(h:ah)(slot:Nat)(xs:List ah)(names:List M)(g:ad):Option aw:=
 match xs with
 | []=>some ⟨names,g,[]⟩
 |x::xs=>do
  let a <-rec (.listed false o (bG x))
  ck (gv names x.cond++[⟨19,h.text,h.at',slot,a.l,x.cond⟩])
  let b <-rec (.calls o h slot xs (gv names x.cond++[⟨19,h.text,h.at',slot,a.l,x.cond⟩]) (joinAll g a.f))
  some ⟨b.l,b.f,a.e++b.e⟩
def rJ(o:Nat)(slot:Nat)(h:ah):Option aw:=
 if h.text≠cg then some ⟨[],[],db h 10⟩
 else if o=64 then some ⟨[],[],db h 11⟩
 else do
  let a <-rec (.line 0 (o+1) (bT h) slot)
  let (g,e):=take Z a.f dm
  some ⟨a.l,g,a.e++e⟩
def rN(par:Bool)(o:Nat)(h:ah):Option aw:=
 if h.text≠cg then some ⟨[],[],db h 10⟩
 else if o=64 then some ⟨[],[],db h 11⟩
 else do
  let (yes,g):=bM Z (bT h) (bg dm)
  let a <-rec (.listL par (o+1) [] g (yes.foldl joinH []))
  let (f,e):=take Z a.f dm
  some ⟨a.l,f,a.e++e⟩
def listL(par:Bool)(o:Nat)(l:List M)(g fin:ad):Option aw:=
 match g with
 | []=>some ⟨l,fin,[]⟩
 |s::g=>do
  let a <-rec (.item par o [s])
  ck (l++a.l)
  let (more,done):=bM Z a.f (bg eM)
  let b <-rec (.listL par o (l++a.l) (more.foldl joinH1 g) (joinAll fin done))
  some ⟨b.l,b.f,a.e++b.e⟩
def item(par:Bool)(o:Nat)(f:ad):Option aw:=
 if par then do
  let a:=named Z f 4 0
  let (g,e):=take Z a.f du
  let b:=hU Z g 0
  let l <-iq a.l b.l
  some ⟨l,b.f,a.e++e++b.e⟩
 else rec (.line 0 o f 0)
def zA(typ:Bool)(o:Nat)(f:ad)(slot:Nat):Option aw:=if typ then some (hU Z f slot)else rec (.line 0 o f slot)
def behind(typ:Bool)(o:Nat)(f:ad)(sign:al)(slot:Nat):Option aw:=do
 let (yes,out):=bM Z f (bg sign)
 let a <-zA Z rec typ o (yes.foldl joinH1 []) slot
 some ⟨a.l,joinAll out a.f,a.e⟩
def tH(o:Nat)(f:ad):Option aw:=do
 let a:=named Z f 2 0
 let (g1,e1):=take Z a.f du
 let b:=hU Z g1 0
 let c <-rec (.behind false o b.f iw 1)
 let g <-iq a.l b.l
 let d <-iq g c.l
 let (g2,e2):=take Z c.f bO
 some ⟨d,g2,a.e++e1++b.e++c.e++e2⟩
def function(o:Nat)(f:ad):Option aw:=do
 let a:=named Z f 3 0
 let b <-rec (.listed true o a.f)
 let c <-rec (.behind true o b.f du 1)
 let d <-rec (.block o c.f 2)
 let i <-iq a.l b.l
 let h <-iq i c.l
 let g <-iq h d.l
 some ⟨g,d.f,a.e++b.e++c.e++d.e⟩
def rq(o:Nat)(slot:Nat)(h:ah):Option aw:=
 if h.text≠qE then some ⟨[],[],db h 10⟩
 else if o=64 then some ⟨[],[],db h 11⟩
 else do
  let a <-rec (.seqL false (o+1) (bT h) [] [])
  let (f,e):=take Z a.f iR
  some ⟨[⟨6,[],h.at',slot,a.l,h.cond⟩],f,a.e++e⟩
def nP(top:Bool)(h:ah):Bool:=if top then decide (h.at'=Z.length)else decide (h.text=iR)
def vL(o:Nat)(h:ah):Option aw:=
 if h.text=mX then rec (.vrb o (bT h))
 else if h.text=tz then rec (.function o (bT h))
 else some ⟨[],[],db h 10⟩
def vz(top:Bool)(o:Nat)(h:ah):Option aw:=if top then vL rec o h else rec (.stmt o h)
def seqL(top:Bool)(o:Nat)(f:ad)(l:List M)(out:ad):Option aw:=
 match ce Z f with
 | []=>some ⟨l,out,[]⟩
 |h::hs=>
  if nP Z top h then rec (.seqL top o (hs.foldl joinH []) l (joinH out h))
  else do
   let a <-vz rec top o h
   ck (l++a.l)
   let b <-rec (.seqL top o (hs.foldl joinH (joinAll [] a.f)) (l++a.l) out)
   some ⟨b.l,b.f,a.e++b.e⟩
def stmt(o:Nat)(h:ah):Option aw:=
 if h.text=mX then rec (.vrb o (bT h))
 else if h.text=eG then rec (.branch o h 0)
 else if h.text=tF then do
  let a <-rec (.inside o (bT h) 0)
  let b <-rec (.block o a.f 1)
  let d <-iq [gx 9 h 0] a.l
  let i <-iq d b.l
  some ⟨i,b.f,a.e++b.e⟩
 else if h.text=qE then rec (.block o (bG h) 0)
 else if h.text=tE then do
  let (fin,g):=bM Z (bT h) (bg bO)
  let a <-rec (.line 0 o g 0)
  let d <-iq [gx 10 h 0] a.l
  let (f,e):=take Z (fin.foldl joinH a.f) bO
  some ⟨d,f,a.e++e⟩
 else if h.text=tC\/h.text=jF then do
  let a <-rec (.line 0 o (bT h) 0)
  let d <-iq [gx (if h.text=jF then 12 else 11) h 0] a.l
  let (f,e):=take Z a.f bO
  some ⟨d,f,a.e++e⟩
 else
  let a:=named Z (bG h) 7 0
  if a.l=[]then some ⟨[],[],a.e⟩
  else do
   let (xs,g):=bM Z a.f (bg cg)
   let (g1,e1):=take Z g iw
   let b <-rec (.line 0 o g1 0)
   let d <-iq a.l b.l
   let c <-rec (.sCalls o h xs d b.f)
   let (f,e2):=take Z c.f bO
   some ⟨c.l,f,a.e++e1++b.e++c.e++e2⟩
def sCalls(o:Nat)(h:ah)(xs:List ah)(l:List M)(g:ad):Option aw:=
 match xs with
 | []=>some ⟨l,g,[]⟩
 |x::xs=>do
  let a <-rec (.listed false o (bG x))
  ck (l++[⟨19,h.text,h.at',0,a.l,x.cond⟩])
  let b <-rec (.sCalls o h xs (gv (l++[⟨19,h.text,h.at',0,a.l,x.cond⟩]) x.cond) (joinAll g a.f))
  some ⟨b.l,b.f,a.e++b.e⟩
def branch(o:Nat)(h:ah)(slot:Nat):Option aw:=do
 let a <-rec (.inside o (bT h) 0)
 let b <-rec (.block o a.f 1)
 let g <-iq [gx 8 h slot] a.l
 let d <-iq g b.l
 let (xs,out):=bM Z b.f (bg iQ)
 let c <-rec (.elses o xs d out)
 some ⟨c.l,c.f,a.e++b.e++c.e⟩
def elses(o:Nat)(xs:List ah)(l:List M)(out:ad):Option aw:=
 match xs with
 | []=>some ⟨l,out,[]⟩
 |x::xs=>do
  let (ys,rest):=bM Z (bT x) (bg eG)
  let a <-rec (.block o rest 2)
  let d <-iq l a.l
  let b <-rec (.ifs o ys d (joinAll out a.f))
  let c <-rec (.elses o xs b.l b.f)
  some ⟨c.l,c.f,a.e++b.e++c.e⟩
def ifs(o:Nat)(ys:List ah)(l:List M)(out:ad):Option aw:=
 match ys with
 | []=>some ⟨l,out,[]⟩
 |y::ys=>
  if o=64 then do
   let b <-rec (.ifs o ys l out)
   some ⟨b.l,b.f,db y 11++b.e⟩
  else do
   let a <-rec (.branch (o+1) y 2)
   let c <-iq l a.l
   let b <-rec (.ifs o ys c (joinAll out a.f))
   some ⟨b.l,b.f,a.e++b.e⟩
def step:Call->Option aw
 | .line k o f slot=>line rec k o f slot
 | .lineL k o slot first l g out=>lineL Z rec k o slot first l g out
 | .lineO k o slot ops l g=>lineO rec k o slot ops l g
 | .unary o f slot=>iL Z f fun h=>rec (.unaryH o h slot)
 | .unaryH o h slot=>unaryH Z rec o h slot
 | .calls o h slot xs names g=>calls rec o h slot xs names g
 | .inside o f slot=>iL Z f (rJ Z rec o slot)
 | .listed par o f=>iL Z f (rN Z rec par o)
 | .listL par o l g fin=>listL Z rec par o l g fin
 | .item par o f=>item Z rec par o f
 | .behind typ o f sign slot=>behind Z rec typ o f sign slot
 | .vrb o f=>tH Z rec o f
 | .function o f=>function Z rec o f
 | .block o f slot=>iL Z f (rq Z rec o slot)
 | .seqL top o f l out=>seqL Z rec top o f l out
 | .stmt o h=>stmt Z rec o h
 | .sCalls o h xs l g=>sCalls rec o h xs l g
 | .branch o h slot=>branch Z rec o h slot
 | .elses o xs l out=>elses Z rec o xs l out
 | .ifs o ys l out=>ifs rec o ys l out
end
def run(Z:List Tok):Nat->fG
 |0=>fun _=>none
 |n+1=>step Z (run Z n)
end Syn
