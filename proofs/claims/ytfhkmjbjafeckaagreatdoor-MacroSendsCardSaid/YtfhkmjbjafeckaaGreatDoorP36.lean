/- What MicroEnabled's list of variables gives. -/
import Derived.Test.YtfhkmjbjafeckaaGreatDoorP23
set_option linter.unusedSimpArgs false
set_option linter.defProp false
namespace Go.Proofs.YtfhkmjbjafeckaaGreatDoor
open Go.RowKit Go.ChangeShapes
def Tryz.etName:Tryz.prog.globalNamed "errors.errorType" =some 9:=by kernel_rfl
def Tryz.rtRow:(Tryz.prog.cutTypes.find? (·.1 == "internal/reflectlite.rtype")).map (·.2)=some 237:=by kernel_rfl
def Tryz.errRow:((List.range Tryz.prog.types.size).filter fun t=>Tryz.prog.rowNamed t [101,114,114,111,114])=[40]:=by kernel_rfl
def Ah{W:World}{l:List (String×DataW Unit)}(h:handlesMet Tryz.prog l W)(a:("errors.errorType",Rows.laid_errors_errorType)∈l):W.cell? ⟨9,0,none⟩=some z6:=by
 obtain⟨name,u,j,c,d,e,f,b⟩:=h _ a;have g:name=[101,114,114,111,114]:=(OV c).symm;subst g;obtain rfl:=OV (Tryz.rtRow.symm.trans d);have a:j∈(List.range Tryz.prog.types.size).filter fun t=>Tryz.prog.rowNamed t [101,114,114,111,114]:=ND.2 ⟨NX.2 e,f⟩;rw[Tryz.errRow]at a;obtain rfl:=NO.1 a;have i:typeHandle Tryz.prog 40= .pointer (some ⟨11,40,none⟩):=by kernel_rfl
 rw[i]at b;simpa using R8 Tryz.etName b 0
def xC{W:World}(h:laidMetH Tryz.prog [("math/bits.deBruijn32tab",Rows.laid_math_bits_deBruijn32tab),("errors.errorType",Rows.laid_errors_errorType),("scrinium/api.ErrForm",Rows.laid_scrinium_api_ErrForm),("scrinium/api.ErrRange",Rows.laid_scrinium_api_ErrRange),("scrinium/api.ErrFull",Rows.laid_scrinium_api_ErrFull),("scrinium/api.ErrNone",Rows.laid_scrinium_api_ErrNone),("scrinium/api.ErrCorrupt",Rows.laid_scrinium_api_ErrCorrupt),("scrinium/api.ErrFuel",Rows.laid_scrinium_api_ErrFuel),("scrinium/api.ErrState",Rows.laid_scrinium_api_ErrState),("scrinium/api.ErrLong",Rows.laid_scrinium_api_ErrLong),("scrinium/api.ErrTwice",Rows.laid_scrinium_api_ErrTwice)] W):(∃l,sh W l)/\wg W/\W.cell? ⟨9,0,none⟩=some z6:=by
 have k:laidMet Tryz.prog [("math/bits.deBruijn32tab",Rows.laid_math_bits_deBruijn32tab),("scrinium/api.ErrForm",Rows.laid_scrinium_api_ErrForm),("scrinium/api.ErrRange",Rows.laid_scrinium_api_ErrRange),("scrinium/api.ErrFull",Rows.laid_scrinium_api_ErrFull),("scrinium/api.ErrNone",Rows.laid_scrinium_api_ErrNone),("scrinium/api.ErrCorrupt",Rows.laid_scrinium_api_ErrCorrupt),("scrinium/api.ErrFuel",Rows.laid_scrinium_api_ErrFuel),("scrinium/api.ErrState",Rows.laid_scrinium_api_ErrState),("scrinium/api.ErrLong",Rows.laid_scrinium_api_ErrLong),("scrinium/api.ErrTwice",Rows.laid_scrinium_api_ErrTwice)] W/\handlesMet Tryz.prog [("errors.errorType",Rows.laid_errors_errorType)] W:=h;have n:=Ah k.2 (by simp);obtain⟨t,p,f,c⟩:=k.1;obtain⟨r,t0,m,f0,s,q,e,g,i,d,a,rfl⟩:=p;refine⟨vT ?_,Lr e g i d,n⟩;rw[MakeChecks.laidMetH_plain _ _ _ (by kernel_rfl)];exact⟨q,a,(Ov.1 f).2.1,fun b j o=>c b j (PH _ o)⟩
end Go.Proofs.YtfhkmjbjafeckaaGreatDoor
