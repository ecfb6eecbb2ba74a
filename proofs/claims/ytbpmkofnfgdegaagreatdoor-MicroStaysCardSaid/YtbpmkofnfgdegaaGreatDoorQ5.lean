/- The facts of evaluation. No program is named here. -/
import Derived.Test.YtbpmkofnfgdegaaGreatDoorProg
import Derived.Test.YtbpmkofnfgdegaaGreatDoorQ4
import Derived.Test.YtbpmkofnfgdegaaGreatDoorQ1
import Derived.Deep.Slices
import Derived.Lib.SmallJoins
import Derived.ChangeSame
import Derived.LaidEql
import Derived.Stop.Asserts
set_option maxRecDepth 100000
set_option maxHeartbeats 1000000
set_option linter.unusedSimpArgs false
namespace Go.Proofs.YtbpmkofnfgdegaaGreatDoor
open Go.Proofs.Tryz
section
open Go.RowKit
@[go_sem] theorem Tryz.tyd2:tyD prog 2=some ⟨.int .i64,1,[.int .i64 0]⟩:=by kernel_rfl
@[go_sem] theorem Tryz.tyd3:tyD prog 3=some ⟨.int .i64,1,[.int .i64 0]⟩:=by kernel_rfl
@[go_sem] theorem Tryz.tyd4:tyD prog 4=some ⟨.bool,1,[.bool false]⟩:=by kernel_rfl
@[go_sem] theorem Tryz.tyd5:tyD prog 5=some ⟨.int .u8,1,[.int .u8 0]⟩:=by kernel_rfl
@[go_sem] theorem Tryz.tyd6:tyD prog 6=some ⟨.int .u8,1,[.int .u8 0]⟩:=by kernel_rfl
@[go_sem] theorem Tryz.tyd7:tyD prog 7=some ⟨.struct [(0,2,1),(1,3,1),(2,4,1),(3,6,1)] true,4,[.int .i64 0, .int .i64 0, .bool false, .int .u8 0]⟩:=by kernel_rfl
@[go_sem] theorem Tryz.tyd8:tyD prog 8=some ⟨.struct [(0,2,1),(1,3,1),(2,4,1),(3,6,1)] true,4,[.int .i64 0, .int .i64 0, .bool false, .int .u8 0]⟩:=by kernel_rfl
@[go_sem] theorem Tryz.tyd9:tyD prog 9=some ⟨.string,1,[.string ⟨#[]⟩]⟩:=by kernel_rfl
@[go_sem] theorem Tryz.tyd10:tyD prog 10=some ⟨.string,1,[.string ⟨#[]⟩]⟩:=by kernel_rfl
@[go_sem] theorem Tryz.tyd11:tyD prog 11=some ⟨.string,1,[.string ⟨#[]⟩]⟩:=by kernel_rfl
@[go_sem] theorem Tryz.tyd12:tyD prog 12=some ⟨.int .u64,1,[.int .u64 0]⟩:=by kernel_rfl
@[go_sem] theorem Tryz.tyd13:tyD prog 13=some ⟨.struct [(0,9,1),(1,12,1)] false,2,[.string ⟨#[]⟩, .int .u64 0]⟩:=by kernel_rfl
@[go_sem] theorem Tryz.tyd14:tyD prog 14=some ⟨.struct [(0,9,1),(1,12,1)] false,2,[.string ⟨#[]⟩, .int .u64 0]⟩:=by kernel_rfl
@[go_sem] theorem Tryz.tyd15:tyD prog 15=some ⟨.ptr,1,[.pointer none]⟩:=by kernel_rfl
@[go_sem] theorem Tryz.tyd16:tyD prog 16=some ⟨.ptr,1,[.pointer none]⟩:=by kernel_rfl
@[go_sem] theorem Tryz.tyd17:tyD prog 17=some ⟨.ptr,1,[.pointer none]⟩:=by kernel_rfl
@[go_sem] theorem Tryz.tyd18:tyD prog 18=some ⟨.struct [(0,17,1)] false,1,[.pointer none]⟩:=by kernel_rfl
@[go_sem] theorem Tryz.tyd19:tyD prog 19=some ⟨.struct [(0,17,1)] false,1,[.pointer none]⟩:=by kernel_rfl
@[go_sem] theorem Tryz.tyd20:tyD prog 20=some ⟨.iface,1,[.nilIface]⟩:=by kernel_rfl
@[go_sem] theorem Tryz.tyd21:tyD prog 21=some ⟨.int .i32,1,[.int .i32 0]⟩:=by kernel_rfl
@[go_sem] theorem Tryz.tyd22:tyD prog 22=some ⟨.slice 110 2 24 [.string ⟨#[]⟩, .int .i64 0],1,[.slice none 0 0]⟩:=by kernel_rfl
@[go_sem] theorem Tryz.tyd23:tyD prog 23=some ⟨.slice 72 6 88 [.string ⟨#[]⟩, .int .i64 0, .int .i64 0, .int .i64 0, .slice none 0 0, .slice none 0 0],1,[.slice none 0 0]⟩:=by kernel_rfl
@[go_sem] theorem Tryz.tyd24:tyD prog 24=some ⟨.slice 52 5 80 [.int .i64 0, .string ⟨#[]⟩, .slice none 0 0, .slice none 0 0, .int .i64 0],1,[.slice none 0 0]⟩:=by kernel_rfl
@[go_sem] theorem Tryz.tyd25:tyD prog 25=some ⟨.struct [(0,9,1),(1,3,1),(2,22,1),(3,23,1),(4,24,1)] true,5,[.string ⟨#[]⟩, .int .i64 0, .slice none 0 0, .slice none 0 0, .slice none 0 0]⟩:=by kernel_rfl
@[go_sem] theorem Tryz.tyd26:tyD prog 26=some ⟨.struct [(0,9,1),(1,3,1),(2,22,1),(3,23,1),(4,24,1)] true,5,[.string ⟨#[]⟩, .int .i64 0, .slice none 0 0, .slice none 0 0, .slice none 0 0]⟩:=by kernel_rfl
@[go_sem] theorem Tryz.tyd27:tyD prog 27=some ⟨.slice 3 1 8 [.int .i64 0],1,[.slice none 0 0]⟩:=by kernel_rfl
@[go_sem] theorem Tryz.tyd28:tyD prog 28=some ⟨.slice 130 2 32 [.int .i64 0, .slice none 0 0],1,[.slice none 0 0]⟩:=by kernel_rfl
@[go_sem] theorem Tryz.tyd29:tyD prog 29=some ⟨.slice 86 2 24 [.string ⟨#[]⟩, .int .i64 0],1,[.slice none 0 0]⟩:=by kernel_rfl
@[go_sem] theorem Tryz.tyd30:tyD prog 30=some ⟨.struct [(0,27,1),(1,27,1),(2,28,1),(3,29,1),(4,4,1)] true,5,[.slice none 0 0, .slice none 0 0, .slice none 0 0, .slice none 0 0, .bool false]⟩:=by kernel_rfl
@[go_sem] theorem Tryz.tyd31:tyD prog 31=some ⟨.struct [(0,27,1),(1,27,1),(2,28,1),(3,29,1),(4,4,1)] true,5,[.slice none 0 0, .slice none 0 0, .slice none 0 0, .slice none 0 0, .bool false]⟩:=by kernel_rfl
@[go_sem] theorem Tryz.tyd32:tyD prog 32=some ⟨.struct [(0,26,5),(5,31,5),(10,9,1),(11,3,1),(12,3,1)] true,13,[.string ⟨#[]⟩, .int .i64 0, .slice none 0 0, .slice none 0 0, .slice none 0 0, .slice none 0 0, .slice none 0 0, .slice none 0 0, .slice none 0 0, .bool false, .string ⟨#[]⟩, .int .i64 0, .int .i64 0]⟩:=by kernel_rfl
@[go_sem] theorem Tryz.tyd33:tyD prog 33=some ⟨.struct [(0,26,5),(5,31,5),(10,9,1),(11,3,1),(12,3,1)] true,13,[.string ⟨#[]⟩, .int .i64 0, .slice none 0 0, .slice none 0 0, .slice none 0 0, .slice none 0 0, .slice none 0 0, .slice none 0 0, .slice none 0 0, .bool false, .string ⟨#[]⟩, .int .i64 0, .int .i64 0]⟩:=by kernel_rfl
@[go_sem] theorem Tryz.tyd34:tyD prog 34=some ⟨.ptr,1,[.pointer none]⟩:=by kernel_rfl
@[go_sem] theorem Tryz.tyd39:tyD prog 39=some ⟨.slice 114 2 24 [.string ⟨#[]⟩, .int .i64 0],1,[.slice none 0 0]⟩:=by kernel_rfl
@[go_sem] theorem Tryz.tyd40:tyD prog 40=some ⟨.struct [(0,27,1),(1,39,1)] true,2,[.slice none 0 0, .slice none 0 0]⟩:=by kernel_rfl
@[go_sem] theorem Tryz.tyd41:tyD prog 41=some ⟨.struct [(0,27,1),(1,39,1)] true,2,[.slice none 0 0, .slice none 0 0]⟩:=by kernel_rfl
@[go_sem] theorem Tryz.tyd42:tyD prog 42=some ⟨.iface,1,[.nilIface]⟩:=by kernel_rfl
@[go_sem] theorem Tryz.tyd43:tyD prog 43=some ⟨.iface,1,[.nilIface]⟩:=by kernel_rfl
@[go_sem] theorem Tryz.tyd49:tyD prog 49=some ⟨.slice 165 2 16 [.int .i64 0, .int .i64 0],1,[.slice none 0 0]⟩:=by kernel_rfl
@[go_sem] theorem Tryz.tyd50:tyD prog 50=some ⟨.slice 156 4 56 [.int .i64 0, .int .i64 0, .string ⟨#[]⟩, .slice none 0 0],1,[.slice none 0 0]⟩:=by kernel_rfl
@[go_sem] theorem Tryz.tyd51:tyD prog 51=some ⟨.struct [(0,3,1),(1,9,1),(2,49,1),(3,50,1),(4,3,1)] true,5,[.int .i64 0, .string ⟨#[]⟩, .slice none 0 0, .slice none 0 0, .int .i64 0]⟩:=by kernel_rfl
@[go_sem] theorem Tryz.tyd52:tyD prog 52=some ⟨.struct [(0,3,1),(1,9,1),(2,49,1),(3,50,1),(4,3,1)] true,5,[.int .i64 0, .string ⟨#[]⟩, .slice none 0 0, .slice none 0 0, .int .i64 0]⟩:=by kernel_rfl
@[go_sem] theorem Tryz.tyd58:tyD prog 58=some ⟨.struct [(0,31,5),(5,27,1),(6,39,1),(7,3,1),(8,3,1),(9,3,1),(10,3,1)] true,11,[.slice none 0 0, .slice none 0 0, .slice none 0 0, .slice none 0 0, .bool false, .slice none 0 0, .slice none 0 0, .int .i64 0, .int .i64 0, .int .i64 0, .int .i64 0]⟩:=by kernel_rfl
@[go_sem] theorem Tryz.tyd59:tyD prog 59=some ⟨.struct [(0,31,5),(5,27,1),(6,39,1),(7,3,1),(8,3,1),(9,3,1),(10,3,1)] true,11,[.slice none 0 0, .slice none 0 0, .slice none 0 0, .slice none 0 0, .bool false, .slice none 0 0, .slice none 0 0, .int .i64 0, .int .i64 0, .int .i64 0, .int .i64 0]⟩:=by kernel_rfl
@[go_sem] theorem Tryz.tyd71:tyD prog 71=some ⟨.struct [(0,9,1),(1,3,1),(2,3,1),(3,3,1),(4,50,1),(5,50,1)] true,6,[.string ⟨#[]⟩, .int .i64 0, .int .i64 0, .int .i64 0, .slice none 0 0, .slice none 0 0]⟩:=by kernel_rfl
@[go_sem] theorem Tryz.tyd72:tyD prog 72=some ⟨.struct [(0,9,1),(1,3,1),(2,3,1),(3,3,1),(4,50,1),(5,50,1)] true,6,[.string ⟨#[]⟩, .int .i64 0, .int .i64 0, .int .i64 0, .slice none 0 0, .slice none 0 0]⟩:=by kernel_rfl
@[go_sem] theorem Tryz.tyd75:tyD prog 75=some ⟨.ptr,1,[.pointer none]⟩:=by kernel_rfl
@[go_sem] theorem Tryz.tyd78:tyD prog 78=some ⟨.struct [(0,31,5),(5,41,2),(7,34,1),(8,26,5),(13,3,1),(14,3,1)] true,15,[.slice none 0 0, .slice none 0 0, .slice none 0 0, .slice none 0 0, .bool false, .slice none 0 0, .slice none 0 0, .pointer none, .string ⟨#[]⟩, .int .i64 0, .slice none 0 0, .slice none 0 0, .slice none 0 0, .int .i64 0, .int .i64 0]⟩:=by kernel_rfl
@[go_sem] theorem Tryz.tyd79:tyD prog 79=some ⟨.struct [(0,31,5),(5,41,2),(7,34,1),(8,26,5),(13,3,1),(14,3,1)] true,15,[.slice none 0 0, .slice none 0 0, .slice none 0 0, .slice none 0 0, .bool false, .slice none 0 0, .slice none 0 0, .pointer none, .string ⟨#[]⟩, .int .i64 0, .slice none 0 0, .slice none 0 0, .slice none 0 0, .int .i64 0, .int .i64 0]⟩:=by kernel_rfl
@[go_sem] theorem Tryz.tyd85:tyD prog 85=some ⟨.struct [(0,9,1),(1,3,1)] true,2,[.string ⟨#[]⟩, .int .i64 0]⟩:=by kernel_rfl
@[go_sem] theorem Tryz.tyd86:tyD prog 86=some ⟨.struct [(0,9,1),(1,3,1)] true,2,[.string ⟨#[]⟩, .int .i64 0]⟩:=by kernel_rfl
@[go_sem] theorem Tryz.tyd105:tyD prog 105=some ⟨.slice 4 1 1 [.bool false],1,[.slice none 0 0]⟩:=by kernel_rfl
@[go_sem] theorem Tryz.tyd106:tyD prog 106=some ⟨.struct [(0,27,1),(1,3,1),(2,105,1)] true,3,[.slice none 0 0, .int .i64 0, .slice none 0 0]⟩:=by kernel_rfl
@[go_sem] theorem Tryz.tyd107:tyD prog 107=some ⟨.struct [(0,27,1),(1,3,1),(2,105,1)] true,3,[.slice none 0 0, .int .i64 0, .slice none 0 0]⟩:=by kernel_rfl
@[go_sem] theorem Tryz.tyd109:tyD prog 109=some ⟨.struct [(0,9,1),(1,3,1)] true,2,[.string ⟨#[]⟩, .int .i64 0]⟩:=by kernel_rfl
@[go_sem] theorem Tryz.tyd110:tyD prog 110=some ⟨.struct [(0,9,1),(1,3,1)] true,2,[.string ⟨#[]⟩, .int .i64 0]⟩:=by kernel_rfl
@[go_sem] theorem Tryz.tyd113:tyD prog 113=some ⟨.struct [(0,9,1),(1,3,1)] true,2,[.string ⟨#[]⟩, .int .i64 0]⟩:=by kernel_rfl
@[go_sem] theorem Tryz.tyd114:tyD prog 114=some ⟨.struct [(0,9,1),(1,3,1)] true,2,[.string ⟨#[]⟩, .int .i64 0]⟩:=by kernel_rfl
@[go_sem] theorem Tryz.tyd115:tyD prog 115=some ⟨.ptr,1,[.pointer none]⟩:=by kernel_rfl
@[go_sem] theorem Tryz.tyd118:tyD prog 118=some ⟨.slice 9 1 16 [.string ⟨#[]⟩],1,[.slice none 0 0]⟩:=by kernel_rfl
@[go_sem] theorem Tryz.tyd120:tyD prog 120=some ⟨.map 126 27 (.slice none 0 0),1,[.map none]⟩:=by kernel_rfl
@[go_sem] theorem Tryz.tyd121:tyD prog 121=some ⟨.slice 27 1 24 [.slice none 0 0],1,[.slice none 0 0]⟩:=by kernel_rfl
@[go_sem] theorem Tryz.tyd122:tyD prog 122=some ⟨.struct [(0,26,5),(5,115,1),(6,118,1),(7,120,1),(8,121,1)] true,9,[.string ⟨#[]⟩, .int .i64 0, .slice none 0 0, .slice none 0 0, .slice none 0 0, .pointer none, .slice none 0 0, .map none, .slice none 0 0]⟩:=by kernel_rfl
@[go_sem] theorem Tryz.tyd123:tyD prog 123=some ⟨.struct [(0,26,5),(5,115,1),(6,118,1),(7,120,1),(8,121,1)] true,9,[.string ⟨#[]⟩, .int .i64 0, .slice none 0 0, .slice none 0 0, .slice none 0 0, .pointer none, .slice none 0 0, .map none, .slice none 0 0]⟩:=by kernel_rfl
@[go_sem] theorem Tryz.tyd125:tyD prog 125=some ⟨.struct [(0,3,1),(1,3,1)] true,2,[.int .i64 0, .int .i64 0]⟩:=by kernel_rfl
@[go_sem] theorem Tryz.tyd126:tyD prog 126=some ⟨.struct [(0,3,1),(1,3,1)] true,2,[.int .i64 0, .int .i64 0]⟩:=by kernel_rfl
@[go_sem] theorem Tryz.tyd129:tyD prog 129=some ⟨.struct [(0,3,1),(1,27,1)] true,2,[.int .i64 0, .slice none 0 0]⟩:=by kernel_rfl
@[go_sem] theorem Tryz.tyd130:tyD prog 130=some ⟨.struct [(0,3,1),(1,27,1)] true,2,[.int .i64 0, .slice none 0 0]⟩:=by kernel_rfl
@[go_sem] theorem Tryz.tyd138:tyD prog 138=some ⟨.ptr,1,[.pointer none]⟩:=by kernel_rfl
@[go_sem] theorem Tryz.tyd139:tyD prog 139=some ⟨.struct [(0,9,1),(1,3,1),(2,43,1)] false,3,[.string ⟨#[]⟩, .int .i64 0, .nilIface]⟩:=by kernel_rfl
@[go_sem] theorem Tryz.tyd140:tyD prog 140=some ⟨.struct [(0,9,1),(1,3,1),(2,43,1)] false,3,[.string ⟨#[]⟩, .int .i64 0, .nilIface]⟩:=by kernel_rfl
@[go_sem] theorem Tryz.tyd155:tyD prog 155=some ⟨.struct [(0,3,1),(1,3,1),(2,9,1),(3,49,1)] true,4,[.int .i64 0, .int .i64 0, .string ⟨#[]⟩, .slice none 0 0]⟩:=by kernel_rfl
@[go_sem] theorem Tryz.tyd156:tyD prog 156=some ⟨.struct [(0,3,1),(1,3,1),(2,9,1),(3,49,1)] true,4,[.int .i64 0, .int .i64 0, .string ⟨#[]⟩, .slice none 0 0]⟩:=by kernel_rfl
@[go_sem] theorem Tryz.tyd164:tyD prog 164=some ⟨.struct [(0,3,1),(1,3,1)] true,2,[.int .i64 0, .int .i64 0]⟩:=by kernel_rfl
@[go_sem] theorem Tryz.tyd165:tyD prog 165=some ⟨.struct [(0,3,1),(1,3,1)] true,2,[.int .i64 0, .int .i64 0]⟩:=by kernel_rfl
@[go_sem] theorem Tryz.tyd169:tyD prog 169=some ⟨.slice 171 1 4 [.int .u32 0],1,[.slice none 0 0]⟩:=by kernel_rfl
@[go_sem] theorem Tryz.tyd170:tyD prog 170=some ⟨.int .u32,1,[.int .u32 0]⟩:=by kernel_rfl
@[go_sem] theorem Tryz.tyd171:tyD prog 171=some ⟨.int .u32,1,[.int .u32 0]⟩:=by kernel_rfl
@[go_sem] theorem Tryz.tyd172:tyD prog 172=some ⟨.struct [(0,27,1),(1,27,1),(2,169,1),(3,169,1),(4,27,1),(5,27,1),(6,171,1)] true,7,[.slice none 0 0, .slice none 0 0, .slice none 0 0, .slice none 0 0, .slice none 0 0, .slice none 0 0, .int .u32 0]⟩:=by kernel_rfl
@[go_sem] theorem Tryz.tyd173:tyD prog 173=some ⟨.struct [(0,27,1),(1,27,1),(2,169,1),(3,169,1),(4,27,1),(5,27,1),(6,171,1)] true,7,[.slice none 0 0, .slice none 0 0, .slice none 0 0, .slice none 0 0, .slice none 0 0, .slice none 0 0, .int .u32 0]⟩:=by kernel_rfl
@[go_sem] theorem Tryz.tyd199:tyD prog 199=some ⟨.struct [(0,27,1),(1,3,1),(2,105,1)] true,3,[.slice none 0 0, .int .i64 0, .slice none 0 0]⟩:=by kernel_rfl
@[go_sem] theorem Tryz.tyd203:tyD prog 203=some ⟨.iface,1,[.nilIface]⟩:=by kernel_rfl
@[go_sem] theorem Tryz.tyd204:tyD prog 204=some ⟨.iface,1,[.nilIface]⟩:=by kernel_rfl
@[go_sem] theorem Tryz.tyd223:tyD prog 223=some ⟨.int .u64,1,[.int .u64 0]⟩:=by kernel_rfl
@[go_sem] theorem Tryz.tyd235:tyD prog 235=some ⟨.struct [(0,17,1)] false,1,[.pointer none]⟩:=by kernel_rfl
@[go_sem] theorem Tryz.tyd236:tyD prog 236=some ⟨.struct [(0,17,1)] false,1,[.pointer none]⟩:=by kernel_rfl
@[go_sem] theorem Tryz.tyd237:tyD prog 237=some ⟨.ptr,1,[.pointer none]⟩:=by kernel_rfl
@[go_sem] theorem Tryz.tyd238:tyD prog 238=some ⟨.iface,1,[.nilIface]⟩:=by kernel_rfl
@[go_sem] theorem Tryz.tyd241:tyD prog 241=some ⟨.iface,1,[.nilIface]⟩:=by kernel_rfl
@[go_sem] theorem Tryz.tyd242:tyD prog 242=some ⟨.iface,1,[.nilIface]⟩:=by kernel_rfl
@[go_sem] theorem Tryz.tyd243:tyD prog 243=some ⟨.slice 43 1 16 [.nilIface],1,[.slice none 0 0]⟩:=by kernel_rfl
@[go_sem] theorem Tryz.tyd250:tyD prog 250=some ⟨.arr 32 5 1,32,[.int .u8 0, .int .u8 0, .int .u8 0, .int .u8 0, .int .u8 0, .int .u8 0, .int .u8 0, .int .u8 0, .int .u8 0, .int .u8 0, .int .u8 0, .int .u8 0, .int .u8 0, .int .u8 0, .int .u8 0, .int .u8 0, .int .u8 0, .int .u8 0, .int .u8 0, .int .u8 0, .int .u8 0, .int .u8 0, .int .u8 0, .int .u8 0, .int .u8 0, .int .u8 0, .int .u8 0, .int .u8 0, .int .u8 0, .int .u8 0, .int .u8 0, .int .u8 0]⟩:=by kernel_rfl
@[go_sem] theorem Tryz.tyd252:tyD prog 252=some ⟨.int .i64,1,[.int .i64 0]⟩:=by kernel_rfl
@[go_sem] theorem Tryz.tyd259:tyD prog 259=some ⟨.int .u64,1,[.int .u64 0]⟩:=by kernel_rfl
@[go_sem] theorem Tryz.tyd264:tyD prog 264=some ⟨.map 3 3 (.int .i64 0),1,[.map none]⟩:=by kernel_rfl
@[go_sem] theorem Tryz.tyd283:tyD prog 283=some ⟨.int .u64,1,[.int .u64 0]⟩:=by kernel_rfl
@[go_sem] theorem Tryz.tyd287:tyD prog 287=some ⟨.ptr,1,[.pointer none]⟩:=by kernel_rfl
@[go_sem] theorem Tryz.tyd296:tyD prog 296=some ⟨.ptr,1,[.pointer none]⟩:=by kernel_rfl
@[go_sem] theorem Tryz.tyd309:tyD prog 309=some ⟨.ptr,1,[.pointer none]⟩:=by kernel_rfl
@[go_sem] theorem Tryz.tyd311:tyD prog 311=some ⟨.struct [(0,17,1),(1,17,1),(2,17,1),(3,9,1)] false,4,[.pointer none, .pointer none, .pointer none, .string ⟨#[]⟩]⟩:=by kernel_rfl
@[go_sem] theorem Tryz.tyd312:tyD prog 312=some ⟨.struct [(0,17,1),(1,17,1),(2,17,1),(3,9,1)] false,4,[.pointer none, .pointer none, .pointer none, .string ⟨#[]⟩]⟩:=by kernel_rfl
@[go_sem] theorem Tryz.tyd313:tyD prog 313=some ⟨.arr 0 16 1,0,[]⟩:=by kernel_rfl
@[go_sem] theorem Tryz.tyd314:tyD prog 314=some ⟨.struct [(0,313,0)] false,0,[]⟩:=by kernel_rfl
@[go_sem] theorem Tryz.tyd315:tyD prog 315=some ⟨.struct [(0,313,0)] false,0,[]⟩:=by kernel_rfl
@[go_sem] theorem Tryz.tyd316:tyD prog 316=some ⟨.int .u8,1,[.int .u8 0]⟩:=by kernel_rfl
@[go_sem] theorem Tryz.tyd317:tyD prog 317=some ⟨.int .u8,1,[.int .u8 0]⟩:=by kernel_rfl
@[go_sem] theorem Tryz.tyd319:tyD prog 319=some ⟨.ptr,1,[.pointer none]⟩:=by kernel_rfl
@[go_sem] theorem Tryz.tyd320:tyD prog 320=some ⟨.int .i32,1,[.int .i32 0]⟩:=by kernel_rfl
@[go_sem] theorem Tryz.tyd321:tyD prog 321=some ⟨.int .i32,1,[.int .i32 0]⟩:=by kernel_rfl
@[go_sem] theorem Tryz.tyd322:tyD prog 322=some ⟨.struct [(0,12,1),(1,12,1),(2,170,1),(3,316,1),(4,5,1),(5,5,1),(6,317,1),(7,318,1),(8,319,1),(9,320,1),(10,321,1)] false,11,[.int .u64 0, .int .u64 0, .int .u32 0, .int .u8 0, .int .u8 0, .int .u8 0, .int .u8 0, .nilFunc, .pointer none, .int .i32 0, .int .i32 0]⟩:=by kernel_rfl
@[go_sem] theorem Tryz.tyd323:tyD prog 323=some ⟨.struct [(0,12,1),(1,12,1),(2,170,1),(3,316,1),(4,5,1),(5,5,1),(6,317,1),(7,318,1),(8,319,1),(9,320,1),(10,321,1)] false,11,[.int .u64 0, .int .u64 0, .int .u32 0, .int .u8 0, .int .u8 0, .int .u8 0, .int .u8 0, .nilFunc, .pointer none, .int .i32 0, .int .i32 0]⟩:=by kernel_rfl
@[go_sem] theorem Tryz.tyd330:tyD prog 330=some ⟨.struct [(0,9,1),(1,317,1)] false,2,[.string ⟨#[]⟩, .int .u8 0]⟩:=by kernel_rfl
@[go_sem] theorem Tryz.tyd331:tyD prog 331=some ⟨.struct [(0,9,1),(1,317,1)] false,2,[.string ⟨#[]⟩, .int .u8 0]⟩:=by kernel_rfl
@[go_sem] theorem Tryz.tyd332:tyD prog 332=some ⟨.struct [(0,9,1)] true,1,[.string ⟨#[]⟩]⟩:=by kernel_rfl
@[go_sem] theorem Tryz.tyd333:tyD prog 333=some ⟨.struct [(0,9,1)] true,1,[.string ⟨#[]⟩]⟩:=by kernel_rfl
@[go_sem] theorem Tryz.tyd335:tyD prog 335=some ⟨.ptr,1,[.pointer none]⟩:=by kernel_rfl
@[go_sem] theorem Tryz.tyd337:tyD prog 337=some ⟨.int .u16,1,[.int .u16 0]⟩:=by kernel_rfl
@[go_sem] theorem Tryz.tyd338:tyD prog 338=some ⟨.struct [(0,320,1),(1,337,1),(2,337,1),(3,170,1),(4,170,1)] false,5,[.int .i32 0, .int .u16 0, .int .u16 0, .int .u32 0, .int .u32 0]⟩:=by kernel_rfl
@[go_sem] theorem Tryz.tyd339:tyD prog 339=some ⟨.struct [(0,320,1),(1,337,1),(2,337,1),(3,170,1),(4,170,1)] false,5,[.int .i32 0, .int .u16 0, .int .u16 0, .int .u32 0, .int .u32 0]⟩:=by kernel_rfl
@[go_sem] theorem Tryz.tyd340:tyD prog 340=some ⟨.slice 343 4 16 [.int .i32 0, .int .i32 0, .int .i32 0, .int .i32 0],1,[.slice none 0 0]⟩:=by kernel_rfl
@[go_sem] theorem Tryz.tyd341:tyD prog 341=some ⟨.int .i32,1,[.int .i32 0]⟩:=by kernel_rfl
@[go_sem] theorem Tryz.tyd342:tyD prog 342=some ⟨.struct [(0,320,1),(1,321,1),(2,341,1),(3,341,1)] false,4,[.int .i32 0, .int .i32 0, .int .i32 0, .int .i32 0]⟩:=by kernel_rfl
@[go_sem] theorem Tryz.tyd343:tyD prog 343=some ⟨.struct [(0,320,1),(1,321,1),(2,341,1),(3,341,1)] false,4,[.int .i32 0, .int .i32 0, .int .i32 0, .int .i32 0]⟩:=by kernel_rfl
theorem mixed:prog.follows .mixedOrders=true:=by kernel_rfl
end
section
open Go.RowKit
theorem Sim.nilRow {x:Ctx} {s:St} {a:Act} {w:World} {m:Mem} (h:Sim x s a w m) (r t:Nat) (e:TypeId) (sz:Nat) (hsz:0<sz) (ht:s.f t= .lit (.slice none 0 0)):
 Sim x ((s.renew r ⟨sz,[],e,true⟩ false).put (some t) (.row r (s.vs r+1))) a w ⟨m.S,upd m.ρ r (.slice none 0 0)⟩:=by
 have h1:=h.renew r ⟨sz,[],e,true⟩ false (.slice none 0 0) m.S (Below.refl _ _) (fun b o hh=>⟨hh, .rfl⟩) (fun b o hh=> .inl hh) (fun k row' hk hr g hg=>⟨rfl,by simp[Value.ownBlock],fun o hh=>hh⟩)
  (.inl ⟨hsz,fun i e' he=>by simp at he,⟨[],by simp only[upd_same];exact World.ownsRow_nil _ _ _ _,by simp,fun i j c hc=>by simp[cellAt]at hc⟩,(fun he=>by simp[St.renew,upd_same]at he),(fun g hg=>by simp[upd_same,Value.ownBlock]at hg),(fun _ g hg=>by simp[upd_same,Value.ownBlock]at hg)⟩) (fun b _=>⟨rfl,fun _ hh=>hh,by simp[Value.ownBlock]⟩)
 refine { h1 with dfs:=h1.dfs,siz:=h1.siz,slot:=fun t'=> ?_,rows:=fun r' row hr=> ?_ }
 ·have key:RL w ⟨m.S,upd m.ρ r (.slice none 0 0)⟩ (s.renew r ⟨sz,[],e,true⟩ false) (a.tmps.getD t' undef) (upd (s.renew r ⟨sz,[],e,true⟩ false).f t (.row r (s.vs r+1)) t'):=by
   by_cases e1:t'=t
   ·subst e1;rw[upd_same];have hv:=h.slot t';rw[ht]at hv;have hv:=hv.lit_;rw[hv];exact .row r (s.vs r+1) rfl (by simp[St.renew,upd_same]) fun _ row _=>by simp[upd_same]
   ·rw[upd_ne _ _ _ e1];exact h1.slot t'
  exact RL.put key (some t) _
 ·exact(h1.rows r' row hr).mono (s':=(s.renew r ⟨sz,[],e,true⟩ false).put (some t) (.row r (s.vs r+1))) (fun b o hb=>⟨hb, .rfl⟩) (fun _=>Nat.le_refl _) (fun r row' _ hr=>⟨row',hr,rfl,rfl⟩) rfl (fun _ _=>rfl) rfl (fun _ _ _ hh=>hh)
section
variable {P:Program} {env:Env} {nt:Nat} {Q:Exit->St->Prop} {s:St}
theorem zap {c:Code} (r t:Nat) (e:TypeId) (sz:Nat) (h:awp P env nt c Q ((s.renew r ⟨sz,[],e,true⟩ false).put (some t) (.row r (s.vs r+1)))) (hsz:0<sz:=by decide) (ht:Is (s.f t) (.lit (.slice none 0 0)):=by simp only[go_sem,reduceIte, ↓reduceIte,Nat.reduceEqDiff,reduceCtorEq];exact iR):awp P env nt c Q s:=
 fun ro x he hn a w _ hS=>h ro x he hn a w _ (hS.nilRow r t e sz hsz ht)
theorem RStr.own_nil (e:TypeId) (sz:Nat) (hsz:0<sz):RStr (.lit (.slice none 0 0)) (.own e sz []):=fun S w base v hr=>by
 have hv:v= .slice none 0 0:=by
  have hr:RV S w v (.lit (.slice none 0 0)):=hr;cases hr;rfl
 subst hv;exact⟨[],World.ownsRow_nil _ _ _ _,hsz,⟨by simp,by simp,fun i e he=>by simp at he,fun i j c hc=>by simp[cellAt]at hc⟩,fun g hg=>by simp[Value.ownBlock]at hg⟩
end
end
section
open Go.RowKit
abbrev I (n:Int):AV:= .lit (.int .i64 n)
abbrev U (n:Int):AV:= .lit (.int .u64 n)
abbrev B (b:Bool):AV:= .lit (.bool b)
abbrev Sg (s:List UInt8):AV:= .lit (.string ⟨s.toArray⟩)
abbrev nilS:AV:= .lit (.slice none 0 0)
end
section
open Go.RowKit Go.ChangeShapes Go.WideShapes Go.Deep
def zty {α:Type} (size:Nat) (R:List Value->α->Prop) (xs:List Value) (l:List α):Prop:=
 xs.length=l.length*size/\ ∀i (h:i<l.length),R ((xs.drop (i*size)).take size) l[i]
def zcU {α:Type} (w:World) (B size:Nat) (R:List Value->α->Prop) (v:Value) (l:List α):Prop:=
 ∃A c xs,v= .slice A l.length c/\l.length<=c/\l.length<=maxLen/\Reads w B size A l.length xs/\zty size R xs l
theorem elem_len {α:Type} {size:Nat} {R:List Value->α->Prop} {xs:List Value} {l:List α} (h:zty size R xs l) (i:Nat) (hi:i<l.length):((xs.drop (i*size)).take size).length=size:=by
 have h1:=h.1;have h2:(i+1)*size<=l.length*size:=Nat.mul_le_mul_right _ (by omega);rw[Nat.add_mul,Nat.one_mul]at h2;simp;omega
theorem zcU.elem {α:Type} {w:World} {B size:Nat} {R:List Value->α->Prop} {A:Option Addr} {n c:Nat} {l:List α} (h:zcU w B size R (.slice A n c) l) (k:Nat) (hk:k<l.length):
 ∃b off cs,A=some ⟨b,off,none⟩/\b<B/\R cs l[k]/\cs.length=size/\ ∀j u,cs[j]? =some u->w.cell? ⟨b,off+k*size+j,none⟩=some u:=by
 obtain⟨A',c',xs,e,_,_,hr,hrow⟩:=h;cases e;obtain⟨b,off,rfl,hb,hc⟩:=hr.2 (by omega);refine⟨b,off,_,rfl,hb,hrow.2 k hk,elem_len hrow k hk,fun j u hu=> ?_⟩;rw[Nat.add_assoc];apply hc;rw[List.getElem?_take]at hu;split at hu
 ·rw[List.getElem?_drop]at hu;exact hu
 ·cases hu
theorem zcU.form {α:Type} {w:World} {B size:Nat} {R:List Value->α->Prop} {v:Value} {l:List α} (h:zcU w B size R v l): ∃A c,v= .slice A l.length c/\l.length<=c/\l.length<=maxLen:=by
 obtain⟨A,c,xs,e,h1,h2,_⟩:=h;exact⟨A,c,e,h1,h2⟩
theorem zcU.moved {α:Type} {w w':World} {B size:Nat} {R R':List Value->α->Prop} {v:Value} {l:List α} (h:zcU w B size R v l) (hk: ∀b off,b<B->w'.cell? ⟨b,off,none⟩=w.cell? ⟨b,off,none⟩) (hR: ∀cs a,a∈l->R cs a->R' cs a):zcU w' B size R' v l:=by
 obtain⟨A,c,xs,e,h1,h2,h3,h4⟩:=h;exact⟨A,c,xs,e,h1,h2,h3.moved hk,h4.1,fun i hi=>hR _ _ (List.getElem_mem _) (h4.2 i hi)⟩
theorem zcU.wider {α:Type} {w:World} {B B' size:Nat} {R R':List Value->α->Prop} {v:Value} {l:List α} (h:zcU w B size R v l) (hB:B<=B') (hR: ∀cs a,a∈l->R cs a->R' cs a):zcU w B' size R' v l:=by
 obtain⟨A,c,xs,e,h1,h2,h3,h4⟩:=h;exact⟨A,c,xs,e,h1,h2,h3.wider hB,h4.1,fun i hi=>hR _ _ (List.getElem_mem _) (h4.2 i hi)⟩
theorem flat_len {α:Type} (f:Nat->List α) (size:Nat): ∀n,(∀i,i<n->(f i).length=size)->((List.range n).flatMap f).length=n*size
 |0,_=>by simp
 | n+1,h=>by
   rw[List.range_succ,List.flatMap_append,List.length_append,flat_len f size n (fun i hi=>h i (by omega)),Nat.add_mul];simp[h n (by omega)]
theorem zeh {α:Type} (f:Nat->List α) (size:Nat): ∀n,(∀i,i<n->(f i).length=size)-> ∀i,i<n->(((List.range n).flatMap f).drop (i*size)).take size=f i
 |0,_,i,hi=>by omega
 | n+1,h,i,hi=>by
   have hl:=flat_len f size n (fun i hi=>h i (by omega));rw[List.range_succ,List.flatMap_append];by_cases e:i=n
   ·subst e;rw[<-hl,List.drop_left];simp[<-h i (by omega)]
   ·have h2:(i+1)*size<=n*size:=Nat.mul_le_mul_right _ (by omega);rw[Nat.add_mul,Nat.one_mul]at h2;rw[List.drop_append_of_le_length (by omega),List.take_append_of_le_length (by rw[List.length_drop,hl];omega)];exact zeh f size n (fun i hi=>h i (by omega)) i (by omega)
theorem zrQ {α:Type} {n:Nat} {p:Nat->α->Prop} (h: ∀i,i<n-> ∃a,p i a): ∃l:List α,l.length=n/\ ∀i (hi:i<l.length),p i l[i]:=by
 induction n with
 |zero=>exact⟨[],rfl,fun i hi=>by simp at hi⟩
 | succ n ih=>
   obtain⟨l,hl,hp⟩:=ih (fun i hi=>h i (by omega));obtain⟨a,ha⟩:=h n (by omega);refine⟨l++[a],by simp[hl],fun i hi=> ?_⟩;by_cases e:i<l.length
   ·rw[List.getElem_append_left e];exact hp i e
   ·have:i=l.length:=by simp at hi;omega
    subst this;simp;rw[hl];exact ha
section
variable {H:Type} {enc:TypeId×Value->H} {P:Program} {w:World} {base:Nat} {spare:Nat->Bool} {held:Bool}
theorem open_list {α:Type} {t e:TypeId} {size fuel:Nat} {R:List Value->α->Prop} {cs:List Value} {x:DataW H×List MemPlace} (ht:P.underlying t=some (.slice e)) (hC:P.cellsOf e=size) (hpos:0<size)
 (hR: ∀(m:Nat) (cs:List Value) (y:DataW H×List MemPlace),DataW.trod enc P w base spare held m e cs=some y-> ∃a,R cs a)
 (h:DataW.trod enc P w base spare held fuel t cs=some x): ∃v l,cs=[v]/\zcU w w.heap.size size R v l:=by
 rcases open_slice ht h with⟨rfl,_⟩|⟨a,len,cap,m,n,D,Pl,rfl,hb,hl,hm,hmm,_,hx⟩
 ·exact⟨_,[],rfl,none,0,[],rfl,Nat.le_refl _,Nat.zero_le _,Reads.empty _ _ _ _,by simp,fun i hi=>by simp at hi⟩
 have hlm:len<=m:=by rw[hmm];split<;>omega
 rw[hC]at hx
 have hch: ∀i,∃cs':List Value,i<len->w.cells? base (a.add (i*size)) size=some cs'/\DataW.trod enc P w base spare held n e cs'=some (D i,Pl i):=fun i=>by
  by_cases hi:i<len
  ·obtain⟨cs',h1,h2⟩:=hx i (by omega);exact⟨cs',fun _=>⟨h1,h2⟩⟩
  ·exact⟨[],fun h=>absurd h hi⟩
 let f:Nat->List Value:=fun i=>(hch i).choose
 have hf: ∀i,i<len->w.cells? base (a.add (i*size)) size=some (f i)/\DataW.trod enc P w base spare held n e (f i)=some (D i,Pl i):=fun i hi=>(hch i).choose_spec hi;have hfl: ∀i,i<len->(f i).length=size:=fun i hi=>(World.cells?_some (hf i hi).1).2.1;obtain⟨l,hll,hl2⟩:=zrQ (n:=len) (p:=fun i a=>R (f i) a) fun i hi=>hR _ _ _ (hf i hi).2;refine⟨_,l,rfl,some a,cap,(List.range len).flatMap f,by rw[hll],by omega,by omega,⟨by rw[hll,flat_len f size len hfl],fun hn=> ?_⟩,by rw[hll,flat_len f size len hfl],fun i hi=> ?_⟩
 ·rw[hll]at hn;have h0:=World.cells?_some (hf 0 hn).1;have hc0:=h0.2.2 0 hpos
  have hsp:a.spot=none:=by
   rw[Nat.zero_mul]at hc0;have:(f 0)[0]? =some ((f 0)[0]'(by rw[hfl 0 hn];exact hpos)):=List.getElem?_eq_getElem _;rw[this]at hc0;have e:(a.add 0).add 0=a:=rfl;rw[e]at hc0;unfold World.cell? at hc0;cases hs:a.spot with
   |none=>rfl
   | some s=>
     rw[hs]at hc0;split at hc0<;>simp at hc0
  obtain⟨b,off,sp⟩:=a;simp only at hsp;subst hsp
  have hcell: ∀j u,((List.range len).flatMap f)[j]? =some u->w.cell? ⟨b,off+j,none⟩=some u:=by
   intro j u hu
   have hj:j<len*size:=by
    rcases Nat.lt_or_ge j (len*size) with h|h
    ·exact h
    ·rw[List.getElem?_eq_none (by rw[flat_len f size len hfl];exact h)]at hu;cases hu
   have hq:j/size<len:=Nat.div_lt_of_lt_mul (by rw[Nat.mul_comm];exact hj);have hr:j%size<size:=Nat.mod_lt _ hpos;have hpart:=zeh f size len hfl (j/size) hq;have e:j=j/size*size+j%size:=by rw[Nat.mul_comm];exact(Nat.div_add_mod j size).symm
   have hget:(f (j/size))[j%size]? =some u:=by
    rw[<-hpart,List.getElem?_take,if_pos hr,List.getElem?_drop, <-e];exact hu
   have:=(World.cells?_some (hf _ hq).1).2.2 (j%size) hr;rw[hget,add_plain,add_plain,Nat.add_assoc, <-e]at this;exact this
  refine⟨b,off,rfl,?_,hcell⟩;have hx0:((List.range len).flatMap f)[0]? =some (((List.range len).flatMap f)[0]'(by rw[flat_len f size len hfl];exact Nat.mul_pos hn hpos)):=List.getElem?_eq_getElem _;exact World.block_lt_of_cell? w ⟨b,off+0,none⟩ (hcell 0 _ hx0)
 ·rw[zeh f size len hfl i (by omega)];exact hl2 i hi
end
/-! Elements of one cell -/
def OneR {α:Type} (f:α->Value) (cs:List Value) (a:α):Prop:=cs=[f a]
theorem zt7 {α:Type} {f:α->Value} {l:List α} {xs:List Value} (h:zty 1 (OneR f) xs l):xs=l.map f:=by
 apply List.ext_getElem
 ·simpa using h.1
 ·intro i h1 h2;have hi:i<l.length:=by simpa using h2
  have:=h.2 i hi;unfold OneR at this;rw[Nat.mul_one]at this;have h3:((xs.drop i).take 1)[0]? =some (f l[i]):=by rw[this];rfl
  rw[List.getElem?_take,if_pos (by omega),List.getElem?_drop,Nat.add_zero,List.getElem?_eq_getElem h1]at h3;simpa using h3
theorem zcU.one {α:Type} {w:World} {B:Nat} {f:α->Value} {v:Value} {l:List α} (h:zcU w B 1 (OneR f) v l): ∃A c,v= .slice A l.length c/\l.length<=c/\l.length<=maxLen/\Reads w B 1 A l.length (l.map f):=by
 obtain⟨A,c,xs,e,h1,h2,h3,h4⟩:=h;rw[zt7 h4]at h3;exact⟨A,c,e,h1,h2,h3⟩
section
variable {H:Type} {enc:TypeId×Value->H} {P:Program} {w:World} {base:Nat} {spare:Nat->Bool} {held:Bool}
end
end
section
open Go.RowKit
def RVs (S:Nat->Nat->Prop) (w:World):List Value->List AV->Prop
 |[],[]=>True
 |v::vs,c::cs=>(v.oneCell'=true/\RV S w v c)/\RVs S w vs cs
 |_,_=>False
def RAs (S:Nat->Nat->Prop) (w:World):List Value->List AV->Prop
 |[],[]=>True
 |v::vs,c::cs=>RV S w v c/\RAs S w vs cs
 |_,_=>False
section
variable {S:Nat->Nat->Prop} {w:World}
theorem RVs.at_: ∀ {vs:List Value} {cs:List AV},RVs S w vs cs->vs.length=cs.length/\ ∀(i:Nat) (v:Value) (c:AV),vs[i]? =some v->cs[i]? =some c->v.oneCell'=true/\RV S w v c
 |[],[],_=>⟨rfl,fun i v c h _=>by simp at h⟩
 | v::vs,c::cs,⟨h,hs⟩=>by
   obtain⟨h1,h2⟩:=RVs.at_ hs;refine⟨by simp[h1],fun i u d hu hd=> ?_⟩;cases i with
   | zero=>
     simp only[List.getElem?_cons_zero,Option.some.injEq]at hu hd;subst hu hd;exact h
   |succ i=>exact h2 i u d (by simpa using hu) (by simpa using hd)
 |[],_::_,h=>h.elim
 |_::_,[],h=>h.elim
theorem RAs.at_: ∀ {vs:List Value} {cs:List AV},RAs S w vs cs->vs.length=cs.length/\ ∀(i:Nat) (v:Value) (c:AV),vs[i]? =some v->cs[i]? =some c->RV S w v c
 |[],[],_=>⟨rfl,fun i v c h _=>by simp at h⟩
 | v::vs,c::cs,⟨h,hs⟩=>by
   obtain⟨h1,h2⟩:=RAs.at_ hs;refine⟨by simp[h1],fun i u d hu hd=> ?_⟩;cases i with
   | zero=>
     simp only[List.getElem?_cons_zero,Option.some.injEq]at hu hd;subst hu hd;exact h
   |succ i=>exact h2 i u d (by simpa using hu) (by simpa using hd)
 |[],_::_,h=>h.elim
 |_::_,[],h=>h.elim
theorem RVs.agg {vs:List Value} {cs:List AV} (h:RVs S w vs cs):RV S w (.agg vs.toArray) (.agg cs):=by
 obtain⟨h1,h2⟩:=h.at_;refine .agg vs cs h1 (fun v hv=> ?_) fun i v c hv hc=>(h2 i v c hv hc).2;obtain⟨i,hi,rfl⟩:=List.getElem_of_mem hv;exact(h2 i _ _ (List.getElem?_eq_getElem hi) (List.getElem?_eq_getElem (by omega))).1
theorem RV.lit_inv {v u:Value} (h:RV S w v (.lit u)):v=u:=by
 cases h;rfl
end
theorem zrP {α:Type} {w:World} {B size:Nat} {R:List Value->α->Prop} {v:Value} {l:List α} (enc:α->List AV) (hz: ∀a,(enc a).length=size) (h:zcU w B size R v l)
 (hR: ∀cs a,a∈l->R cs a-> ∀(j:Nat) (u:Value) (c:AV),cs[j]? =some u->(enc a)[j]? =some c->u.oneCell'=true/\RV (fun b _=>b<B) w u c):RV (fun b _=>b<B) w v (.seq size (l.map enc)):=by
 obtain⟨A,c,xs,rfl,hc,hm,hr,hrow⟩:=h
 have hz': ∀(i:Nat) (e:List AV),(l.map enc)[i]? =some e->e.length=size:=fun i e he=>by
  rw[List.getElem?_map]at he;cases hx:l[i]? with
  |none=>rw[hx]at he;cases he
  |some a=>rw[hx]at he;cases he;exact hz a
 have key: ∀(i j:Nat) (c:AV),cellAt (l.map enc) i j=some c-> ∃u,xs[i*size+j]? =some u/\u.oneCell'=true/\RV (fun b _=>b<B) w u c:=fun i j c hh=>by
  have hlt:=zcf hz' hh;rw[List.length_map]at hlt
  have hj:(enc (l[i]'hlt.1))[j]? =some c:=by
   unfold cellAt at hh;rw[List.getElem?_map,List.getElem?_eq_getElem hlt.1]at hh;exact hh
  have hlen:=elem_len hrow i hlt.1;have hju:((xs.drop (i*size)).take size)[j]? =some (((xs.drop (i*size)).take size)[j]'(by omega)):=List.getElem?_eq_getElem _;refine⟨_,?_,hR _ _ (List.getElem_mem hlt.1) (hrow.2 i hlt.1) j _ c hju hj⟩;rw[<-hju,List.getElem?_take,if_pos hlt.2,List.getElem?_drop]
 by_cases h0:l=[]
 ·subst h0;exact .seq A 0 c size [] 0 0 (fun _ _=>undef) rfl (Nat.zero_le _) (fun h=>by omega) (fun i e he=>by simp at he) (fun i j c hc=>by simp[cellAt]at hc) (fun i j c hc=>by simp[cellAt]at hc)
 ·obtain⟨b,off,rfl,hb,hcell⟩:=hr.2 (List.length_pos_iff.2 h0);refine .seq _ _ c size _ b off (fun i j=>xs.getD (i*size+j) undef) (by simp) hc (fun _=>rfl) hz' (fun i j c hh=> ?_) fun i j c hh=> ?_
  ·obtain⟨u,h1,h2,_⟩:=key i j c hh;have:xs.getD (i*size+j) undef=u:=by simp[List.getD,h1]
   rw[this];exact⟨hb,hcell _ u h1,h2⟩
  ·obtain⟨u,h1,_,h2⟩:=key i j c hh;have:xs.getD (i*size+j) undef=u:=by simp[List.getD,h1]
   rw[this];exact h2
end
section
open Go.RowKit Go.Stop
def Lies (w:World) (a:Addr):Prop:= ∃(ca:Array Value) (ta:TypeId),w.heap[a.block]? =some (.cells ca ta (0,0))
def Sent (w:World) (g:Nat) (a:Addr):Prop:=w.cell? ⟨g,0,none⟩=some (.iface 309 (.pointer (some a)))/\Lies w a
def zgA (w:World) (a:Addr):Nat->Value->Prop
 |0,E=>E= .iface 309 (.pointer (some a))/\Lies w a
 |n+1,E=> ∃(pb po:Nat) (E':Value),E= .iface 138 (.pointer (some ⟨pb,po,none⟩))/\w.cell? ⟨pb,po+2,none⟩=some E'/\zgA w a n E'
theorem Lies.lt {w:World} {a:Addr} (h:Lies w a):a.block<w.heap.size:=by
 obtain⟨ca,ta,h⟩:=h;by_cases hl:a.block<w.heap.size
 ·exact hl
 ·rw[Array.getElem?_eq_none (by omega)]at h;cases h
theorem Lies.below {w w':World} {a:Addr} (h:Lies w a) (hb:Below w.heap.size w w'):Lies w' a:=by
 have:=h.lt;obtain⟨ca,ta,h⟩:=h;exact⟨ca,ta,(hb.block _ this).trans h⟩
theorem zkc {w:World} {b o:Nat} {v:Value} (h:w.cell? ⟨b,o,none⟩=some v):b<w.heap.size:=World.block_lt_of_cell? w ⟨b,o,none⟩ h
theorem cell_below {w w':World} {b o:Nat} {v:Value} (h:w.cell? ⟨b,o,none⟩=some v) (hb:Below w.heap.size w w'):w'.cell? ⟨b,o,none⟩=some v:=
 (hb.cell (p:=⟨b,o,none⟩) (zkc h)).trans h
theorem Sent.below {w w':World} {g:Nat} {a:Addr} (h:Sent w g a) (hb:Below w.heap.size w w'):Sent w' g a:=⟨cell_below h.1 hb,h.2.below hb⟩
theorem zgA.below {w w':World} {a:Addr} (hb:Below w.heap.size w w'): ∀ {n:Nat} {E:Value},zgA w a n E->zgA w' a n E
 |0,_,h=>⟨h.1,h.2.below hb⟩
 |_+1,_,⟨pb,po,E',h1,h2,h3⟩=>⟨pb,po,E',h1,cell_below h2 hb,zgA.below hb h3⟩
theorem zgA.form {w:World} {a:Addr} {n:Nat} {E:Value} (h:zgA w a n E): ∃t v,E= .iface t v:=by
 cases n with
 |zero=>exact⟨_,_,h.1⟩
 |succ n=>exact⟨_,_,h.choose_spec.choose_spec.choose_spec.1⟩
theorem zgA.new {w:World} {g:Nat} {a:Addr} (h:Sent w g a) (s:ByteArray) (p:Int):
 zgA (w.alloc (.cells #[.string s, .int .i64 p, .iface 309 (.pointer (some a))] 140)) a 1 (.iface 138 (.pointer (some ⟨w.heap.size,0,none⟩))):=
 ⟨_,0,_,rfl,(Whole.new w 140 _).cell 2,rfl,h.2.below ((Below.refl _ _).alloc (Nat.le_refl _) _)⟩
theorem zgA.wrap {w:World} {a:Addr} {n:Nat} {E:Value} (h:zgA w a n E) (s:ByteArray) (p:Int):
 zgA (w.alloc (.cells #[.string s, .int .i64 p,E] 140)) a (n+1) (.iface 138 (.pointer (some ⟨w.heap.size,0,none⟩))):=
 ⟨_,0,_,rfl,(Whole.new w 140 _).cell 2,h.below ((Below.refl _ _).alloc (Nat.le_refl _) _)⟩
/-! Closed facts -/
structure Sents (w:World) (ad:Nat->Addr):Prop where
 s1:Sent w 1 (ad 1)
 s2:Sent w 2 (ad 2)
 s3:Sent w 3 (ad 3)
 s4:Sent w 4 (ad 4)
 s5:Sent w 5 (ad 5)
 s6:Sent w 6 (ad 6)
 s7:Sent w 0 (ad 7)
 s8:Sent w 7 (ad 8)
 s9:Sent w 8 (ad 9)
 inj: ∀i j,1<=i->i<=9->1<=j->j<=9->ad i=ad j->i=j
theorem Sents.below {w w':World} {ad:Nat->Addr} (h:Sents w ad) (hb:Below w.heap.size w w'):Sents w' ad:=
 ⟨h.s1.below hb,h.s2.below hb,h.s3.below hb,h.s4.below hb,h.s5.below hb,h.s6.below hb,h.s7.below hb,h.s8.below hb,h.s9.below hb,h.inj⟩
theorem Sents.ne {w:World} {ad:Nat->Addr} (h:Sents w ad) {i j:Nat} (hi:1<=i/\i<=9) (hj:1<=j/\j<=9) (hne:i≠j):decide (ad i=ad j)=false:=by
 rw[decide_eq_false_iff_not];exact fun e=>hne (h.inj i j hi.1 hi.2 hj.1 hj.2 e)
end
section
open Go.RowKit
attribute [local go_sem_proc ↓] reduceIte
attribute [local go_sem_proc] reduceCtorEq Nat.reduceBEq Nat.reduceAdd Nat.reduceSub Nat.reduceEqDiff Nat.reduceLT Nat.reduceLeDiff Nat.reduceMul Int.reduceToNat Int.reduceBEq Int.reduceBNe Int.reduceEq Int.reduceLT Int.reduceLE
attribute [local go_sem] zsN zlI zoF zhT zoq zfZ ziH zf0 List.isEmpty_cons Array.isEmpty_iff ziT zlC zgo zhS zfv zdq zce zlD zem zfx zcP zeE znY zbo mfind zeC Rd.map AV.bare AV.bare.bareL AV.ofVal zaG zdj zd8 zer zdP Takes zcV zdr zsK zlE zsJ zoI zvt zoG zfw zsM zoz zoH zsI ziV zoD zsL zoA zgq zoE zgp zoC ziU zvs zlF zvq zvr zsO zsP zvi zvk zsk zvj zsh zsi zsj zro znw znm zmq zrM unRd zm3 exRd val zec zcs seen AV.plain AV.soft adopt fzArgs Rd.run AV.asCells zge runL Comes' Rd.row Rd.bind Out.app apps Eff.app St.renew St.setRow St.show St.put St.init upd zhU zlK zuC eqFs zbv zlJ ze5 zpY zcQ zcR zhX zhW bound zhV zdJ zeF zlG zcN zgn zek zco fz zbu zcp shows zbe splice wrs wes Value.oneCell' List.getD_cons_zero List.getD_cons_succ List.getD_nil List.length_cons List.length_nil List.map_cons List.map_nil List.nil_append List.cons_append List.all_cons List.all_nil List.getElem?_cons_zero List.getElem?_cons_succ List.set_cons_zero List.set_cons_succ List.take_succ_cons List.take_zero List.drop_succ_cons List.drop_zero List.take_nil List.drop_nil List.replicate_succ List.replicate_zero Bool.and_true Bool.true_and Bool.and_self and_self true_and and_true Nat.zero_add Nat.add_zero Option.some.injEq Nat.zero_lt_succ Bool.not_true Bool.not_false ne_eq not_true_eq_false not_false_eq_true Option.map_some Option.map_none List.toList_toArray head zhI zax List.length_map Int.toNat_natCast Int.natCast_nonneg List.getElem?_map decide_true decide_false Bool.false_eq_true if_true if_false Bool.or_self Bool.or_true Bool.true_or Bool.false_or Bool.or_false Bool.and_false Bool.false_and List.flatten_cons List.flatten_nil List.append_nil nat0 or_self or_false false_or or_true true_or and_false false_and List.length_append List.isEmpty_nil bne_self_eq_false beq_self_eq_true zae zvc bytesOf_map wants Int.cast_ofNat_Int gt_iff_lt ge_iff_le
attribute [local go_sem <-] List.map_drop List.map_take
/-! Weaker values -/
theorem Str.iface {t:TypeId} {c' c:AV} (h:Str c' c):Str (.iface t c') (.iface t c):=fun S w v hv=>by
 cases hv with
 |iface _ v _ hv=>exact .iface t v c (h S w v hv)
theorem Str.ref1 {cs' cs:List AV} {off:Nat} (h:Strs cs' cs):Str (.ref cs.length [cs'] 0 off) (.ref cs.length [cs] 0 off):=fun S w v hv=>by
 cases hv with
 | ref sz es i off b o u hz hc hr=>
   have at': ∀(i j:Nat) (c:AV),cellAt [cs] i j=some c-> ∃c',cellAt [cs'] i j=some c'/\Str c' c:=fun i j c hcc=>by
    cases i with
    | zero=>
      have hj:cs[j]? =some c:=hcc;have hlt:j<cs'.length:=by rw[h.1];exact(List.getElem?_eq_some_iff.1 hj).1
      exact⟨cs'[j],List.getElem?_eq_getElem hlt,h.2 j _ c (List.getElem?_eq_getElem hlt) hj⟩
    |succ i=>simp[cellAt]at hcc
   refine .ref _ [cs] 0 off b o u (fun i e he=>by
    cases i with
    |zero=>simp at he;rw[<-he]
    |succ i=>simp at he) (fun i j c hcc=> ?_) fun i j c hcc=> ?_
   ·obtain⟨c',h1,_⟩:=at' i j c hcc;exact hc i j c' h1
   ·obtain⟨c',h1,h2⟩:=at' i j c hcc;exact h2 S w _ (hr i j c' h1)
abbrev sentV (a:Addr):AV:= .lit (.iface 309 (.pointer (some a)))
abbrev errV (p:Int) (e:AV):AV:= .iface 138 (.ref 3 [[.any,I p,e]] 0 0)
abbrev nilE:AV:= .lit .nilIface
theorem zuD (s p:AV) (q:Int) (hp:p=I q) (e:AV):RStr (.iface 138 (.ref 3 [[s,p,e]] 0 0)) (errV q e):=by
 subst hp;exact .of (.iface (.ref1 (cs:=[.any,I q,e]) (.cons (.any _) (.refl _)))) (fun _ _ _ h=>by cases h) (fun _ _ _ h=>by cases h)
structure More where
 inv:World->Prop
 up: ∀w w',inv w->Below w.heap.size w w'->inv w'
section
variable {ad:Nat->Addr} {mo:More} {f:Nat->AV}
end
theorem zfW {env:Env} {g:Nat} {c:AV} (h:env g=some c) (f:Nat->AV):gt env f (.global g)= .ref 1 [[c]] 0 0:=by simp only[gt,h]
theorem zbA (env:Env) (s:List UInt8) (a:Addr):Con prog env 57 [Sg s,sentV a] (errV (-1) (sentV a)):=by
 refine zfz func57 rfl call57 (by rw[ntmps57];simp) ?_;rw[ntmps57,results57];repeat (first|refine oO rfl (by simp only[go_sem];exact⟨rfl,rfl⟩) ?_|refine gR ?_|refine gO ?_|refine oZ (zlS ?_)|refine oZ ?_|refine oS ?_|refine gT ?_|refine gD mixed ?_|refine oB ?_|refine oK ?_|(refine oX ?_;simp only[zcV,zdr, ↓reduceIte,Nat.reduceEqDiff,reduceCtorEq]))
 (refine zal ?_;refine⟨_,(by show (zaG _ _ _).run _=some _;simp only[go_sem];rfl),?_⟩)
 exact zuD _ _ _ rfl _
/-! fault.Code -/
theorem zwc {P:Program} {env:Env} {f:FuncId} {cs:List AV} {u:Value} (henter: ∀(args:Array Value) (w:World),(callFunc f args).run P w= .ok (.enter f args) w)
 (h: ∀(w:World) (S:Nat->Nat->Prop) (vs:List Value),EnvOk env S w->vs.length=cs.length->(∀(i:Nat) (v:Value) (c:AV),vs[i]? =some v->cs[i]? =some c->RV S w v c)->Calls P f vs.toArray w fun e w'=>e= .returned u/\Below w.heap.size w w'):Con P env f cs (.lit u):=by
 refine⟨henter,fun w S vs hE hl hv=>(h w S vs hE hl hv).mono ?_⟩;rintro e w' ⟨rfl,hb⟩;exact⟨u,rfl,hb,S,fun _ _ h=>h,fun _ _ h=> .inl h,fun b o hb'=>Nat.lt_of_lt_of_le (hE.low b o hb') hb.size, .lit _⟩
end
section
open Go.RowKit
attribute [go_sem_proc ↓] reduceIte
attribute [go_sem_proc] reduceCtorEq Nat.reduceBEq Nat.reduceAdd Nat.reduceSub Nat.reduceEqDiff Nat.reduceLT Nat.reduceLeDiff Nat.reduceMul Int.reduceToNat Int.reduceBEq Int.reduceBNe Int.reduceEq Int.reduceLT Int.reduceLE
attribute [go_sem] zsN zlI zoF zhT zoq zfZ ziH zf0 List.isEmpty_cons Array.isEmpty_iff ziT zlC zgo zhS zfv zdq zce zlD zem zfx zcP zeE znY zbo mfind zeC Rd.map AV.bare AV.bare.bareL AV.ofVal zaG zdj zd8 zer zdP Takes zcV zdr zsK zlE zsJ zoI zvt zoG zfw zsM zoz zoH zsI ziV zoD zsL zoA zgq zoE zgp zoC ziU zvs zlF zvq zvr zsO zsP zvi zvk zsk zvj zsh zsi zsj zro znw znm zmq zrM unRd zm3 exRd val zec zcs seen AV.plain AV.soft adopt fzArgs Rd.run AV.asCells zge runL Comes' Rd.row Rd.bind Out.app apps Eff.app St.renew St.setRow St.show St.put St.init upd zhU zlK zuC eqFs zbv zlJ ze5 zpY zcQ zcR zhX zhW bound zhV zdJ zeF zlG zcN zgn zek zco fz zbu zcp shows zbe splice wrs wes Value.oneCell' List.getD_cons_zero List.getD_cons_succ List.getD_nil List.length_cons List.length_nil List.map_cons List.map_nil List.nil_append List.cons_append List.all_cons List.all_nil List.getElem?_cons_zero List.getElem?_cons_succ List.set_cons_zero List.set_cons_succ List.take_succ_cons List.take_zero List.drop_succ_cons List.drop_zero List.take_nil List.drop_nil List.replicate_succ List.replicate_zero Bool.and_true Bool.true_and Bool.and_self and_self true_and and_true Nat.zero_add Nat.add_zero Option.some.injEq Nat.zero_lt_succ Bool.not_true Bool.not_false ne_eq not_true_eq_false not_false_eq_true Option.map_some Option.map_none List.toList_toArray head zhI zax List.length_map Int.toNat_natCast Int.natCast_nonneg List.getElem?_map decide_true decide_false Bool.false_eq_true if_true if_false Bool.or_self Bool.or_true Bool.true_or Bool.false_or Bool.or_false Bool.and_false Bool.false_and List.flatten_cons List.flatten_nil List.append_nil nat0 or_self or_false false_or or_true true_or and_false false_and List.length_append List.isEmpty_nil bne_self_eq_false beq_self_eq_true zae zvc bytesOf_map wants Int.cast_ofNat_Int gt_iff_lt ge_iff_le
attribute [go_sem <-] List.map_drop List.map_take
end

end Go.Proofs.YtbpmkofnfgdegaaGreatDoor