/- The facts of evaluation. No program is named here. -/
import Derived.Test.YtlmekdfleciejaaGreatDoorProg
import Derived.Test.YtlmekdfleciejaaGreatDoorD4
set_option maxRecDepth 100000
namespace Go.Proofs.YtlmekdfleciejaaGreatDoor
open Go.RowKit
section
@[go_sem] theorem Tryz.tyd2:tyD Tryz.prog 2=some ⟨.int .i64,1,[.int .i64 0]⟩:=by kernel_rfl
@[go_sem] theorem Tryz.tyd3:tyD Tryz.prog 3=some ⟨.int .i64,1,[.int .i64 0]⟩:=by kernel_rfl
@[go_sem] theorem Tryz.tyd4:tyD Tryz.prog 4=some ⟨.bool,1,[.bool false]⟩:=by kernel_rfl
@[go_sem] theorem Tryz.tyd5:tyD Tryz.prog 5=some ⟨.int .u8,1,[.int .u8 0]⟩:=by kernel_rfl
@[go_sem] theorem Tryz.tyd6:tyD Tryz.prog 6=some ⟨.int .u8,1,[.int .u8 0]⟩:=by kernel_rfl
@[go_sem] theorem Tryz.tyd7:tyD Tryz.prog 7=some ⟨.struct [(0,2,1),(1,3,1),(2,4,1),(3,6,1)] true,4,[.int .i64 0, .int .i64 0, .bool false, .int .u8 0]⟩:=by kernel_rfl
@[go_sem] theorem Tryz.tyd8:tyD Tryz.prog 8=some ⟨.struct [(0,2,1),(1,3,1),(2,4,1),(3,6,1)] true,4,[.int .i64 0, .int .i64 0, .bool false, .int .u8 0]⟩:=by kernel_rfl
@[go_sem] theorem Tryz.tyd9:tyD Tryz.prog 9=some ⟨.string,1,[.string ⟨#[]⟩]⟩:=by kernel_rfl
@[go_sem] theorem Tryz.tyd10:tyD Tryz.prog 10=some ⟨.string,1,[.string ⟨#[]⟩]⟩:=by kernel_rfl
@[go_sem] theorem Tryz.tyd11:tyD Tryz.prog 11=some ⟨.string,1,[.string ⟨#[]⟩]⟩:=by kernel_rfl
@[go_sem] theorem Tryz.tyd12:tyD Tryz.prog 12=some ⟨.int .u64,1,[.int .u64 0]⟩:=by kernel_rfl
@[go_sem] theorem Tryz.tyd13:tyD Tryz.prog 13=some ⟨.struct [(0,9,1),(1,12,1)] false,2,[.string ⟨#[]⟩, .int .u64 0]⟩:=by kernel_rfl
@[go_sem] theorem Tryz.tyd14:tyD Tryz.prog 14=some ⟨.struct [(0,9,1),(1,12,1)] false,2,[.string ⟨#[]⟩, .int .u64 0]⟩:=by kernel_rfl
@[go_sem] theorem Tryz.tyd15:tyD Tryz.prog 15=some ⟨.ptr,1,[.pointer none]⟩:=by kernel_rfl
@[go_sem] theorem Tryz.tyd16:tyD Tryz.prog 16=some ⟨.ptr,1,[.pointer none]⟩:=by kernel_rfl
@[go_sem] theorem Tryz.tyd17:tyD Tryz.prog 17=some ⟨.ptr,1,[.pointer none]⟩:=by kernel_rfl
@[go_sem] theorem Tryz.tyd18:tyD Tryz.prog 18=some ⟨.struct [(0,17,1)] false,1,[.pointer none]⟩:=by kernel_rfl
@[go_sem] theorem Tryz.tyd19:tyD Tryz.prog 19=some ⟨.struct [(0,17,1)] false,1,[.pointer none]⟩:=by kernel_rfl
@[go_sem] theorem Tryz.tyd20:tyD Tryz.prog 20=some ⟨.iface,1,[.nilIface]⟩:=by kernel_rfl
@[go_sem] theorem Tryz.tyd21:tyD Tryz.prog 21=some ⟨.int .i32,1,[.int .i32 0]⟩:=by kernel_rfl
@[go_sem] theorem Tryz.tyd22:tyD Tryz.prog 22=some ⟨.slice 108 2 24 [.string ⟨#[]⟩, .int .i64 0],1,[.slice none 0 0]⟩:=by kernel_rfl
@[go_sem] theorem Tryz.tyd23:tyD Tryz.prog 23=some ⟨.slice 34 6 88 [.string ⟨#[]⟩, .int .i64 0, .int .i64 0, .int .i64 0, .slice none 0 0, .slice none 0 0],1,[.slice none 0 0]⟩:=by kernel_rfl
@[go_sem] theorem Tryz.tyd24:tyD Tryz.prog 24=some ⟨.slice 76 5 80 [.int .i64 0, .string ⟨#[]⟩, .slice none 0 0, .slice none 0 0, .int .i64 0],1,[.slice none 0 0]⟩:=by kernel_rfl
@[go_sem] theorem Tryz.tyd25:tyD Tryz.prog 25=some ⟨.struct [(0,9,1),(1,3,1),(2,22,1),(3,23,1),(4,24,1)] true,5,[.string ⟨#[]⟩, .int .i64 0, .slice none 0 0, .slice none 0 0, .slice none 0 0]⟩:=by kernel_rfl
@[go_sem] theorem Tryz.tyd26:tyD Tryz.prog 26=some ⟨.struct [(0,9,1),(1,3,1),(2,22,1),(3,23,1),(4,24,1)] true,5,[.string ⟨#[]⟩, .int .i64 0, .slice none 0 0, .slice none 0 0, .slice none 0 0]⟩:=by kernel_rfl
@[go_sem] theorem Tryz.tyd27:tyD Tryz.prog 27=some ⟨.ptr,1,[.pointer none]⟩:=by kernel_rfl
@[go_sem] theorem Tryz.tyd32:tyD Tryz.prog 32=some ⟨.slice 154 4 56 [.int .i64 0, .int .i64 0, .string ⟨#[]⟩, .slice none 0 0],1,[.slice none 0 0]⟩:=by kernel_rfl
@[go_sem] theorem Tryz.tyd33:tyD Tryz.prog 33=some ⟨.struct [(0,9,1),(1,3,1),(2,3,1),(3,3,1),(4,32,1),(5,32,1)] true,6,[.string ⟨#[]⟩, .int .i64 0, .int .i64 0, .int .i64 0, .slice none 0 0, .slice none 0 0]⟩:=by kernel_rfl
@[go_sem] theorem Tryz.tyd34:tyD Tryz.prog 34=some ⟨.struct [(0,9,1),(1,3,1),(2,3,1),(3,3,1),(4,32,1),(5,32,1)] true,6,[.string ⟨#[]⟩, .int .i64 0, .int .i64 0, .int .i64 0, .slice none 0 0, .slice none 0 0]⟩:=by kernel_rfl
@[go_sem] theorem Tryz.tyd35:tyD Tryz.prog 35=some ⟨.slice 3 1 8 [.int .i64 0],1,[.slice none 0 0]⟩:=by kernel_rfl
@[go_sem] theorem Tryz.tyd45:tyD Tryz.prog 45=some ⟨.slice 9 1 16 [.string ⟨#[]⟩],1,[.slice none 0 0]⟩:=by kernel_rfl
@[go_sem] theorem Tryz.tyd47:tyD Tryz.prog 47=some ⟨.ptr,1,[.pointer none]⟩:=by kernel_rfl
@[go_sem] theorem Tryz.tyd50:tyD Tryz.prog 50=some ⟨.iface,1,[.nilIface]⟩:=by kernel_rfl
@[go_sem] theorem Tryz.tyd51:tyD Tryz.prog 51=some ⟨.iface,1,[.nilIface]⟩:=by kernel_rfl
@[go_sem] theorem Tryz.tyd63:tyD Tryz.prog 63=some ⟨.slice 133 2 32 [.int .i64 0, .slice none 0 0],1,[.slice none 0 0]⟩:=by kernel_rfl
@[go_sem] theorem Tryz.tyd64:tyD Tryz.prog 64=some ⟨.struct [(0,26,5),(5,35,1),(6,3,1),(7,63,1)] true,8,[.string ⟨#[]⟩, .int .i64 0, .slice none 0 0, .slice none 0 0, .slice none 0 0, .slice none 0 0, .int .i64 0, .slice none 0 0]⟩:=by kernel_rfl
@[go_sem] theorem Tryz.tyd65:tyD Tryz.prog 65=some ⟨.struct [(0,26,5),(5,35,1),(6,3,1),(7,63,1)] true,8,[.string ⟨#[]⟩, .int .i64 0, .slice none 0 0, .slice none 0 0, .slice none 0 0, .slice none 0 0, .int .i64 0, .slice none 0 0]⟩:=by kernel_rfl
@[go_sem] theorem Tryz.tyd74:tyD Tryz.prog 74=some ⟨.slice 152 2 16 [.int .i64 0, .int .i64 0],1,[.slice none 0 0]⟩:=by kernel_rfl
@[go_sem] theorem Tryz.tyd75:tyD Tryz.prog 75=some ⟨.struct [(0,3,1),(1,9,1),(2,74,1),(3,32,1),(4,3,1)] true,5,[.int .i64 0, .string ⟨#[]⟩, .slice none 0 0, .slice none 0 0, .int .i64 0]⟩:=by kernel_rfl
@[go_sem] theorem Tryz.tyd76:tyD Tryz.prog 76=some ⟨.struct [(0,3,1),(1,9,1),(2,74,1),(3,32,1),(4,3,1)] true,5,[.int .i64 0, .string ⟨#[]⟩, .slice none 0 0, .slice none 0 0, .int .i64 0]⟩:=by kernel_rfl
@[go_sem] theorem Tryz.tyd98:tyD Tryz.prog 98=some ⟨.map 105 35 (.slice none 0 0),1,[.map none]⟩:=by kernel_rfl
@[go_sem] theorem Tryz.tyd99:tyD Tryz.prog 99=some ⟨.slice 35 1 24 [.slice none 0 0],1,[.slice none 0 0]⟩:=by kernel_rfl
@[go_sem] theorem Tryz.tyd100:tyD Tryz.prog 100=some ⟨.struct [(0,26,5),(5,47,1),(6,45,1),(7,98,1),(8,99,1)] true,9,[.string ⟨#[]⟩, .int .i64 0, .slice none 0 0, .slice none 0 0, .slice none 0 0, .pointer none, .slice none 0 0, .map none, .slice none 0 0]⟩:=by kernel_rfl
@[go_sem] theorem Tryz.tyd101:tyD Tryz.prog 101=some ⟨.struct [(0,26,5),(5,47,1),(6,45,1),(7,98,1),(8,99,1)] true,9,[.string ⟨#[]⟩, .int .i64 0, .slice none 0 0, .slice none 0 0, .slice none 0 0, .pointer none, .slice none 0 0, .map none, .slice none 0 0]⟩:=by kernel_rfl
@[go_sem] theorem Tryz.tyd104:tyD Tryz.prog 104=some ⟨.struct [(0,3,1),(1,3,1)] true,2,[.int .i64 0, .int .i64 0]⟩:=by kernel_rfl
@[go_sem] theorem Tryz.tyd105:tyD Tryz.prog 105=some ⟨.struct [(0,3,1),(1,3,1)] true,2,[.int .i64 0, .int .i64 0]⟩:=by kernel_rfl
@[go_sem] theorem Tryz.tyd107:tyD Tryz.prog 107=some ⟨.struct [(0,9,1),(1,3,1)] true,2,[.string ⟨#[]⟩, .int .i64 0]⟩:=by kernel_rfl
@[go_sem] theorem Tryz.tyd108:tyD Tryz.prog 108=some ⟨.struct [(0,9,1),(1,3,1)] true,2,[.string ⟨#[]⟩, .int .i64 0]⟩:=by kernel_rfl
@[go_sem] theorem Tryz.tyd112:tyD Tryz.prog 112=some ⟨.map 3 3 (.int .i64 0),1,[.map none]⟩:=by kernel_rfl
@[go_sem] theorem Tryz.tyd120:tyD Tryz.prog 120=some ⟨.ptr,1,[.pointer none]⟩:=by kernel_rfl
@[go_sem] theorem Tryz.tyd122:tyD Tryz.prog 122=some ⟨.ptr,1,[.pointer none]⟩:=by kernel_rfl
@[go_sem] theorem Tryz.tyd123:tyD Tryz.prog 123=some ⟨.struct [(0,9,1),(1,3,1),(2,51,1)] false,3,[.string ⟨#[]⟩, .int .i64 0, .nilIface]⟩:=by kernel_rfl
@[go_sem] theorem Tryz.tyd124:tyD Tryz.prog 124=some ⟨.struct [(0,9,1),(1,3,1),(2,51,1)] false,3,[.string ⟨#[]⟩, .int .i64 0, .nilIface]⟩:=by kernel_rfl
@[go_sem] theorem Tryz.tyd125:tyD Tryz.prog 125=some ⟨.slice 127 1 4 [.int .u32 0],1,[.slice none 0 0]⟩:=by kernel_rfl
@[go_sem] theorem Tryz.tyd126:tyD Tryz.prog 126=some ⟨.int .u32,1,[.int .u32 0]⟩:=by kernel_rfl
@[go_sem] theorem Tryz.tyd127:tyD Tryz.prog 127=some ⟨.int .u32,1,[.int .u32 0]⟩:=by kernel_rfl
@[go_sem] theorem Tryz.tyd128:tyD Tryz.prog 128=some ⟨.struct [(0,35,1),(1,35,1),(2,125,1),(3,125,1),(4,35,1),(5,35,1),(6,127,1)] true,7,[.slice none 0 0, .slice none 0 0, .slice none 0 0, .slice none 0 0, .slice none 0 0, .slice none 0 0, .int .u32 0]⟩:=by kernel_rfl
@[go_sem] theorem Tryz.tyd129:tyD Tryz.prog 129=some ⟨.struct [(0,35,1),(1,35,1),(2,125,1),(3,125,1),(4,35,1),(5,35,1),(6,127,1)] true,7,[.slice none 0 0, .slice none 0 0, .slice none 0 0, .slice none 0 0, .slice none 0 0, .slice none 0 0, .int .u32 0]⟩:=by kernel_rfl
@[go_sem] theorem Tryz.tyd132:tyD Tryz.prog 132=some ⟨.struct [(0,3,1),(1,35,1)] true,2,[.int .i64 0, .slice none 0 0]⟩:=by kernel_rfl
@[go_sem] theorem Tryz.tyd133:tyD Tryz.prog 133=some ⟨.struct [(0,3,1),(1,35,1)] true,2,[.int .i64 0, .slice none 0 0]⟩:=by kernel_rfl
@[go_sem] theorem Tryz.tyd151:tyD Tryz.prog 151=some ⟨.struct [(0,3,1),(1,3,1)] true,2,[.int .i64 0, .int .i64 0]⟩:=by kernel_rfl
@[go_sem] theorem Tryz.tyd152:tyD Tryz.prog 152=some ⟨.struct [(0,3,1),(1,3,1)] true,2,[.int .i64 0, .int .i64 0]⟩:=by kernel_rfl
@[go_sem] theorem Tryz.tyd153:tyD Tryz.prog 153=some ⟨.struct [(0,3,1),(1,3,1),(2,9,1),(3,74,1)] true,4,[.int .i64 0, .int .i64 0, .string ⟨#[]⟩, .slice none 0 0]⟩:=by kernel_rfl
@[go_sem] theorem Tryz.tyd154:tyD Tryz.prog 154=some ⟨.struct [(0,3,1),(1,3,1),(2,9,1),(3,74,1)] true,4,[.int .i64 0, .int .i64 0, .string ⟨#[]⟩, .slice none 0 0]⟩:=by kernel_rfl
@[go_sem] theorem Tryz.tyd159:tyD Tryz.prog 159=some ⟨.int .u64,1,[.int .u64 0]⟩:=by kernel_rfl
@[go_sem] theorem Tryz.tyd171:tyD Tryz.prog 171=some ⟨.int .u64,1,[.int .u64 0]⟩:=by kernel_rfl
@[go_sem] theorem Tryz.tyd172:tyD Tryz.prog 172=some ⟨.struct [(0,17,1),(1,170,1),(2,171,1)] false,3,[.pointer none, .pointer none, .int .u64 0]⟩:=by kernel_rfl
@[go_sem] theorem Tryz.tyd173:tyD Tryz.prog 173=some ⟨.struct [(0,17,1),(1,170,1),(2,171,1)] false,3,[.pointer none, .pointer none, .int .u64 0]⟩:=by kernel_rfl
@[go_sem] theorem Tryz.tyd175:tyD Tryz.prog 175=some ⟨.iface,1,[.nilIface]⟩:=by kernel_rfl
@[go_sem] theorem Tryz.tyd176:tyD Tryz.prog 176=some ⟨.iface,1,[.nilIface]⟩:=by kernel_rfl
@[go_sem] theorem Tryz.tyd178:tyD Tryz.prog 178=some ⟨.int .u8,1,[.int .u8 0]⟩:=by kernel_rfl
@[go_sem] theorem Tryz.tyd195:tyD Tryz.prog 195=some ⟨.slice 4 1 1 [.bool false],1,[.slice none 0 0]⟩:=by kernel_rfl
@[go_sem] theorem Tryz.tyd206:tyD Tryz.prog 206=some ⟨.struct [(0,17,1)] false,1,[.pointer none]⟩:=by kernel_rfl
@[go_sem] theorem Tryz.tyd207:tyD Tryz.prog 207=some ⟨.struct [(0,17,1)] false,1,[.pointer none]⟩:=by kernel_rfl
@[go_sem] theorem Tryz.tyd208:tyD Tryz.prog 208=some ⟨.ptr,1,[.pointer none]⟩:=by kernel_rfl
@[go_sem] theorem Tryz.tyd211:tyD Tryz.prog 211=some ⟨.iface,1,[.nilIface]⟩:=by kernel_rfl
@[go_sem] theorem Tryz.tyd214:tyD Tryz.prog 214=some ⟨.iface,1,[.nilIface]⟩:=by kernel_rfl
@[go_sem] theorem Tryz.tyd216:tyD Tryz.prog 216=some ⟨.iface,1,[.nilIface]⟩:=by kernel_rfl
@[go_sem] theorem Tryz.tyd217:tyD Tryz.prog 217=some ⟨.slice 51 1 16 [.nilIface],1,[.slice none 0 0]⟩:=by kernel_rfl
@[go_sem] theorem Tryz.tyd226:tyD Tryz.prog 226=some ⟨.int .i64,1,[.int .i64 0]⟩:=by kernel_rfl
@[go_sem] theorem Tryz.tyd233:tyD Tryz.prog 233=some ⟨.int .u64,1,[.int .u64 0]⟩:=by kernel_rfl
@[go_sem] theorem Tryz.tyd236:tyD Tryz.prog 236=some ⟨.arr 32 5 1,32,[.int .u8 0, .int .u8 0, .int .u8 0, .int .u8 0, .int .u8 0, .int .u8 0, .int .u8 0, .int .u8 0, .int .u8 0, .int .u8 0, .int .u8 0, .int .u8 0, .int .u8 0, .int .u8 0, .int .u8 0, .int .u8 0, .int .u8 0, .int .u8 0, .int .u8 0, .int .u8 0, .int .u8 0, .int .u8 0, .int .u8 0, .int .u8 0, .int .u8 0, .int .u8 0, .int .u8 0, .int .u8 0, .int .u8 0, .int .u8 0, .int .u8 0, .int .u8 0]⟩:=by kernel_rfl
@[go_sem] theorem Tryz.tyd244:tyD Tryz.prog 244=some ⟨.iface,1,[.nilIface]⟩:=by kernel_rfl
@[go_sem] theorem Tryz.tyd248:tyD Tryz.prog 248=some ⟨.int .u64,1,[.int .u64 0]⟩:=by kernel_rfl
@[go_sem] theorem Tryz.tyd252:tyD Tryz.prog 252=some ⟨.ptr,1,[.pointer none]⟩:=by kernel_rfl
@[go_sem] theorem Tryz.tyd257:tyD Tryz.prog 257=some ⟨.ptr,1,[.pointer none]⟩:=by kernel_rfl
@[go_sem] theorem Tryz.tyd261:tyD Tryz.prog 261=some ⟨.ptr,1,[.pointer none]⟩:=by kernel_rfl
@[go_sem] theorem Tryz.tyd263:tyD Tryz.prog 263=some ⟨.struct [(0,17,1),(1,17,1),(2,17,1),(3,9,1)] false,4,[.pointer none, .pointer none, .pointer none, .string ⟨#[]⟩]⟩:=by kernel_rfl
@[go_sem] theorem Tryz.tyd264:tyD Tryz.prog 264=some ⟨.struct [(0,17,1),(1,17,1),(2,17,1),(3,9,1)] false,4,[.pointer none, .pointer none, .pointer none, .string ⟨#[]⟩]⟩:=by kernel_rfl
@[go_sem] theorem Tryz.tyd265:tyD Tryz.prog 265=some ⟨.arr 0 16 1,0,[]⟩:=by kernel_rfl
@[go_sem] theorem Tryz.tyd266:tyD Tryz.prog 266=some ⟨.struct [(0,265,0)] false,0,[]⟩:=by kernel_rfl
@[go_sem] theorem Tryz.tyd267:tyD Tryz.prog 267=some ⟨.struct [(0,265,0)] false,0,[]⟩:=by kernel_rfl
@[go_sem] theorem Tryz.tyd269:tyD Tryz.prog 269=some ⟨.int .u8,1,[.int .u8 0]⟩:=by kernel_rfl
@[go_sem] theorem Tryz.tyd271:tyD Tryz.prog 271=some ⟨.ptr,1,[.pointer none]⟩:=by kernel_rfl
@[go_sem] theorem Tryz.tyd272:tyD Tryz.prog 272=some ⟨.int .i32,1,[.int .i32 0]⟩:=by kernel_rfl
@[go_sem] theorem Tryz.tyd273:tyD Tryz.prog 273=some ⟨.int .i32,1,[.int .i32 0]⟩:=by kernel_rfl
@[go_sem] theorem Tryz.tyd274:tyD Tryz.prog 274=some ⟨.struct [(0,12,1),(1,12,1),(2,126,1),(3,269,1),(4,5,1),(5,5,1),(6,178,1),(7,270,1),(8,271,1),(9,272,1),(10,273,1)] false,11,[.int .u64 0, .int .u64 0, .int .u32 0, .int .u8 0, .int .u8 0, .int .u8 0, .int .u8 0, .nilFunc, .pointer none, .int .i32 0, .int .i32 0]⟩:=by kernel_rfl
@[go_sem] theorem Tryz.tyd275:tyD Tryz.prog 275=some ⟨.struct [(0,12,1),(1,12,1),(2,126,1),(3,269,1),(4,5,1),(5,5,1),(6,178,1),(7,270,1),(8,271,1),(9,272,1),(10,273,1)] false,11,[.int .u64 0, .int .u64 0, .int .u32 0, .int .u8 0, .int .u8 0, .int .u8 0, .int .u8 0, .nilFunc, .pointer none, .int .i32 0, .int .i32 0]⟩:=by kernel_rfl
@[go_sem] theorem Tryz.tyd278:tyD Tryz.prog 278=some ⟨.struct [(0,9,1),(1,178,1)] false,2,[.string ⟨#[]⟩, .int .u8 0]⟩:=by kernel_rfl
@[go_sem] theorem Tryz.tyd279:tyD Tryz.prog 279=some ⟨.struct [(0,9,1),(1,178,1)] false,2,[.string ⟨#[]⟩, .int .u8 0]⟩:=by kernel_rfl
@[go_sem] theorem Tryz.tyd280:tyD Tryz.prog 280=some ⟨.struct [(0,9,1)] true,1,[.string ⟨#[]⟩]⟩:=by kernel_rfl
@[go_sem] theorem Tryz.tyd281:tyD Tryz.prog 281=some ⟨.struct [(0,9,1)] true,1,[.string ⟨#[]⟩]⟩:=by kernel_rfl
@[go_sem] theorem Tryz.tyd282:tyD Tryz.prog 282=some ⟨.ptr,1,[.pointer none]⟩:=by kernel_rfl
@[go_sem] theorem Tryz.tyd284:tyD Tryz.prog 284=some ⟨.int .u16,1,[.int .u16 0]⟩:=by kernel_rfl
@[go_sem] theorem Tryz.tyd285:tyD Tryz.prog 285=some ⟨.struct [(0,272,1),(1,284,1),(2,284,1),(3,126,1),(4,126,1)] false,5,[.int .i32 0, .int .u16 0, .int .u16 0, .int .u32 0, .int .u32 0]⟩:=by kernel_rfl
@[go_sem] theorem Tryz.tyd286:tyD Tryz.prog 286=some ⟨.struct [(0,272,1),(1,284,1),(2,284,1),(3,126,1),(4,126,1)] false,5,[.int .i32 0, .int .u16 0, .int .u16 0, .int .u32 0, .int .u32 0]⟩:=by kernel_rfl
@[go_sem] theorem Tryz.tyd287:tyD Tryz.prog 287=some ⟨.slice 290 4 16 [.int .i32 0, .int .i32 0, .int .i32 0, .int .i32 0],1,[.slice none 0 0]⟩:=by kernel_rfl
@[go_sem] theorem Tryz.tyd288:tyD Tryz.prog 288=some ⟨.int .i32,1,[.int .i32 0]⟩:=by kernel_rfl
@[go_sem] theorem Tryz.tyd289:tyD Tryz.prog 289=some ⟨.struct [(0,272,1),(1,273,1),(2,288,1),(3,288,1)] false,4,[.int .i32 0, .int .i32 0, .int .i32 0, .int .i32 0]⟩:=by kernel_rfl
@[go_sem] theorem Tryz.tyd290:tyD Tryz.prog 290=some ⟨.struct [(0,272,1),(1,273,1),(2,288,1),(3,288,1)] false,4,[.int .i32 0, .int .i32 0, .int .i32 0, .int .i32 0]⟩:=by kernel_rfl
@[go_sem] theorem Tryz.tyd291:tyD Tryz.prog 291=some ⟨.ptr,1,[.pointer none]⟩:=by kernel_rfl
theorem Tryz.mixed:Tryz.prog.follows .mixedOrders=true:=by kernel_rfl
end
section
theorem Sim.nilRow {x:Ctx} {s:St} {a:Act} {w:World} {m:Mem} (h:Sim x s a w m) (r t:Nat) (e:TypeId) (sz:Nat) (hsz:0<sz) (ht:s.f t= .lit (.slice none 0 0)):
 Sim x ((s.renew r ⟨sz,[],e,true⟩ false).put (some t) (.row r (s.vs r+1))) a w ⟨m.S,upd m.ρ r (.slice none 0 0)⟩:=by
 have h1:=h.renew r ⟨sz,[],e,true⟩ false (.slice none 0 0) m.S (Below.refl _ _) (fun b o hh=>⟨hh, .rfl⟩) (fun b o hh=> .inl hh) (fun k row' hk hr g hg=>⟨rfl,by simp [Value.ownBlock],fun o hh=>hh⟩)
  (.inl ⟨hsz,fun i e' he=>by simp at he,⟨[],by simp only [upd_same]; exact World.ownsRow_nil _ _ _ _,by simp,fun i j c hc=>by simp [cellAt] at hc⟩,(fun he=>by simp [St.renew,upd_same] at he),(fun g hg=>by simp [upd_same,Value.ownBlock] at hg),(fun _ g hg=>by simp [upd_same,Value.ownBlock] at hg)⟩) (fun b _=>⟨rfl,fun _ hh=>hh,by simp [Value.ownBlock]⟩)
 refine { h1 with dfs:=h1.dfs,siz:=h1.siz,slot:=fun t'=> ?_,rows:=fun r' row hr=> ?_ }
 ·have key:RL w ⟨m.S,upd m.ρ r (.slice none 0 0)⟩ (s.renew r ⟨sz,[],e,true⟩ false) (a.tmps.getD t' undef) (upd (s.renew r ⟨sz,[],e,true⟩ false).f t (.row r (s.vs r+1)) t'):=by
   by_cases e1:t'=t
   ·subst e1
    rw [upd_same]
    have hv:=h.slot t'
    rw [ht] at hv
    have hv:=hv.lit_
    rw [hv]
    exact .row r (s.vs r+1) rfl (by simp [St.renew,upd_same]) fun _ row _=>by simp [upd_same]
   ·rw [upd_ne _ _ _ e1]
    exact h1.slot t'
  exact RL.put key (some t) _
 ·exact(h1.rows r' row hr).mono (s':=(s.renew r ⟨sz,[],e,true⟩ false).put (some t) (.row r (s.vs r+1))) (fun b o hb=>⟨hb, .rfl⟩) (fun _=>Nat.le_refl _) (fun r row' _ hr=>⟨row',hr,rfl,rfl⟩) rfl (fun _ _=>rfl) rfl (fun _ _ _ hh=>hh)
section
variable {P:Program} {env:Env} {nt:Nat} {Q:Exit->St->Prop} {s:St}
theorem zbo {c:Code} (r t:Nat) (e:TypeId) (sz:Nat) (h:awp P env nt c Q ((s.renew r ⟨sz,[],e,true⟩ false).put (some t) (.row r (s.vs r+1)))) (hsz:0<sz:=by decide) (ht:Is (s.f t) (.lit (.slice none 0 0)):=by simp only [go_sem,reduceIte, ↓reduceIte,Nat.reduceEqDiff,reduceCtorEq]; exact iR):awp P env nt c Q s:=
 fun ro x he hn a w _ hS=>h ro x he hn a w _ (hS.nilRow r t e sz hsz ht)
theorem RStr.own_nil (e:TypeId) (sz:Nat) (hsz:0<sz):RStr (.lit (.slice none 0 0)) (.own e sz []):=fun S w base v hr=>by
 have hv:v= .slice none 0 0:=by
  have hr:RV S w v (.lit (.slice none 0 0)):=hr
  cases hr
  rfl
 subst hv
 exact⟨[],World.ownsRow_nil _ _ _ _,hsz,⟨by simp,by simp,fun i e he=>by simp at he,fun i j c hc=>by simp [cellAt] at hc⟩,fun g hg=>by simp [Value.ownBlock] at hg⟩
end
end
section
abbrev I (n:Int):AV:= .lit (.int .i64 n)
abbrev U (n:Int):AV:= .lit (.int .u64 n)
abbrev B (b:Bool):AV:= .lit (.bool b)
abbrev Sg (s:List UInt8):AV:= .lit (.string ⟨s.toArray⟩)
abbrev nilS:AV:= .lit (.slice none 0 0)
end
section
structure OpD where
 kind:Int
 n:Int
 deriving DecidableEq,Inhabited
structure ActD where
 kind:Int
 n:Int
 name:List UInt8
 code:List OpD
 deriving DecidableEq,Inhabited
structure StD where
 name:List UInt8
 kind:Int
 parent:Int
 initial:Int
 inn:List ActD
 out:List ActD
 deriving DecidableEq,Inhabited
structure TrD where
 src:Int
 event:List UInt8
 guard:List OpD
 acts:List ActD
 target:Int
 deriving DecidableEq,Inhabited
structure VarD where
 name:List UInt8
 start:Int
 deriving DecidableEq,Inhabited
structure ChD where
 name:List UInt8
 initial:Int
 vars:List VarD
 states:List StD
 trans:List TrD
 deriving DecidableEq,Inhabited
def opAV (x:OpD):List AV:=[I x.kind,I x.n]
abbrev opsAV (l:List OpD):AV:= .seq 2 (l.map opAV)
def zaw (x:ActD):List AV:=[I x.kind,I x.n,Sg x.name,opsAV x.code]
abbrev actsAV (l:List ActD):AV:= .seq 4 (l.map zaw)
def stAV (x:StD):List AV:=[Sg x.name,I x.kind,I x.parent,I x.initial,actsAV x.inn,actsAV x.out]
abbrev stsAV (l:List StD):AV:= .seq 6 (l.map stAV)
def trAV (x:TrD):List AV:=[I x.src,Sg x.event,opsAV x.guard,actsAV x.acts,I x.target]
abbrev trsAV (l:List TrD):AV:= .seq 5 (l.map trAV)
def zcp (x:VarD):List AV:=[Sg x.name,I x.start]
abbrev varsAV (l:List VarD):AV:= .seq 2 (l.map zcp)
def chAV (x:ChD):List AV:=[Sg x.name,I x.initial,varsAV x.vars,stsAV x.states,trsAV x.trans]
/-! Lists that are no longer than memory is. -/
def zjj (_:OpD):Prop:=True
def zdr (x:ActD):Prop:=x.name.length<=maxLen/\(x.code.length<=maxLen/\ ∀y∈x.code,zjj y)
def zji (x:StD):Prop:=x.name.length<=maxLen/\(x.inn.length<=maxLen/\ ∀y∈x.inn,zdr y)/\(x.out.length<=maxLen/\ ∀y∈x.out,zdr y)
def zjh (x:TrD):Prop:=x.event.length<=maxLen/\(x.guard.length<=maxLen/\ ∀y∈x.guard,zjj y)/\(x.acts.length<=maxLen/\ ∀y∈x.acts,zdr y)
def zgp (x:VarD):Prop:=x.name.length<=maxLen
def zdq (x:ChD):Prop:=x.name.length<=maxLen/\(x.vars.length<=maxLen/\ ∀y∈x.vars,zgp y)/\(x.states.length<=maxLen/\ ∀y∈x.states,zji y)/\(x.trans.length<=maxLen/\ ∀y∈x.trans,zjh y)
end
section
attribute [go_sem_proc ↓] reduceIte
attribute [go_sem_proc] reduceCtorEq Nat.reduceBEq Nat.reduceAdd Nat.reduceSub Nat.reduceEqDiff Nat.reduceLT Nat.reduceLeDiff Nat.reduceMul Int.reduceToNat Int.reduceBEq Int.reduceBNe Int.reduceEq Int.reduceLT Int.reduceLE
attribute [go_sem] zop zjs zlo zgs zlg zeX zg2 zeY List.isEmpty_cons Array.isEmpty_iff zhd zjn zfr zgr zet zcM zbR zjo zds zev zcj zdL zkY za9 mfind zdH Rd.map AV.bare AV.bare.bareL AV.ofVal zaz zcD zde zdw zcZ Takes zaQ zaE zom zjp zol zlr zqb zlp zeu zoo zlj zlq zok zhf zlm zon zlk zft zln zfs zll zhe zqa zjq zp8 zp9 zoq zor zp3 zp5 zn6 zp4 zn3 zn4 zn5 znn zkG zkz zj5 znH unRd zkp exRd val zdk zcm seen AV.plain AV.soft adopt fzArgs Rd.run AV.asCells zfg runL Comes' Rd.row Rd.bind Out.app apps Eff.app St.renew St.setRow St.show St.put St.init upd zgt zju zpA eqFs zbd zjt zea zmo zck zcl zgw zgv bound zgu zcX zdM zjr zce zfq zdp zbX fz zbm zbY shows za4 splice wrs wes Value.oneCell' List.getD_cons_zero List.getD_cons_succ List.getD_nil List.length_cons List.length_nil List.map_cons List.map_nil List.nil_append List.cons_append List.all_cons List.all_nil List.getElem?_cons_zero List.getElem?_cons_succ List.set_cons_zero List.set_cons_succ List.take_succ_cons List.take_zero List.drop_succ_cons List.drop_zero List.take_nil List.drop_nil List.replicate_succ List.replicate_zero Bool.and_true Bool.true_and Bool.and_self and_self true_and and_true Nat.zero_add Nat.add_zero Option.some.injEq Nat.zero_lt_succ Bool.not_true Bool.not_false ne_eq not_true_eq_false not_false_eq_true Option.map_some Option.map_none List.toList_toArray head zgj zav List.length_map Int.toNat_natCast Int.natCast_nonneg List.getElem?_map decide_true decide_false Bool.false_eq_true if_true if_false Bool.or_self Bool.or_true Bool.true_or Bool.false_or Bool.or_false Bool.and_false Bool.false_and List.flatten_cons List.flatten_nil List.append_nil nat0 or_self or_false false_or or_true true_or and_false false_and List.length_append List.isEmpty_nil bne_self_eq_false beq_self_eq_true zah zp0 bytesOf_map wants Int.cast_ofNat_Int gt_iff_lt ge_iff_le
attribute [go_sem <-] List.map_drop List.map_take
end

end Go.Proofs.YtlmekdfleciejaaGreatDoor