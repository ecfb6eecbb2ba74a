/- From contracts without memory to the walk with it, and back: slices as lists, aggregates. No program is named here. -/
import Derived.Test.YtnbjaghjdeicmaaGreatDoorProg
import Derived.Test.YtnbjaghjdeicmaaGreatDoorD4
import Derived.Test.YtnbjaghjdeicmaaGreatDoorD1
import Derived.Deep.Slices
import Derived.Lib.SmallJoins
import Derived.ChangeSame
set_option maxRecDepth 100000
namespace Go.Proofs.YtnbjaghjdeicmaaGreatDoor
section
open Go.RowKit
@[go_sem] theorem Tryz.tyd2:tyD Tryz.prog 2=some ⟨.int .i64,1,[.int .i64 0]⟩:=by kernel_rfl
@[go_sem] theorem Tryz.tyd3:tyD Tryz.prog 3=some ⟨.int .i64,1,[.int .i64 0]⟩:=by kernel_rfl
@[go_sem] theorem Tryz.tyd4:tyD Tryz.prog 4=some ⟨.bool,1,[.bool false]⟩:=by kernel_rfl
@[go_sem] theorem Tryz.tyd5:tyD Tryz.prog 5=some ⟨.int .u8,1,[.int .u8 0]⟩:=by kernel_rfl
@[go_sem] theorem Tryz.tyd6:tyD Tryz.prog 6=some ⟨.int .u8,1,[.int .u8 0]⟩:=by kernel_rfl
@[go_sem] theorem Tryz.tyd7:tyD Tryz.prog 7=some ⟨.struct [(0,2,1),(1,3,1),(2,4,1),(3,6,1)] true,4,[.int .i64 0, .int .i64 0, .bool false, .int .u8 0]⟩:=by kernel_rfl
@[go_sem] theorem Tryz.tyd8:tyD Tryz.prog 8=some ⟨.struct [(0,2,1),(1,3,1),(2,4,1),(3,6,1)] true,4,[.int .i64 0, .int .i64 0, .bool false, .int .u8 0]⟩:=by kernel_rfl
@[go_sem] theorem Tryz.tyd9:tyD Tryz.prog 9=some ⟨.string,1,[.string ⟨#[]⟩]⟩:=by kernel_rfl
@[go_sem] theorem Tryz.tyd10:tyD Tryz.prog 10=some ⟨.string,1,[.string ⟨#[]⟩]⟩:=by kernel_rfl
@[go_sem] theorem Tryz.tyd11:tyD Tryz.prog 11=some ⟨.string,1,[.string ⟨#[]⟩]⟩:=by kernel_rfl
@[go_sem] theorem Tryz.tyd12:tyD Tryz.prog 12=some ⟨.int .u64,1,[.int .u64 0]⟩:=by kernel_rfl
@[go_sem] theorem Tryz.tyd13:tyD Tryz.prog 13=some ⟨.struct [(0,9,1),(1,12,1)] false,2,[.string ⟨#[]⟩, .int .u64 0]⟩:=by kernel_rfl
@[go_sem] theorem Tryz.tyd14:tyD Tryz.prog 14=some ⟨.struct [(0,9,1),(1,12,1)] false,2,[.string ⟨#[]⟩, .int .u64 0]⟩:=by kernel_rfl
@[go_sem] theorem Tryz.tyd15:tyD Tryz.prog 15=some ⟨.ptr,1,[.pointer none]⟩:=by kernel_rfl
@[go_sem] theorem Tryz.tyd16:tyD Tryz.prog 16=some ⟨.ptr,1,[.pointer none]⟩:=by kernel_rfl
@[go_sem] theorem Tryz.tyd17:tyD Tryz.prog 17=some ⟨.ptr,1,[.pointer none]⟩:=by kernel_rfl
@[go_sem] theorem Tryz.tyd18:tyD Tryz.prog 18=some ⟨.struct [(0,17,1)] false,1,[.pointer none]⟩:=by kernel_rfl
@[go_sem] theorem Tryz.tyd19:tyD Tryz.prog 19=some ⟨.struct [(0,17,1)] false,1,[.pointer none]⟩:=by kernel_rfl
@[go_sem] theorem Tryz.tyd20:tyD Tryz.prog 20=some ⟨.iface,1,[.nilIface]⟩:=by kernel_rfl
@[go_sem] theorem Tryz.tyd21:tyD Tryz.prog 21=some ⟨.int .i32,1,[.int .i32 0]⟩:=by kernel_rfl
@[go_sem] theorem Tryz.tyd22:tyD Tryz.prog 22=some ⟨.slice 145 2 24 [.string ⟨#[]⟩, .int .i64 0],1,[.slice none 0 0]⟩:=by kernel_rfl
@[go_sem] theorem Tryz.tyd23:tyD Tryz.prog 23=some ⟨.slice 123 6 88 [.string ⟨#[]⟩, .int .i64 0, .int .i64 0, .int .i64 0, .slice none 0 0, .slice none 0 0],1,[.slice none 0 0]⟩:=by kernel_rfl
@[go_sem] theorem Tryz.tyd24:tyD Tryz.prog 24=some ⟨.slice 65 5 80 [.int .i64 0, .string ⟨#[]⟩, .slice none 0 0, .slice none 0 0, .int .i64 0],1,[.slice none 0 0]⟩:=by kernel_rfl
@[go_sem] theorem Tryz.tyd25:tyD Tryz.prog 25=some ⟨.struct [(0,9,1),(1,3,1),(2,22,1),(3,23,1),(4,24,1)] true,5,[.string ⟨#[]⟩, .int .i64 0, .slice none 0 0, .slice none 0 0, .slice none 0 0]⟩:=by kernel_rfl
@[go_sem] theorem Tryz.tyd26:tyD Tryz.prog 26=some ⟨.struct [(0,9,1),(1,3,1),(2,22,1),(3,23,1),(4,24,1)] true,5,[.string ⟨#[]⟩, .int .i64 0, .slice none 0 0, .slice none 0 0, .slice none 0 0]⟩:=by kernel_rfl
@[go_sem] theorem Tryz.tyd27:tyD Tryz.prog 27=some ⟨.slice 3 1 8 [.int .i64 0],1,[.slice none 0 0]⟩:=by kernel_rfl
@[go_sem] theorem Tryz.tyd28:tyD Tryz.prog 28=some ⟨.slice 85 2 32 [.int .i64 0, .slice none 0 0],1,[.slice none 0 0]⟩:=by kernel_rfl
@[go_sem] theorem Tryz.tyd29:tyD Tryz.prog 29=some ⟨.slice 114 2 24 [.string ⟨#[]⟩, .int .i64 0],1,[.slice none 0 0]⟩:=by kernel_rfl
@[go_sem] theorem Tryz.tyd30:tyD Tryz.prog 30=some ⟨.struct [(0,27,1),(1,27,1),(2,28,1),(3,29,1),(4,4,1)] true,5,[.slice none 0 0, .slice none 0 0, .slice none 0 0, .slice none 0 0, .bool false]⟩:=by kernel_rfl
@[go_sem] theorem Tryz.tyd31:tyD Tryz.prog 31=some ⟨.struct [(0,27,1),(1,27,1),(2,28,1),(3,29,1),(4,4,1)] true,5,[.slice none 0 0, .slice none 0 0, .slice none 0 0, .slice none 0 0, .bool false]⟩:=by kernel_rfl
@[go_sem] theorem Tryz.tyd32:tyD Tryz.prog 32=some ⟨.struct [(0,3,1),(1,3,1),(2,3,1),(3,31,5)] true,8,[.int .i64 0, .int .i64 0, .int .i64 0, .slice none 0 0, .slice none 0 0, .slice none 0 0, .slice none 0 0, .bool false]⟩:=by kernel_rfl
@[go_sem] theorem Tryz.tyd33:tyD Tryz.prog 33=some ⟨.struct [(0,3,1),(1,3,1),(2,3,1),(3,31,5)] true,8,[.int .i64 0, .int .i64 0, .int .i64 0, .slice none 0 0, .slice none 0 0, .slice none 0 0, .slice none 0 0, .bool false]⟩:=by kernel_rfl
@[go_sem] theorem Tryz.tyd36:tyD Tryz.prog 36=some ⟨.iface,1,[.nilIface]⟩:=by kernel_rfl
@[go_sem] theorem Tryz.tyd37:tyD Tryz.prog 37=some ⟨.iface,1,[.nilIface]⟩:=by kernel_rfl
@[go_sem] theorem Tryz.tyd41:tyD Tryz.prog 41=some ⟨.ptr,1,[.pointer none]⟩:=by kernel_rfl
@[go_sem] theorem Tryz.tyd45:tyD Tryz.prog 45=some ⟨.struct [(0,3,1),(1,3,1),(2,3,1),(3,31,5)] true,8,[.int .i64 0, .int .i64 0, .int .i64 0, .slice none 0 0, .slice none 0 0, .slice none 0 0, .slice none 0 0, .bool false]⟩:=by kernel_rfl
@[go_sem] theorem Tryz.tyd49:tyD Tryz.prog 49=some ⟨.struct [(0,26,5),(5,31,5),(10,9,1),(11,3,1),(12,3,1)] true,13,[.string ⟨#[]⟩, .int .i64 0, .slice none 0 0, .slice none 0 0, .slice none 0 0, .slice none 0 0, .slice none 0 0, .slice none 0 0, .slice none 0 0, .bool false, .string ⟨#[]⟩, .int .i64 0, .int .i64 0]⟩:=by kernel_rfl
@[go_sem] theorem Tryz.tyd50:tyD Tryz.prog 50=some ⟨.struct [(0,26,5),(5,31,5),(10,9,1),(11,3,1),(12,3,1)] true,13,[.string ⟨#[]⟩, .int .i64 0, .slice none 0 0, .slice none 0 0, .slice none 0 0, .slice none 0 0, .slice none 0 0, .slice none 0 0, .slice none 0 0, .bool false, .string ⟨#[]⟩, .int .i64 0, .int .i64 0]⟩:=by kernel_rfl
@[go_sem] theorem Tryz.tyd54:tyD Tryz.prog 54=some ⟨.slice 148 2 24 [.string ⟨#[]⟩, .int .i64 0],1,[.slice none 0 0]⟩:=by kernel_rfl
@[go_sem] theorem Tryz.tyd55:tyD Tryz.prog 55=some ⟨.struct [(0,27,1),(1,54,1)] true,2,[.slice none 0 0, .slice none 0 0]⟩:=by kernel_rfl
@[go_sem] theorem Tryz.tyd56:tyD Tryz.prog 56=some ⟨.struct [(0,27,1),(1,54,1)] true,2,[.slice none 0 0, .slice none 0 0]⟩:=by kernel_rfl
@[go_sem] theorem Tryz.tyd62:tyD Tryz.prog 62=some ⟨.slice 197 2 16 [.int .i64 0, .int .i64 0],1,[.slice none 0 0]⟩:=by kernel_rfl
@[go_sem] theorem Tryz.tyd63:tyD Tryz.prog 63=some ⟨.slice 224 4 56 [.int .i64 0, .int .i64 0, .string ⟨#[]⟩, .slice none 0 0],1,[.slice none 0 0]⟩:=by kernel_rfl
@[go_sem] theorem Tryz.tyd64:tyD Tryz.prog 64=some ⟨.struct [(0,3,1),(1,9,1),(2,62,1),(3,63,1),(4,3,1)] true,5,[.int .i64 0, .string ⟨#[]⟩, .slice none 0 0, .slice none 0 0, .int .i64 0]⟩:=by kernel_rfl
@[go_sem] theorem Tryz.tyd65:tyD Tryz.prog 65=some ⟨.struct [(0,3,1),(1,9,1),(2,62,1),(3,63,1),(4,3,1)] true,5,[.int .i64 0, .string ⟨#[]⟩, .slice none 0 0, .slice none 0 0, .int .i64 0]⟩:=by kernel_rfl
@[go_sem] theorem Tryz.tyd70:tyD Tryz.prog 70=some ⟨.struct [(0,31,5),(5,27,1),(6,54,1),(7,3,1),(8,3,1),(9,3,1),(10,3,1)] true,11,[.slice none 0 0, .slice none 0 0, .slice none 0 0, .slice none 0 0, .bool false, .slice none 0 0, .slice none 0 0, .int .i64 0, .int .i64 0, .int .i64 0, .int .i64 0]⟩:=by kernel_rfl
@[go_sem] theorem Tryz.tyd71:tyD Tryz.prog 71=some ⟨.struct [(0,31,5),(5,27,1),(6,54,1),(7,3,1),(8,3,1),(9,3,1),(10,3,1)] true,11,[.slice none 0 0, .slice none 0 0, .slice none 0 0, .slice none 0 0, .bool false, .slice none 0 0, .slice none 0 0, .int .i64 0, .int .i64 0, .int .i64 0, .int .i64 0]⟩:=by kernel_rfl
@[go_sem] theorem Tryz.tyd84:tyD Tryz.prog 84=some ⟨.struct [(0,3,1),(1,27,1)] true,2,[.int .i64 0, .slice none 0 0]⟩:=by kernel_rfl
@[go_sem] theorem Tryz.tyd85:tyD Tryz.prog 85=some ⟨.struct [(0,3,1),(1,27,1)] true,2,[.int .i64 0, .slice none 0 0]⟩:=by kernel_rfl
@[go_sem] theorem Tryz.tyd90:tyD Tryz.prog 90=some ⟨.slice 5 1 1 [.int .u8 0],1,[.slice none 0 0]⟩:=by kernel_rfl
@[go_sem] theorem Tryz.tyd96:tyD Tryz.prog 96=some ⟨.ptr,1,[.pointer none]⟩:=by kernel_rfl
@[go_sem] theorem Tryz.tyd100:tyD Tryz.prog 100=some ⟨.slice 9 1 16 [.string ⟨#[]⟩],1,[.slice none 0 0]⟩:=by kernel_rfl
@[go_sem] theorem Tryz.tyd102:tyD Tryz.prog 102=some ⟨.map 108 27 (.slice none 0 0),1,[.map none]⟩:=by kernel_rfl
@[go_sem] theorem Tryz.tyd103:tyD Tryz.prog 103=some ⟨.slice 27 1 24 [.slice none 0 0],1,[.slice none 0 0]⟩:=by kernel_rfl
@[go_sem] theorem Tryz.tyd104:tyD Tryz.prog 104=some ⟨.struct [(0,26,5),(5,96,1),(6,100,1),(7,102,1),(8,103,1)] true,9,[.string ⟨#[]⟩, .int .i64 0, .slice none 0 0, .slice none 0 0, .slice none 0 0, .pointer none, .slice none 0 0, .map none, .slice none 0 0]⟩:=by kernel_rfl
@[go_sem] theorem Tryz.tyd105:tyD Tryz.prog 105=some ⟨.struct [(0,26,5),(5,96,1),(6,100,1),(7,102,1),(8,103,1)] true,9,[.string ⟨#[]⟩, .int .i64 0, .slice none 0 0, .slice none 0 0, .slice none 0 0, .pointer none, .slice none 0 0, .map none, .slice none 0 0]⟩:=by kernel_rfl
@[go_sem] theorem Tryz.tyd107:tyD Tryz.prog 107=some ⟨.struct [(0,3,1),(1,3,1)] true,2,[.int .i64 0, .int .i64 0]⟩:=by kernel_rfl
@[go_sem] theorem Tryz.tyd108:tyD Tryz.prog 108=some ⟨.struct [(0,3,1),(1,3,1)] true,2,[.int .i64 0, .int .i64 0]⟩:=by kernel_rfl
@[go_sem] theorem Tryz.tyd113:tyD Tryz.prog 113=some ⟨.struct [(0,9,1),(1,3,1)] true,2,[.string ⟨#[]⟩, .int .i64 0]⟩:=by kernel_rfl
@[go_sem] theorem Tryz.tyd114:tyD Tryz.prog 114=some ⟨.struct [(0,9,1),(1,3,1)] true,2,[.string ⟨#[]⟩, .int .i64 0]⟩:=by kernel_rfl
@[go_sem] theorem Tryz.tyd118:tyD Tryz.prog 118=some ⟨.slice 4 1 1 [.bool false],1,[.slice none 0 0]⟩:=by kernel_rfl
@[go_sem] theorem Tryz.tyd119:tyD Tryz.prog 119=some ⟨.struct [(0,27,1),(1,3,1),(2,118,1)] true,3,[.slice none 0 0, .int .i64 0, .slice none 0 0]⟩:=by kernel_rfl
@[go_sem] theorem Tryz.tyd120:tyD Tryz.prog 120=some ⟨.struct [(0,27,1),(1,3,1),(2,118,1)] true,3,[.slice none 0 0, .int .i64 0, .slice none 0 0]⟩:=by kernel_rfl
@[go_sem] theorem Tryz.tyd122:tyD Tryz.prog 122=some ⟨.struct [(0,9,1),(1,3,1),(2,3,1),(3,3,1),(4,63,1),(5,63,1)] true,6,[.string ⟨#[]⟩, .int .i64 0, .int .i64 0, .int .i64 0, .slice none 0 0, .slice none 0 0]⟩:=by kernel_rfl
@[go_sem] theorem Tryz.tyd123:tyD Tryz.prog 123=some ⟨.struct [(0,9,1),(1,3,1),(2,3,1),(3,3,1),(4,63,1),(5,63,1)] true,6,[.string ⟨#[]⟩, .int .i64 0, .int .i64 0, .int .i64 0, .slice none 0 0, .slice none 0 0]⟩:=by kernel_rfl
@[go_sem] theorem Tryz.tyd126:tyD Tryz.prog 126=some ⟨.ptr,1,[.pointer none]⟩:=by kernel_rfl
@[go_sem] theorem Tryz.tyd128:tyD Tryz.prog 128=some ⟨.struct [(0,31,5),(5,56,2),(7,41,1),(8,26,5),(13,3,1),(14,3,1)] true,15,[.slice none 0 0, .slice none 0 0, .slice none 0 0, .slice none 0 0, .bool false, .slice none 0 0, .slice none 0 0, .pointer none, .string ⟨#[]⟩, .int .i64 0, .slice none 0 0, .slice none 0 0, .slice none 0 0, .int .i64 0, .int .i64 0]⟩:=by kernel_rfl
@[go_sem] theorem Tryz.tyd129:tyD Tryz.prog 129=some ⟨.struct [(0,31,5),(5,56,2),(7,41,1),(8,26,5),(13,3,1),(14,3,1)] true,15,[.slice none 0 0, .slice none 0 0, .slice none 0 0, .slice none 0 0, .bool false, .slice none 0 0, .slice none 0 0, .pointer none, .string ⟨#[]⟩, .int .i64 0, .slice none 0 0, .slice none 0 0, .slice none 0 0, .int .i64 0, .int .i64 0]⟩:=by kernel_rfl
@[go_sem] theorem Tryz.tyd144:tyD Tryz.prog 144=some ⟨.struct [(0,9,1),(1,3,1)] true,2,[.string ⟨#[]⟩, .int .i64 0]⟩:=by kernel_rfl
@[go_sem] theorem Tryz.tyd145:tyD Tryz.prog 145=some ⟨.struct [(0,9,1),(1,3,1)] true,2,[.string ⟨#[]⟩, .int .i64 0]⟩:=by kernel_rfl
@[go_sem] theorem Tryz.tyd147:tyD Tryz.prog 147=some ⟨.struct [(0,9,1),(1,3,1)] true,2,[.string ⟨#[]⟩, .int .i64 0]⟩:=by kernel_rfl
@[go_sem] theorem Tryz.tyd148:tyD Tryz.prog 148=some ⟨.struct [(0,9,1),(1,3,1)] true,2,[.string ⟨#[]⟩, .int .i64 0]⟩:=by kernel_rfl
@[go_sem] theorem Tryz.tyd159:tyD Tryz.prog 159=some ⟨.ptr,1,[.pointer none]⟩:=by kernel_rfl
@[go_sem] theorem Tryz.tyd161:tyD Tryz.prog 161=some ⟨.ptr,1,[.pointer none]⟩:=by kernel_rfl
@[go_sem] theorem Tryz.tyd162:tyD Tryz.prog 162=some ⟨.struct [(0,9,1),(1,3,1),(2,37,1)] false,3,[.string ⟨#[]⟩, .int .i64 0, .nilIface]⟩:=by kernel_rfl
@[go_sem] theorem Tryz.tyd163:tyD Tryz.prog 163=some ⟨.struct [(0,9,1),(1,3,1),(2,37,1)] false,3,[.string ⟨#[]⟩, .int .i64 0, .nilIface]⟩:=by kernel_rfl
@[go_sem] theorem Tryz.tyd169:tyD Tryz.prog 169=some ⟨.ptr,1,[.pointer none]⟩:=by kernel_rfl
@[go_sem] theorem Tryz.tyd170:tyD Tryz.prog 170=some ⟨.struct [(0,90,1),(1,37,1)] false,2,[.slice none 0 0, .nilIface]⟩:=by kernel_rfl
@[go_sem] theorem Tryz.tyd171:tyD Tryz.prog 171=some ⟨.struct [(0,90,1),(1,37,1)] false,2,[.slice none 0 0, .nilIface]⟩:=by kernel_rfl
@[go_sem] theorem Tryz.tyd173:tyD Tryz.prog 173=some ⟨.arr 2 3 1,2,[.int .i64 0, .int .i64 0]⟩:=by kernel_rfl
@[go_sem] theorem Tryz.tyd178:tyD Tryz.prog 178=some ⟨.ptr,1,[.pointer none]⟩:=by kernel_rfl
@[go_sem] theorem Tryz.tyd179:tyD Tryz.prog 179=some ⟨.struct [(0,90,1),(1,3,1),(2,4,1)] true,3,[.slice none 0 0, .int .i64 0, .bool false]⟩:=by kernel_rfl
@[go_sem] theorem Tryz.tyd180:tyD Tryz.prog 180=some ⟨.struct [(0,90,1),(1,3,1),(2,4,1)] true,3,[.slice none 0 0, .int .i64 0, .bool false]⟩:=by kernel_rfl
@[go_sem] theorem Tryz.tyd181:tyD Tryz.prog 181=some ⟨.struct [(0,180,3)] true,3,[.slice none 0 0, .int .i64 0, .bool false]⟩:=by kernel_rfl
@[go_sem] theorem Tryz.tyd182:tyD Tryz.prog 182=some ⟨.struct [(0,180,3)] true,3,[.slice none 0 0, .int .i64 0, .bool false]⟩:=by kernel_rfl
@[go_sem] theorem Tryz.tyd186:tyD Tryz.prog 186=some ⟨.slice 188 1 4 [.int .u32 0],1,[.slice none 0 0]⟩:=by kernel_rfl
@[go_sem] theorem Tryz.tyd187:tyD Tryz.prog 187=some ⟨.int .u32,1,[.int .u32 0]⟩:=by kernel_rfl
@[go_sem] theorem Tryz.tyd188:tyD Tryz.prog 188=some ⟨.int .u32,1,[.int .u32 0]⟩:=by kernel_rfl
@[go_sem] theorem Tryz.tyd189:tyD Tryz.prog 189=some ⟨.struct [(0,27,1),(1,27,1),(2,186,1),(3,186,1),(4,27,1),(5,27,1),(6,188,1)] true,7,[.slice none 0 0, .slice none 0 0, .slice none 0 0, .slice none 0 0, .slice none 0 0, .slice none 0 0, .int .u32 0]⟩:=by kernel_rfl
@[go_sem] theorem Tryz.tyd190:tyD Tryz.prog 190=some ⟨.struct [(0,27,1),(1,27,1),(2,186,1),(3,186,1),(4,27,1),(5,27,1),(6,188,1)] true,7,[.slice none 0 0, .slice none 0 0, .slice none 0 0, .slice none 0 0, .slice none 0 0, .slice none 0 0, .int .u32 0]⟩:=by kernel_rfl
@[go_sem] theorem Tryz.tyd196:tyD Tryz.prog 196=some ⟨.struct [(0,3,1),(1,3,1)] true,2,[.int .i64 0, .int .i64 0]⟩:=by kernel_rfl
@[go_sem] theorem Tryz.tyd197:tyD Tryz.prog 197=some ⟨.struct [(0,3,1),(1,3,1)] true,2,[.int .i64 0, .int .i64 0]⟩:=by kernel_rfl
@[go_sem] theorem Tryz.tyd223:tyD Tryz.prog 223=some ⟨.struct [(0,3,1),(1,3,1),(2,9,1),(3,62,1)] true,4,[.int .i64 0, .int .i64 0, .string ⟨#[]⟩, .slice none 0 0]⟩:=by kernel_rfl
@[go_sem] theorem Tryz.tyd224:tyD Tryz.prog 224=some ⟨.struct [(0,3,1),(1,3,1),(2,9,1),(3,62,1)] true,4,[.int .i64 0, .int .i64 0, .string ⟨#[]⟩, .slice none 0 0]⟩:=by kernel_rfl
@[go_sem] theorem Tryz.tyd237:tyD Tryz.prog 237=some ⟨.int .u64,1,[.int .u64 0]⟩:=by kernel_rfl
@[go_sem] theorem Tryz.tyd238:tyD Tryz.prog 238=some ⟨.struct [(0,17,1),(1,236,1),(2,237,1)] false,3,[.pointer none, .pointer none, .int .u64 0]⟩:=by kernel_rfl
@[go_sem] theorem Tryz.tyd239:tyD Tryz.prog 239=some ⟨.struct [(0,17,1),(1,236,1),(2,237,1)] false,3,[.pointer none, .pointer none, .int .u64 0]⟩:=by kernel_rfl
@[go_sem] theorem Tryz.tyd241:tyD Tryz.prog 241=some ⟨.iface,1,[.nilIface]⟩:=by kernel_rfl
@[go_sem] theorem Tryz.tyd242:tyD Tryz.prog 242=some ⟨.iface,1,[.nilIface]⟩:=by kernel_rfl
@[go_sem] theorem Tryz.tyd244:tyD Tryz.prog 244=some ⟨.int .u8,1,[.int .u8 0]⟩:=by kernel_rfl
@[go_sem] theorem Tryz.tyd254:tyD Tryz.prog 254=some ⟨.slice 173 2 16 [.int .i64 0, .int .i64 0],1,[.slice none 0 0]⟩:=by kernel_rfl
@[go_sem] theorem Tryz.tyd256:tyD Tryz.prog 256=some ⟨.int .u64,1,[.int .u64 0]⟩:=by kernel_rfl
@[go_sem] theorem Tryz.tyd258:tyD Tryz.prog 258=some ⟨.ptr,1,[.pointer none]⟩:=by kernel_rfl
@[go_sem] theorem Tryz.tyd266:tyD Tryz.prog 266=some ⟨.int .u64,1,[.int .u64 0]⟩:=by kernel_rfl
@[go_sem] theorem Tryz.tyd282:tyD Tryz.prog 282=some ⟨.struct [(0,27,1),(1,3,1),(2,118,1)] true,3,[.slice none 0 0, .int .i64 0, .slice none 0 0]⟩:=by kernel_rfl
@[go_sem] theorem Tryz.tyd296:tyD Tryz.prog 296=some ⟨.struct [(0,17,1)] false,1,[.pointer none]⟩:=by kernel_rfl
@[go_sem] theorem Tryz.tyd297:tyD Tryz.prog 297=some ⟨.struct [(0,17,1)] false,1,[.pointer none]⟩:=by kernel_rfl
@[go_sem] theorem Tryz.tyd298:tyD Tryz.prog 298=some ⟨.ptr,1,[.pointer none]⟩:=by kernel_rfl
@[go_sem] theorem Tryz.tyd301:tyD Tryz.prog 301=some ⟨.iface,1,[.nilIface]⟩:=by kernel_rfl
@[go_sem] theorem Tryz.tyd304:tyD Tryz.prog 304=some ⟨.iface,1,[.nilIface]⟩:=by kernel_rfl
@[go_sem] theorem Tryz.tyd306:tyD Tryz.prog 306=some ⟨.iface,1,[.nilIface]⟩:=by kernel_rfl
@[go_sem] theorem Tryz.tyd307:tyD Tryz.prog 307=some ⟨.slice 37 1 16 [.nilIface],1,[.slice none 0 0]⟩:=by kernel_rfl
@[go_sem] theorem Tryz.tyd309:tyD Tryz.prog 309=some ⟨.iface,1,[.nilIface]⟩:=by kernel_rfl
@[go_sem] theorem Tryz.tyd317:tyD Tryz.prog 317=some ⟨.arr 32 5 1,32,[.int .u8 0, .int .u8 0, .int .u8 0, .int .u8 0, .int .u8 0, .int .u8 0, .int .u8 0, .int .u8 0, .int .u8 0, .int .u8 0, .int .u8 0, .int .u8 0, .int .u8 0, .int .u8 0, .int .u8 0, .int .u8 0, .int .u8 0, .int .u8 0, .int .u8 0, .int .u8 0, .int .u8 0, .int .u8 0, .int .u8 0, .int .u8 0, .int .u8 0, .int .u8 0, .int .u8 0, .int .u8 0, .int .u8 0, .int .u8 0, .int .u8 0, .int .u8 0]⟩:=by kernel_rfl
@[go_sem] theorem Tryz.tyd319:tyD Tryz.prog 319=some ⟨.int .i64,1,[.int .i64 0]⟩:=by kernel_rfl
@[go_sem] theorem Tryz.tyd336:tyD Tryz.prog 336=some ⟨.int .u64,1,[.int .u64 0]⟩:=by kernel_rfl
@[go_sem] theorem Tryz.tyd340:tyD Tryz.prog 340=some ⟨.ptr,1,[.pointer none]⟩:=by kernel_rfl
@[go_sem] theorem Tryz.tyd345:tyD Tryz.prog 345=some ⟨.map 3 3 (.int .i64 0),1,[.map none]⟩:=by kernel_rfl
@[go_sem] theorem Tryz.tyd360:tyD Tryz.prog 360=some ⟨.ptr,1,[.pointer none]⟩:=by kernel_rfl
@[go_sem] theorem Tryz.tyd379:tyD Tryz.prog 379=some ⟨.ptr,1,[.pointer none]⟩:=by kernel_rfl
@[go_sem] theorem Tryz.tyd380:tyD Tryz.prog 380=some ⟨.struct [(0,17,1),(1,17,1),(2,17,1),(3,9,1)] false,4,[.pointer none, .pointer none, .pointer none, .string ⟨#[]⟩]⟩:=by kernel_rfl
@[go_sem] theorem Tryz.tyd381:tyD Tryz.prog 381=some ⟨.struct [(0,17,1),(1,17,1),(2,17,1),(3,9,1)] false,4,[.pointer none, .pointer none, .pointer none, .string ⟨#[]⟩]⟩:=by kernel_rfl
@[go_sem] theorem Tryz.tyd382:tyD Tryz.prog 382=some ⟨.arr 0 16 1,0,[]⟩:=by kernel_rfl
@[go_sem] theorem Tryz.tyd383:tyD Tryz.prog 383=some ⟨.struct [(0,382,0)] false,0,[]⟩:=by kernel_rfl
@[go_sem] theorem Tryz.tyd384:tyD Tryz.prog 384=some ⟨.struct [(0,382,0)] false,0,[]⟩:=by kernel_rfl
@[go_sem] theorem Tryz.tyd386:tyD Tryz.prog 386=some ⟨.int .u8,1,[.int .u8 0]⟩:=by kernel_rfl
@[go_sem] theorem Tryz.tyd388:tyD Tryz.prog 388=some ⟨.ptr,1,[.pointer none]⟩:=by kernel_rfl
@[go_sem] theorem Tryz.tyd389:tyD Tryz.prog 389=some ⟨.int .i32,1,[.int .i32 0]⟩:=by kernel_rfl
@[go_sem] theorem Tryz.tyd390:tyD Tryz.prog 390=some ⟨.int .i32,1,[.int .i32 0]⟩:=by kernel_rfl
@[go_sem] theorem Tryz.tyd391:tyD Tryz.prog 391=some ⟨.struct [(0,12,1),(1,12,1),(2,187,1),(3,386,1),(4,5,1),(5,5,1),(6,244,1),(7,387,1),(8,388,1),(9,389,1),(10,390,1)] false,11,[.int .u64 0, .int .u64 0, .int .u32 0, .int .u8 0, .int .u8 0, .int .u8 0, .int .u8 0, .nilFunc, .pointer none, .int .i32 0, .int .i32 0]⟩:=by kernel_rfl
@[go_sem] theorem Tryz.tyd392:tyD Tryz.prog 392=some ⟨.struct [(0,12,1),(1,12,1),(2,187,1),(3,386,1),(4,5,1),(5,5,1),(6,244,1),(7,387,1),(8,388,1),(9,389,1),(10,390,1)] false,11,[.int .u64 0, .int .u64 0, .int .u32 0, .int .u8 0, .int .u8 0, .int .u8 0, .int .u8 0, .nilFunc, .pointer none, .int .i32 0, .int .i32 0]⟩:=by kernel_rfl
@[go_sem] theorem Tryz.tyd395:tyD Tryz.prog 395=some ⟨.struct [(0,9,1),(1,244,1)] false,2,[.string ⟨#[]⟩, .int .u8 0]⟩:=by kernel_rfl
@[go_sem] theorem Tryz.tyd396:tyD Tryz.prog 396=some ⟨.struct [(0,9,1),(1,244,1)] false,2,[.string ⟨#[]⟩, .int .u8 0]⟩:=by kernel_rfl
@[go_sem] theorem Tryz.tyd397:tyD Tryz.prog 397=some ⟨.struct [(0,9,1)] true,1,[.string ⟨#[]⟩]⟩:=by kernel_rfl
@[go_sem] theorem Tryz.tyd398:tyD Tryz.prog 398=some ⟨.struct [(0,9,1)] true,1,[.string ⟨#[]⟩]⟩:=by kernel_rfl
@[go_sem] theorem Tryz.tyd399:tyD Tryz.prog 399=some ⟨.ptr,1,[.pointer none]⟩:=by kernel_rfl
@[go_sem] theorem Tryz.tyd401:tyD Tryz.prog 401=some ⟨.int .u16,1,[.int .u16 0]⟩:=by kernel_rfl
@[go_sem] theorem Tryz.tyd402:tyD Tryz.prog 402=some ⟨.struct [(0,389,1),(1,401,1),(2,401,1),(3,187,1),(4,187,1)] false,5,[.int .i32 0, .int .u16 0, .int .u16 0, .int .u32 0, .int .u32 0]⟩:=by kernel_rfl
@[go_sem] theorem Tryz.tyd403:tyD Tryz.prog 403=some ⟨.struct [(0,389,1),(1,401,1),(2,401,1),(3,187,1),(4,187,1)] false,5,[.int .i32 0, .int .u16 0, .int .u16 0, .int .u32 0, .int .u32 0]⟩:=by kernel_rfl
@[go_sem] theorem Tryz.tyd404:tyD Tryz.prog 404=some ⟨.slice 407 4 16 [.int .i32 0, .int .i32 0, .int .i32 0, .int .i32 0],1,[.slice none 0 0]⟩:=by kernel_rfl
@[go_sem] theorem Tryz.tyd405:tyD Tryz.prog 405=some ⟨.int .i32,1,[.int .i32 0]⟩:=by kernel_rfl
@[go_sem] theorem Tryz.tyd406:tyD Tryz.prog 406=some ⟨.struct [(0,389,1),(1,390,1),(2,405,1),(3,405,1)] false,4,[.int .i32 0, .int .i32 0, .int .i32 0, .int .i32 0]⟩:=by kernel_rfl
@[go_sem] theorem Tryz.tyd407:tyD Tryz.prog 407=some ⟨.struct [(0,389,1),(1,390,1),(2,405,1),(3,405,1)] false,4,[.int .i32 0, .int .i32 0, .int .i32 0, .int .i32 0]⟩:=by kernel_rfl
@[go_sem] theorem Tryz.tyd408:tyD Tryz.prog 408=some ⟨.ptr,1,[.pointer none]⟩:=by kernel_rfl
theorem Tryz.mixed:Tryz.prog.follows .mixedOrders=true:=by kernel_rfl
end
section
open Go.RowKit
theorem Sim.nilRow {x:Ctx} {s:St} {a:Act} {w:World} {m:Mem} (h:Sim x s a w m) (r t:Nat) (e:TypeId) (sz:Nat) (hsz:0<sz) (ht:s.f t= .lit (.slice none 0 0)):
 Sim x ((s.renew r ⟨sz,[],e,true⟩ false).put (some t) (.row r (s.vs r+1))) a w ⟨m.S,upd m.ρ r (.slice none 0 0)⟩:=by
 have h1:=h.renew r ⟨sz,[],e,true⟩ false (.slice none 0 0) m.S (Below.refl _ _) (fun b o hh=>⟨hh, .rfl⟩) (fun b o hh=> .inl hh) (fun k row' hk hr g hg=>⟨rfl,by simp [Value.ownBlock],fun o hh=>hh⟩)
  (.inl ⟨hsz,fun i e' he=>by simp at he,⟨[],by simp only [upd_same]; exact World.ownsRow_nil _ _ _ _,by simp,fun i j c hc=>by simp [cellAt] at hc⟩,(fun he=>by simp [St.renew,upd_same] at he),(fun g hg=>by simp [upd_same,Value.ownBlock] at hg),(fun _ g hg=>by simp [upd_same,Value.ownBlock] at hg)⟩) (fun b _=>⟨rfl,fun _ hh=>hh,by simp [Value.ownBlock]⟩)
 refine { h1 with dfs:=h1.dfs,siz:=h1.siz,slot:=fun t'=> ?_,rows:=fun r' row hr=> ?_ }
 ·have key:RL w ⟨m.S,upd m.ρ r (.slice none 0 0)⟩ (s.renew r ⟨sz,[],e,true⟩ false) (a.tmps.getD t' undef) (upd (s.renew r ⟨sz,[],e,true⟩ false).f t (.row r (s.vs r+1)) t'):=by
   by_cases e1:t'=t
   ·subst e1
    rw [upd_same]
    have hv:=h.slot t'
    rw [ht] at hv
    have hv:=hv.lit_
    rw [hv]
    exact .row r (s.vs r+1) rfl (by simp [St.renew,upd_same]) fun _ row _=>by simp [upd_same]
   ·rw [upd_ne _ _ _ e1]
    exact h1.slot t'
  exact RL.put key (some t) _
 ·exact(h1.rows r' row hr).mono (s':=(s.renew r ⟨sz,[],e,true⟩ false).put (some t) (.row r (s.vs r+1))) (fun b o hb=>⟨hb, .rfl⟩) (fun _=>Nat.le_refl _) (fun r row' _ hr=>⟨row',hr,rfl,rfl⟩) rfl (fun _ _=>rfl) rfl (fun _ _ _ hh=>hh)
section
variable {P:Program} {env:Env} {nt:Nat} {Q:Exit->St->Prop} {s:St}
theorem zaX {c:Code} (r t:Nat) (e:TypeId) (sz:Nat) (h:awp P env nt c Q ((s.renew r ⟨sz,[],e,true⟩ false).put (some t) (.row r (s.vs r+1)))) (hsz:0<sz:=by decide) (ht:Is (s.f t) (.lit (.slice none 0 0)):=by simp only [go_sem,reduceIte, ↓reduceIte,Nat.reduceEqDiff,reduceCtorEq]; exact iR):awp P env nt c Q s:=
 fun ro x he hn a w _ hS=>h ro x he hn a w _ (hS.nilRow r t e sz hsz ht)
theorem RStr.own_nil (e:TypeId) (sz:Nat) (hsz:0<sz):RStr (.lit (.slice none 0 0)) (.own e sz []):=fun S w base v hr=>by
 have hv:v= .slice none 0 0:=by
  have hr:RV S w v (.lit (.slice none 0 0)):=hr
  cases hr
  rfl
 subst hv
 exact⟨[],World.ownsRow_nil _ _ _ _,hsz,⟨by simp,by simp,fun i e he=>by simp at he,fun i j c hc=>by simp [cellAt] at hc⟩,fun g hg=>by simp [Value.ownBlock] at hg⟩
end
end
section
open Go.RowKit
abbrev I (n:Int):AV:= .lit (.int .i64 n)
abbrev U (n:Int):AV:= .lit (.int .u64 n)
abbrev B (b:Bool):AV:= .lit (.bool b)
abbrev Sg (s:List UInt8):AV:= .lit (.string ⟨s.toArray⟩)
abbrev nilS:AV:= .lit (.slice none 0 0)
end
section
open Go.RowKit Go.ChangeShapes Go.WideShapes Go.Deep
def zrO {α:Type} (size:Nat) (R:List Value->α->Prop) (xs:List Value) (l:List α):Prop:=
 xs.length=l.length*size/\ ∀i (h:i<l.length),R ((xs.drop (i*size)).take size) l[i]
def zcN {α:Type} (w:World) (B size:Nat) (R:List Value->α->Prop) (v:Value) (l:List α):Prop:=
 ∃A c xs,v= .slice A l.length c/\l.length<=c/\l.length<=maxLen/\Reads w B size A l.length xs/\zrO size R xs l
theorem elem_len {α:Type} {size:Nat} {R:List Value->α->Prop} {xs:List Value} {l:List α} (h:zrO size R xs l) (i:Nat) (hi:i<l.length):((xs.drop (i*size)).take size).length=size:=by
 have h1:=h.1
 have h2:(i+1)*size<=l.length*size:=Nat.mul_le_mul_right _ (by omega)
 rw [Nat.add_mul,Nat.one_mul] at h2
 simp
 omega
theorem zcN.elem {α:Type} {w:World} {B size:Nat} {R:List Value->α->Prop} {A:Option Addr} {n c:Nat} {l:List α} (h:zcN w B size R (.slice A n c) l) (k:Nat) (hk:k<l.length):
 ∃b off cs,A=some ⟨b,off,none⟩/\b<B/\R cs l[k]/\cs.length=size/\ ∀j u,cs[j]? =some u->w.cell? ⟨b,off+k*size+j,none⟩=some u:=by
 obtain⟨A',c',xs,e,_,_,hr,hrow⟩:=h
 cases e
 obtain⟨b,off,rfl,hb,hc⟩:=hr.2 (by omega)
 refine⟨b,off,_,rfl,hb,hrow.2 k hk,elem_len hrow k hk,fun j u hu=> ?_⟩
 rw [Nat.add_assoc]
 apply hc
 rw [List.getElem?_take] at hu
 split at hu
 ·rw [List.getElem?_drop] at hu
  exact hu
 ·cases hu
theorem zcN.form {α:Type} {w:World} {B size:Nat} {R:List Value->α->Prop} {v:Value} {l:List α} (h:zcN w B size R v l): ∃A c,v= .slice A l.length c/\l.length<=c/\l.length<=maxLen:=by
 obtain⟨A,c,xs,e,h1,h2,_⟩:=h
 exact⟨A,c,e,h1,h2⟩
theorem zcN.moved {α:Type} {w w':World} {B size:Nat} {R R':List Value->α->Prop} {v:Value} {l:List α} (h:zcN w B size R v l) (hk: ∀b off,b<B->w'.cell? ⟨b,off,none⟩=w.cell? ⟨b,off,none⟩) (hR: ∀cs a,a∈l->R cs a->R' cs a):zcN w' B size R' v l:=by
 obtain⟨A,c,xs,e,h1,h2,h3,h4⟩:=h
 exact⟨A,c,xs,e,h1,h2,h3.moved hk,h4.1,fun i hi=>hR _ _ (List.getElem_mem _) (h4.2 i hi)⟩
theorem zcN.wider {α:Type} {w:World} {B B' size:Nat} {R R':List Value->α->Prop} {v:Value} {l:List α} (h:zcN w B size R v l) (hB:B<=B') (hR: ∀cs a,a∈l->R cs a->R' cs a):zcN w B' size R' v l:=by
 obtain⟨A,c,xs,e,h1,h2,h3,h4⟩:=h
 exact⟨A,c,xs,e,h1,h2,h3.wider hB,h4.1,fun i hi=>hR _ _ (List.getElem_mem _) (h4.2 i hi)⟩
theorem flat_len {α:Type} (f:Nat->List α) (size:Nat): ∀n,(∀i,i<n->(f i).length=size)->((List.range n).flatMap f).length=n*size
 | 0,_=>by simp
 | n+1,h=>by
   rw [List.range_succ,List.flatMap_append,List.length_append,flat_len f size n (fun i hi=>h i (by omega)),Nat.add_mul]
   simp [h n (by omega)]
theorem zd0 {α:Type} (f:Nat->List α) (size:Nat): ∀n,(∀i,i<n->(f i).length=size)-> ∀i,i<n->(((List.range n).flatMap f).drop (i*size)).take size=f i
 | 0,_,i,hi=>by omega
 | n+1,h,i,hi=>by
   have hl:=flat_len f size n (fun i hi=>h i (by omega))
   rw [List.range_succ,List.flatMap_append]
   by_cases e:i=n
   ·subst e
    rw [<-hl,List.drop_left]
    simp [<-h i (by omega)]
   ·have h2:(i+1)*size<=n*size:=Nat.mul_le_mul_right _ (by omega)
    rw [Nat.add_mul,Nat.one_mul] at h2
    rw [List.drop_append_of_le_length (by omega),List.take_append_of_le_length (by rw [List.length_drop,hl]; omega)]
    exact zd0 f size n (fun i hi=>h i (by omega)) i (by omega)
theorem zqt {α:Type} {n:Nat} {p:Nat->α->Prop} (h: ∀i,i<n-> ∃a,p i a): ∃l:List α,l.length=n/\ ∀i (hi:i<l.length),p i l[i]:=by
 induction n with
 | zero=>exact⟨[],rfl,fun i hi=>by simp at hi⟩
 | succ n ih=>
   obtain⟨l,hl,hp⟩:=ih (fun i hi=>h i (by omega))
   obtain⟨a,ha⟩:=h n (by omega)
   refine⟨l++[a],by simp [hl],fun i hi=> ?_⟩
   by_cases e:i<l.length
   ·rw [List.getElem_append_left e]
    exact hp i e
   ·have:i=l.length:=by simp at hi; omega
    subst this
    simp
    rw [hl]
    exact ha
section
variable {H:Type} {enc:TypeId×Value->H} {P:Program} {w:World} {base:Nat} {spare:Nat->Bool} {held:Bool}
theorem open_list {α:Type} {t e:TypeId} {size fuel:Nat} {R:List Value->α->Prop} {cs:List Value} {x:DataW H×List MemPlace} (ht:P.underlying t=some (.slice e)) (hC:P.cellsOf e=size) (hpos:0<size)
 (hR: ∀(m:Nat) (cs:List Value) (y:DataW H×List MemPlace),DataW.trod enc P w base spare held m e cs=some y-> ∃a,R cs a)
 (h:DataW.trod enc P w base spare held fuel t cs=some x): ∃v l,cs=[v]/\zcN w w.heap.size size R v l:=by
 rcases open_slice ht h with⟨rfl,_⟩ | ⟨a,len,cap,m,n,D,Pl,rfl,hb,hl,hm,hmm,_,hx⟩
 ·exact⟨_,[],rfl,none,0,[],rfl,Nat.le_refl _,Nat.zero_le _,Reads.empty _ _ _ _,by simp,fun i hi=>by simp at hi⟩
 have hlm:len<=m:=by rw [hmm]; split<;>omega
 rw [hC] at hx
 have hch: ∀i,∃cs':List Value,i<len->w.cells? base (a.add (i*size)) size=some cs'/\DataW.trod enc P w base spare held n e cs'=some (D i,Pl i):=fun i=>by
  by_cases hi:i<len
  ·obtain⟨cs',h1,h2⟩:=hx i (by omega)
   exact⟨cs',fun _=>⟨h1,h2⟩⟩
  ·exact⟨[],fun h=>absurd h hi⟩
 let f:Nat->List Value:=fun i=>(hch i).choose
 have hf: ∀i,i<len->w.cells? base (a.add (i*size)) size=some (f i)/\DataW.trod enc P w base spare held n e (f i)=some (D i,Pl i):=fun i hi=>(hch i).choose_spec hi
 have hfl: ∀i,i<len->(f i).length=size:=fun i hi=>(World.cells?_some (hf i hi).1).2.1
 obtain⟨l,hll,hl2⟩:=zqt (n:=len) (p:=fun i a=>R (f i) a) fun i hi=>hR _ _ _ (hf i hi).2
 refine⟨_,l,rfl,some a,cap,(List.range len).flatMap f,by rw [hll],by omega,by omega,⟨by rw [hll,flat_len f size len hfl],fun hn=> ?_⟩,by rw [hll,flat_len f size len hfl],fun i hi=> ?_⟩
 ·rw [hll] at hn
  have h0:=World.cells?_some (hf 0 hn).1
  have hc0:=h0.2.2 0 hpos
  have hsp:a.spot=none:=by
   rw [Nat.zero_mul] at hc0
   have:(f 0)[0]? =some ((f 0)[0]'(by rw [hfl 0 hn]; exact hpos)):=List.getElem?_eq_getElem _
   rw [this] at hc0
   have e:(a.add 0).add 0=a:=rfl
   rw [e] at hc0
   unfold World.cell? at hc0
   cases hs:a.spot with
   | none=>rfl
   | some s=>
     rw [hs] at hc0
     split at hc0<;>simp at hc0
  obtain⟨b,off,sp⟩:=a
  simp only at hsp
  subst hsp
  have hcell: ∀j u,((List.range len).flatMap f)[j]? =some u->w.cell? ⟨b,off+j,none⟩=some u:=by
   intro j u hu
   have hj:j<len*size:=by
    rcases Nat.lt_or_ge j (len*size) with h | h
    ·exact h
    ·rw [List.getElem?_eq_none (by rw [flat_len f size len hfl]; exact h)] at hu
     cases hu
   have hq:j/size<len:=Nat.div_lt_of_lt_mul (by rw [Nat.mul_comm]; exact hj)
   have hr:j%size<size:=Nat.mod_lt _ hpos
   have hpart:=zd0 f size len hfl (j/size) hq
   have e:j=j/size*size+j%size:=by rw [Nat.mul_comm]; exact(Nat.div_add_mod j size).symm
   have hget:(f (j/size))[j%size]? =some u:=by
    rw [<-hpart,List.getElem?_take,if_pos hr,List.getElem?_drop, <-e]
    exact hu
   have:=(World.cells?_some (hf _ hq).1).2.2 (j%size) hr
   rw [hget,add_plain,add_plain,Nat.add_assoc, <-e] at this
   exact this
  refine⟨b,off,rfl, ?_,hcell⟩
  have hx0:((List.range len).flatMap f)[0]? =some (((List.range len).flatMap f)[0]'(by rw [flat_len f size len hfl]; exact Nat.mul_pos hn hpos)):=List.getElem?_eq_getElem _
  exact World.block_lt_of_cell? w ⟨b,off+0,none⟩ (hcell 0 _ hx0)
 ·rw [zd0 f size len hfl i (by omega)]
  exact hl2 i hi
end
/-! Elements of one cell -/
def OneR {α:Type} (f:α->Value) (cs:List Value) (a:α):Prop:=cs=[f a]
theorem zsi {α:Type} {f:α->Value} {l:List α} {xs:List Value} (h:zrO 1 (OneR f) xs l):xs=l.map f:=by
 apply List.ext_getElem
 ·simpa using h.1
 ·intro i h1 h2
  have hi:i<l.length:=by simpa using h2
  have:=h.2 i hi
  unfold OneR at this
  rw [Nat.mul_one] at this
  have h3:((xs.drop i).take 1)[0]? =some (f l[i]):=by rw [this]; rfl
  rw [List.getElem?_take,if_pos (by omega),List.getElem?_drop,Nat.add_zero,List.getElem?_eq_getElem h1] at h3
  simpa using h3
theorem zcN.one {α:Type} {w:World} {B:Nat} {f:α->Value} {v:Value} {l:List α} (h:zcN w B 1 (OneR f) v l): ∃A c,v= .slice A l.length c/\l.length<=c/\l.length<=maxLen/\Reads w B 1 A l.length (l.map f):=by
 obtain⟨A,c,xs,e,h1,h2,h3,h4⟩:=h
 rw [zsi h4] at h3
 exact⟨A,c,e,h1,h2,h3⟩
section
variable {H:Type} {enc:TypeId×Value->H} {P:Program} {w:World} {base:Nat} {spare:Nat->Bool} {held:Bool}
end
end
section
open Go.RowKit
def RVs (S:Nat->Nat->Prop) (w:World):List Value->List AV->Prop
 | [],[]=>True
 | v::vs,c::cs=>(v.oneCell'=true/\RV S w v c)/\RVs S w vs cs
 | _,_=>False
def RAs (S:Nat->Nat->Prop) (w:World):List Value->List AV->Prop
 | [],[]=>True
 | v::vs,c::cs=>RV S w v c/\RAs S w vs cs
 | _,_=>False
section
variable {S:Nat->Nat->Prop} {w:World}
theorem RVs.at_: ∀ {vs:List Value} {cs:List AV},RVs S w vs cs->vs.length=cs.length/\ ∀(i:Nat) (v:Value) (c:AV),vs[i]? =some v->cs[i]? =some c->v.oneCell'=true/\RV S w v c
 | [],[],_=>⟨rfl,fun i v c h _=>by simp at h⟩
 | v::vs,c::cs,⟨h,hs⟩=>by
   obtain⟨h1,h2⟩:=RVs.at_ hs
   refine⟨by simp [h1],fun i u d hu hd=> ?_⟩
   cases i with
   | zero=>
     simp only [List.getElem?_cons_zero,Option.some.injEq] at hu hd
     subst hu hd
     exact h
   | succ i=>exact h2 i u d (by simpa using hu) (by simpa using hd)
 | [],_::_,h=>h.elim
 | _::_,[],h=>h.elim
theorem RAs.at_: ∀ {vs:List Value} {cs:List AV},RAs S w vs cs->vs.length=cs.length/\ ∀(i:Nat) (v:Value) (c:AV),vs[i]? =some v->cs[i]? =some c->RV S w v c
 | [],[],_=>⟨rfl,fun i v c h _=>by simp at h⟩
 | v::vs,c::cs,⟨h,hs⟩=>by
   obtain⟨h1,h2⟩:=RAs.at_ hs
   refine⟨by simp [h1],fun i u d hu hd=> ?_⟩
   cases i with
   | zero=>
     simp only [List.getElem?_cons_zero,Option.some.injEq] at hu hd
     subst hu hd
     exact h
   | succ i=>exact h2 i u d (by simpa using hu) (by simpa using hd)
 | [],_::_,h=>h.elim
 | _::_,[],h=>h.elim
theorem RVs.agg {vs:List Value} {cs:List AV} (h:RVs S w vs cs):RV S w (.agg vs.toArray) (.agg cs):=by
 obtain⟨h1,h2⟩:=h.at_
 refine .agg vs cs h1 (fun v hv=> ?_) fun i v c hv hc=>(h2 i v c hv hc).2
 obtain⟨i,hi,rfl⟩:=List.getElem_of_mem hv
 exact(h2 i _ _ (List.getElem?_eq_getElem hi) (List.getElem?_eq_getElem (by omega))).1
theorem RV.lit_inv {v u:Value} (h:RV S w v (.lit u)):v=u:=by
 cases h; rfl
end
theorem zqs {α:Type} {w:World} {B size:Nat} {R:List Value->α->Prop} {v:Value} {l:List α} (enc:α->List AV) (hz: ∀a,(enc a).length=size) (h:zcN w B size R v l)
 (hR: ∀cs a,a∈l->R cs a-> ∀(j:Nat) (u:Value) (c:AV),cs[j]? =some u->(enc a)[j]? =some c->u.oneCell'=true/\RV (fun b _=>b<B) w u c):RV (fun b _=>b<B) w v (.seq size (l.map enc)):=by
 obtain⟨A,c,xs,rfl,hc,hm,hr,hrow⟩:=h
 have hz': ∀(i:Nat) (e:List AV),(l.map enc)[i]? =some e->e.length=size:=fun i e he=>by
  rw [List.getElem?_map] at he
  cases hx:l[i]? with
  | none=>rw [hx] at he; cases he
  | some a=>rw [hx] at he; cases he; exact hz a
 have key: ∀(i j:Nat) (c:AV),cellAt (l.map enc) i j=some c-> ∃u,xs[i*size+j]? =some u/\u.oneCell'=true/\RV (fun b _=>b<B) w u c:=fun i j c hh=>by
  have hlt:=zcg hz' hh
  rw [List.length_map] at hlt
  have hj:(enc (l[i]'hlt.1))[j]? =some c:=by
   unfold cellAt at hh
   rw [List.getElem?_map,List.getElem?_eq_getElem hlt.1] at hh
   exact hh
  have hlen:=elem_len hrow i hlt.1
  have hju:((xs.drop (i*size)).take size)[j]? =some (((xs.drop (i*size)).take size)[j]'(by omega)):=List.getElem?_eq_getElem _
  refine⟨_, ?_,hR _ _ (List.getElem_mem hlt.1) (hrow.2 i hlt.1) j _ c hju hj⟩
  rw [<-hju,List.getElem?_take,if_pos hlt.2,List.getElem?_drop]
 by_cases h0:l=[]
 ·subst h0
  exact .seq A 0 c size [] 0 0 (fun _ _=>undef) rfl (Nat.zero_le _) (fun h=>by omega) (fun i e he=>by simp at he) (fun i j c hc=>by simp [cellAt] at hc) (fun i j c hc=>by simp [cellAt] at hc)
 ·obtain⟨b,off,rfl,hb,hcell⟩:=hr.2 (List.length_pos_iff.2 h0)
  refine .seq _ _ c size _ b off (fun i j=>xs.getD (i*size+j) undef) (by simp) hc (fun _=>rfl) hz' (fun i j c hh=> ?_) fun i j c hh=> ?_
  ·obtain⟨u,h1,h2,_⟩:=key i j c hh
   have:xs.getD (i*size+j) undef=u:=by simp [List.getD,h1]
   rw [this]
   exact⟨hb,hcell _ u h1,h2⟩
  ·obtain⟨u,h1,_,h2⟩:=key i j c hh
   have:xs.getD (i*size+j) undef=u:=by simp [List.getD,h1]
   rw [this]
   exact h2
end

end Go.Proofs.YtnbjaghjdeicmaaGreatDoor