/- The facts of evaluation. No program is named here. -/
import Derived.Test.YtbjldjekgepopaaGreatDoorProg
import Derived.Test.YtbjldjekgepopaaGreatDoorT4
import Derived.Lib.SmallJoins
set_option maxRecDepth 100000
set_option maxHeartbeats 8000000
set_option linter.unusedSimpArgs false
namespace Go.Proofs.YtbjldjekgepopaaGreatDoor
open Go.Proofs.Tryz
section
open Go.RowKit
@[go_sem] theorem Tryz.tyds:tyD prog 2=some ⟨.int .i64,1,[.int .i64 0]⟩/\
  tyD prog 3=some ⟨.int .i64,1,[.int .i64 0]⟩/\
  tyD prog 4=some ⟨.bool,1,[.bool false]⟩/\
  tyD prog 5=some ⟨.int .u8,1,[.int .u8 0]⟩/\
  tyD prog 6=some ⟨.int .u8,1,[.int .u8 0]⟩/\
  tyD prog 7=some ⟨.struct [(0,2,1),(1,3,1),(2,4,1),(3,6,1)] true,4,[.int .i64 0, .int .i64 0, .bool false, .int .u8 0]⟩/\
  tyD prog 8=some ⟨.struct [(0,2,1),(1,3,1),(2,4,1),(3,6,1)] true,4,[.int .i64 0, .int .i64 0, .bool false, .int .u8 0]⟩/\
  tyD prog 9=some ⟨.string,1,[.string ⟨#[]⟩]⟩/\
  tyD prog 10=some ⟨.string,1,[.string ⟨#[]⟩]⟩/\
  tyD prog 11=some ⟨.string,1,[.string ⟨#[]⟩]⟩/\
  tyD prog 12=some ⟨.int .u64,1,[.int .u64 0]⟩/\
  tyD prog 13=some ⟨.struct [(0,9,1),(1,12,1)] false,2,[.string ⟨#[]⟩, .int .u64 0]⟩/\
  tyD prog 14=some ⟨.struct [(0,9,1),(1,12,1)] false,2,[.string ⟨#[]⟩, .int .u64 0]⟩/\
  tyD prog 15=some ⟨.ptr,1,[.pointer none]⟩/\
  tyD prog 16=some ⟨.ptr,1,[.pointer none]⟩/\
  tyD prog 17=some ⟨.ptr,1,[.pointer none]⟩/\
  tyD prog 18=some ⟨.struct [(0,17,1)] false,1,[.pointer none]⟩/\
  tyD prog 19=some ⟨.struct [(0,17,1)] false,1,[.pointer none]⟩/\
  tyD prog 20=some ⟨.iface,1,[.nilIface]⟩/\
  tyD prog 21=some ⟨.int .i32,1,[.int .i32 0]⟩/\
  tyD prog 22=some ⟨.slice 199 2 24 [.string ⟨#[]⟩, .int .i64 0],1,[.slice none 0 0]⟩/\
  tyD prog 23=some ⟨.slice 89 6 88 [.string ⟨#[]⟩, .int .i64 0, .int .i64 0, .int .i64 0, .slice none 0 0, .slice none 0 0],1,[.slice none 0 0]⟩/\
  tyD prog 24=some ⟨.slice 53 5 80 [.int .i64 0, .string ⟨#[]⟩, .slice none 0 0, .slice none 0 0, .int .i64 0],1,[.slice none 0 0]⟩/\
  tyD prog 25=some ⟨.struct [(0,9,1),(1,3,1),(2,22,1),(3,23,1),(4,24,1)] true,5,[.string ⟨#[]⟩, .int .i64 0, .slice none 0 0, .slice none 0 0, .slice none 0 0]⟩/\
  tyD prog 26=some ⟨.struct [(0,9,1),(1,3,1),(2,22,1),(3,23,1),(4,24,1)] true,5,[.string ⟨#[]⟩, .int .i64 0, .slice none 0 0, .slice none 0 0, .slice none 0 0]⟩/\
  tyD prog 27=some ⟨.slice 3 1 8 [.int .i64 0],1,[.slice none 0 0]⟩/\
  tyD prog 28=some ⟨.slice 162 2 32 [.int .i64 0, .slice none 0 0],1,[.slice none 0 0]⟩/\
  tyD prog 29=some ⟨.slice 108 2 24 [.string ⟨#[]⟩, .int .i64 0],1,[.slice none 0 0]⟩/\
  tyD prog 30=some ⟨.struct [(0,27,1),(1,27,1),(2,28,1),(3,29,1),(4,4,1)] true,5,[.slice none 0 0, .slice none 0 0, .slice none 0 0, .slice none 0 0, .bool false]⟩/\
  tyD prog 31=some ⟨.struct [(0,27,1),(1,27,1),(2,28,1),(3,29,1),(4,4,1)] true,5,[.slice none 0 0, .slice none 0 0, .slice none 0 0, .slice none 0 0, .bool false]⟩/\
  tyD prog 32=some ⟨.struct [(0,9,1),(1,3,1)] true,2,[.string ⟨#[]⟩, .int .i64 0]⟩/\
  tyD prog 33=some ⟨.struct [(0,9,1),(1,3,1)] true,2,[.string ⟨#[]⟩, .int .i64 0]⟩/\
  tyD prog 34=some ⟨.struct [(0,26,5),(5,31,5),(10,33,2),(12,3,1),(13,3,1)] true,14,[.string ⟨#[]⟩, .int .i64 0, .slice none 0 0, .slice none 0 0, .slice none 0 0, .slice none 0 0, .slice none 0 0, .slice none 0 0, .slice none 0 0, .bool false, .string ⟨#[]⟩, .int .i64 0, .int .i64 0, .int .i64 0]⟩/\
  tyD prog 35=some ⟨.struct [(0,26,5),(5,31,5),(10,33,2),(12,3,1),(13,3,1)] true,14,[.string ⟨#[]⟩, .int .i64 0, .slice none 0 0, .slice none 0 0, .slice none 0 0, .slice none 0 0, .slice none 0 0, .slice none 0 0, .slice none 0 0, .bool false, .string ⟨#[]⟩, .int .i64 0, .int .i64 0, .int .i64 0]⟩/\
  tyD prog 36=some ⟨.ptr,1,[.pointer none]⟩/\
  tyD prog 41=some ⟨.struct [(0,31,5),(5,27,1),(6,3,1),(7,3,1),(8,3,1)] true,9,[.slice none 0 0, .slice none 0 0, .slice none 0 0, .slice none 0 0, .bool false, .slice none 0 0, .int .i64 0, .int .i64 0, .int .i64 0]⟩/\
  tyD prog 42=some ⟨.struct [(0,31,5),(5,27,1),(6,3,1),(7,3,1),(8,3,1)] true,9,[.slice none 0 0, .slice none 0 0, .slice none 0 0, .slice none 0 0, .bool false, .slice none 0 0, .int .i64 0, .int .i64 0, .int .i64 0]⟩/\
  tyD prog 44=some ⟨.struct [(0,27,1),(1,3,1),(2,4,1)] true,3,[.slice none 0 0, .int .i64 0, .bool false]⟩/\
  tyD prog 45=some ⟨.struct [(0,27,1),(1,3,1),(2,4,1)] true,3,[.slice none 0 0, .int .i64 0, .bool false]⟩/\
  tyD prog 46=some ⟨.iface,1,[.nilIface]⟩/\
  tyD prog 47=some ⟨.iface,1,[.nilIface]⟩/\
  tyD prog 50=some ⟨.slice 92 2 16 [.int .i64 0, .int .i64 0],1,[.slice none 0 0]⟩/\
  tyD prog 51=some ⟨.slice 94 4 56 [.int .i64 0, .int .i64 0, .string ⟨#[]⟩, .slice none 0 0],1,[.slice none 0 0]⟩/\
  tyD prog 52=some ⟨.struct [(0,3,1),(1,9,1),(2,50,1),(3,51,1),(4,3,1)] true,5,[.int .i64 0, .string ⟨#[]⟩, .slice none 0 0, .slice none 0 0, .int .i64 0]⟩/\
  tyD prog 53=some ⟨.struct [(0,3,1),(1,9,1),(2,50,1),(3,51,1),(4,3,1)] true,5,[.int .i64 0, .string ⟨#[]⟩, .slice none 0 0, .slice none 0 0, .int .i64 0]⟩/\
  tyD prog 62=some ⟨.slice 33 2 24 [.string ⟨#[]⟩, .int .i64 0],1,[.slice none 0 0]⟩/\
  tyD prog 63=some ⟨.arr 2 3 1,2,[.int .i64 0, .int .i64 0]⟩/\
  tyD prog 64=some ⟨.slice 45 3 40 [.slice none 0 0, .int .i64 0, .bool false],1,[.slice none 0 0]⟩/\
  tyD prog 69=some ⟨.slice 42 9 152 [.slice none 0 0, .slice none 0 0, .slice none 0 0, .slice none 0 0, .bool false, .slice none 0 0, .int .i64 0, .int .i64 0, .int .i64 0],1,[.slice none 0 0]⟩/\
  tyD prog 79=some ⟨.struct [(0,3,1),(1,3,1),(2,3,1),(3,31,5)] true,8,[.int .i64 0, .int .i64 0, .int .i64 0, .slice none 0 0, .slice none 0 0, .slice none 0 0, .slice none 0 0, .bool false]⟩/\
  tyD prog 80=some ⟨.struct [(0,3,1),(1,3,1),(2,3,1),(3,31,5)] true,8,[.int .i64 0, .int .i64 0, .int .i64 0, .slice none 0 0, .slice none 0 0, .slice none 0 0, .slice none 0 0, .bool false]⟩/\
  tyD prog 81=some ⟨.slice 5 1 1 [.int .u8 0],1,[.slice none 0 0]⟩/\
  tyD prog 88=some ⟨.struct [(0,9,1),(1,3,1),(2,3,1),(3,3,1),(4,51,1),(5,51,1)] true,6,[.string ⟨#[]⟩, .int .i64 0, .int .i64 0, .int .i64 0, .slice none 0 0, .slice none 0 0]⟩/\
  tyD prog 89=some ⟨.struct [(0,9,1),(1,3,1),(2,3,1),(3,3,1),(4,51,1),(5,51,1)] true,6,[.string ⟨#[]⟩, .int .i64 0, .int .i64 0, .int .i64 0, .slice none 0 0, .slice none 0 0]⟩/\
  tyD prog 91=some ⟨.struct [(0,3,1),(1,3,1)] true,2,[.int .i64 0, .int .i64 0]⟩/\
  tyD prog 92=some ⟨.struct [(0,3,1),(1,3,1)] true,2,[.int .i64 0, .int .i64 0]⟩/\
  tyD prog 93=some ⟨.struct [(0,3,1),(1,3,1),(2,9,1),(3,50,1)] true,4,[.int .i64 0, .int .i64 0, .string ⟨#[]⟩, .slice none 0 0]⟩/\
  tyD prog 94=some ⟨.struct [(0,3,1),(1,3,1),(2,9,1),(3,50,1)] true,4,[.int .i64 0, .int .i64 0, .string ⟨#[]⟩, .slice none 0 0]⟩/\
  tyD prog 96=some ⟨.struct [(0,62,1),(1,3,1)] true,2,[.slice none 0 0, .int .i64 0]⟩/\
  tyD prog 97=some ⟨.struct [(0,62,1),(1,3,1)] true,2,[.slice none 0 0, .int .i64 0]⟩/\
  tyD prog 100=some ⟨.ptr,1,[.pointer none]⟩/\
  tyD prog 102=some ⟨.struct [(0,36,1),(1,31,5),(6,62,1),(7,45,3),(10,3,1),(11,3,1),(12,3,1)] true,13,[.pointer none, .slice none 0 0, .slice none 0 0, .slice none 0 0, .slice none 0 0, .bool false, .slice none 0 0, .slice none 0 0, .int .i64 0, .bool false, .int .i64 0, .int .i64 0, .int .i64 0]⟩/\
  tyD prog 103=some ⟨.struct [(0,36,1),(1,31,5),(6,62,1),(7,45,3),(10,3,1),(11,3,1),(12,3,1)] true,13,[.pointer none, .slice none 0 0, .slice none 0 0, .slice none 0 0, .slice none 0 0, .bool false, .slice none 0 0, .slice none 0 0, .int .i64 0, .bool false, .int .i64 0, .int .i64 0, .int .i64 0]⟩/\
  tyD prog 107=some ⟨.struct [(0,9,1),(1,3,1)] true,2,[.string ⟨#[]⟩, .int .i64 0]⟩/\
  tyD prog 108=some ⟨.struct [(0,9,1),(1,3,1)] true,2,[.string ⟨#[]⟩, .int .i64 0]⟩/\
  tyD prog 118=some ⟨.slice 4 1 1 [.bool false],1,[.slice none 0 0]⟩/\
  tyD prog 119=some ⟨.struct [(0,27,1),(1,3,1),(2,118,1)] true,3,[.slice none 0 0, .int .i64 0, .slice none 0 0]⟩/\
  tyD prog 120=some ⟨.struct [(0,27,1),(1,3,1),(2,118,1)] true,3,[.slice none 0 0, .int .i64 0, .slice none 0 0]⟩/\
  tyD prog 126=some ⟨.struct [(0,31,5),(5,27,1),(6,62,1),(7,3,1),(8,3,1),(9,3,1),(10,3,1)] true,11,[.slice none 0 0, .slice none 0 0, .slice none 0 0, .slice none 0 0, .bool false, .slice none 0 0, .slice none 0 0, .int .i64 0, .int .i64 0, .int .i64 0, .int .i64 0]⟩/\
  tyD prog 127=some ⟨.struct [(0,31,5),(5,27,1),(6,62,1),(7,3,1),(8,3,1),(9,3,1),(10,3,1)] true,11,[.slice none 0 0, .slice none 0 0, .slice none 0 0, .slice none 0 0, .bool false, .slice none 0 0, .slice none 0 0, .int .i64 0, .int .i64 0, .int .i64 0, .int .i64 0]⟩/\
  tyD prog 132=some ⟨.struct [(0,27,1),(1,62,1)] true,2,[.slice none 0 0, .slice none 0 0]⟩/\
  tyD prog 133=some ⟨.struct [(0,27,1),(1,62,1)] true,2,[.slice none 0 0, .slice none 0 0]⟩/\
  tyD prog 138=some ⟨.ptr,1,[.pointer none]⟩/\
  tyD prog 142=some ⟨.slice 9 1 16 [.string ⟨#[]⟩],1,[.slice none 0 0]⟩/\
  tyD prog 144=some ⟨.map 150 27 (.slice none 0 0),1,[.map none]⟩/\
  tyD prog 145=some ⟨.slice 27 1 24 [.slice none 0 0],1,[.slice none 0 0]⟩/\
  tyD prog 146=some ⟨.struct [(0,26,5),(5,138,1),(6,142,1),(7,144,1),(8,145,1)] true,9,[.string ⟨#[]⟩, .int .i64 0, .slice none 0 0, .slice none 0 0, .slice none 0 0, .pointer none, .slice none 0 0, .map none, .slice none 0 0]⟩/\
  tyD prog 147=some ⟨.struct [(0,26,5),(5,138,1),(6,142,1),(7,144,1),(8,145,1)] true,9,[.string ⟨#[]⟩, .int .i64 0, .slice none 0 0, .slice none 0 0, .slice none 0 0, .pointer none, .slice none 0 0, .map none, .slice none 0 0]⟩/\
  tyD prog 149=some ⟨.struct [(0,3,1),(1,3,1)] true,2,[.int .i64 0, .int .i64 0]⟩/\
  tyD prog 150=some ⟨.struct [(0,3,1),(1,3,1)] true,2,[.int .i64 0, .int .i64 0]⟩/\
  tyD prog 154=some ⟨.ptr,1,[.pointer none]⟩/\
  tyD prog 155=some ⟨.struct [(0,81,1),(1,47,1)] false,2,[.slice none 0 0, .nilIface]⟩/\
  tyD prog 156=some ⟨.struct [(0,81,1),(1,47,1)] false,2,[.slice none 0 0, .nilIface]⟩/\
  tyD prog 161=some ⟨.struct [(0,3,1),(1,27,1)] true,2,[.int .i64 0, .slice none 0 0]⟩/\
  tyD prog 162=some ⟨.struct [(0,3,1),(1,27,1)] true,2,[.int .i64 0, .slice none 0 0]⟩/\
  tyD prog 164=some ⟨.ptr,1,[.pointer none]⟩/\
  tyD prog 165=some ⟨.struct [(0,81,1),(1,3,1),(2,4,1)] true,3,[.slice none 0 0, .int .i64 0, .bool false]⟩/\
  tyD prog 166=some ⟨.struct [(0,81,1),(1,3,1),(2,4,1)] true,3,[.slice none 0 0, .int .i64 0, .bool false]⟩/\
  tyD prog 167=some ⟨.struct [(0,166,3)] true,3,[.slice none 0 0, .int .i64 0, .bool false]⟩/\
  tyD prog 168=some ⟨.struct [(0,166,3)] true,3,[.slice none 0 0, .int .i64 0, .bool false]⟩/\
  tyD prog 179=some ⟨.ptr,1,[.pointer none]⟩/\
  tyD prog 180=some ⟨.struct [(0,9,1),(1,3,1),(2,47,1)] false,3,[.string ⟨#[]⟩, .int .i64 0, .nilIface]⟩/\
  tyD prog 181=some ⟨.struct [(0,9,1),(1,3,1),(2,47,1)] false,3,[.string ⟨#[]⟩, .int .i64 0, .nilIface]⟩/\
  tyD prog 183=some ⟨.ptr,1,[.pointer none]⟩/\
  tyD prog 184=some ⟨.struct [(0,31,5),(5,133,2),(7,36,1),(8,26,5),(13,3,1),(14,3,1)] true,15,[.slice none 0 0, .slice none 0 0, .slice none 0 0, .slice none 0 0, .bool false, .slice none 0 0, .slice none 0 0, .pointer none, .string ⟨#[]⟩, .int .i64 0, .slice none 0 0, .slice none 0 0, .slice none 0 0, .int .i64 0, .int .i64 0]⟩/\
  tyD prog 185=some ⟨.struct [(0,31,5),(5,133,2),(7,36,1),(8,26,5),(13,3,1),(14,3,1)] true,15,[.slice none 0 0, .slice none 0 0, .slice none 0 0, .slice none 0 0, .bool false, .slice none 0 0, .slice none 0 0, .pointer none, .string ⟨#[]⟩, .int .i64 0, .slice none 0 0, .slice none 0 0, .slice none 0 0, .int .i64 0, .int .i64 0]⟩/\
  tyD prog 198=some ⟨.struct [(0,9,1),(1,3,1)] true,2,[.string ⟨#[]⟩, .int .i64 0]⟩/\
  tyD prog 199=some ⟨.struct [(0,9,1),(1,3,1)] true,2,[.string ⟨#[]⟩, .int .i64 0]⟩/\
  tyD prog 206=some ⟨.ptr,1,[.pointer none]⟩/\
  tyD prog 208=some ⟨.slice 210 1 4 [.int .u32 0],1,[.slice none 0 0]⟩/\
  tyD prog 209=some ⟨.int .u32,1,[.int .u32 0]⟩/\
  tyD prog 210=some ⟨.int .u32,1,[.int .u32 0]⟩/\
  tyD prog 211=some ⟨.struct [(0,27,1),(1,27,1),(2,208,1),(3,208,1),(4,27,1),(5,27,1),(6,210,1)] true,7,[.slice none 0 0, .slice none 0 0, .slice none 0 0, .slice none 0 0, .slice none 0 0, .slice none 0 0, .int .u32 0]⟩/\
  tyD prog 212=some ⟨.struct [(0,27,1),(1,27,1),(2,208,1),(3,208,1),(4,27,1),(5,27,1),(6,210,1)] true,7,[.slice none 0 0, .slice none 0 0, .slice none 0 0, .slice none 0 0, .slice none 0 0, .slice none 0 0, .int .u32 0]⟩/\
  tyD prog 225=some ⟨.slice 63 2 16 [.int .i64 0, .int .i64 0],1,[.slice none 0 0]⟩/\
  tyD prog 227=some ⟨.int .u64,1,[.int .u64 0]⟩/\
  tyD prog 229=some ⟨.ptr,1,[.pointer none]⟩/\
  tyD prog 236=some ⟨.iface,1,[.nilIface]⟩/\
  tyD prog 237=some ⟨.iface,1,[.nilIface]⟩/\
  tyD prog 271=some ⟨.int .u64,1,[.int .u64 0]⟩/\
  tyD prog 272=some ⟨.struct [(0,17,1),(1,270,1),(2,271,1)] false,3,[.pointer none, .pointer none, .int .u64 0]⟩/\
  tyD prog 273=some ⟨.struct [(0,17,1),(1,270,1),(2,271,1)] false,3,[.pointer none, .pointer none, .int .u64 0]⟩/\
  tyD prog 276=some ⟨.int .u8,1,[.int .u8 0]⟩/\
  tyD prog 286=some ⟨.int .u64,1,[.int .u64 0]⟩/\
  tyD prog 292=some ⟨.struct [(0,17,1)] false,1,[.pointer none]⟩/\
  tyD prog 293=some ⟨.struct [(0,17,1)] false,1,[.pointer none]⟩/\
  tyD prog 294=some ⟨.ptr,1,[.pointer none]⟩/\
  tyD prog 295=some ⟨.iface,1,[.nilIface]⟩/\
  tyD prog 298=some ⟨.iface,1,[.nilIface]⟩/\
  tyD prog 299=some ⟨.iface,1,[.nilIface]⟩/\
  tyD prog 300=some ⟨.slice 47 1 16 [.nilIface],1,[.slice none 0 0]⟩/\
  tyD prog 306=some ⟨.struct [(0,27,1),(1,3,1),(2,118,1)] true,3,[.slice none 0 0, .int .i64 0, .slice none 0 0]⟩/\
  tyD prog 328=some ⟨.iface,1,[.nilIface]⟩/\
  tyD prog 331=some ⟨.arr 32 5 1,32,[.int .u8 0, .int .u8 0, .int .u8 0, .int .u8 0, .int .u8 0, .int .u8 0, .int .u8 0, .int .u8 0, .int .u8 0, .int .u8 0, .int .u8 0, .int .u8 0, .int .u8 0, .int .u8 0, .int .u8 0, .int .u8 0, .int .u8 0, .int .u8 0, .int .u8 0, .int .u8 0, .int .u8 0, .int .u8 0, .int .u8 0, .int .u8 0, .int .u8 0, .int .u8 0, .int .u8 0, .int .u8 0, .int .u8 0, .int .u8 0, .int .u8 0, .int .u8 0]⟩/\
  tyD prog 333=some ⟨.int .i64,1,[.int .i64 0]⟩/\
  tyD prog 359=some ⟨.int .u64,1,[.int .u64 0]⟩/\
  tyD prog 363=some ⟨.ptr,1,[.pointer none]⟩/\
  tyD prog 369=some ⟨.map 3 3 (.int .i64 0),1,[.map none]⟩/\
  tyD prog 378=some ⟨.ptr,1,[.pointer none]⟩/\
  tyD prog 410=some ⟨.ptr,1,[.pointer none]⟩/\
  tyD prog 411=some ⟨.struct [(0,17,1),(1,17,1),(2,17,1),(3,9,1)] false,4,[.pointer none, .pointer none, .pointer none, .string ⟨#[]⟩]⟩/\
  tyD prog 412=some ⟨.struct [(0,17,1),(1,17,1),(2,17,1),(3,9,1)] false,4,[.pointer none, .pointer none, .pointer none, .string ⟨#[]⟩]⟩/\
  tyD prog 413=some ⟨.arr 0 16 1,0,[]⟩/\
  tyD prog 414=some ⟨.struct [(0,413,0)] false,0,[]⟩/\
  tyD prog 415=some ⟨.struct [(0,413,0)] false,0,[]⟩/\
  tyD prog 417=some ⟨.int .u8,1,[.int .u8 0]⟩/\
  tyD prog 419=some ⟨.ptr,1,[.pointer none]⟩/\
  tyD prog 420=some ⟨.int .i32,1,[.int .i32 0]⟩/\
  tyD prog 421=some ⟨.int .i32,1,[.int .i32 0]⟩/\
  tyD prog 422=some ⟨.struct [(0,12,1),(1,12,1),(2,209,1),(3,417,1),(4,5,1),(5,5,1),(6,276,1),(7,418,1),(8,419,1),(9,420,1),(10,421,1)] false,11,[.int .u64 0, .int .u64 0, .int .u32 0, .int .u8 0, .int .u8 0, .int .u8 0, .int .u8 0, .nilFunc, .pointer none, .int .i32 0, .int .i32 0]⟩/\
  tyD prog 423=some ⟨.struct [(0,12,1),(1,12,1),(2,209,1),(3,417,1),(4,5,1),(5,5,1),(6,276,1),(7,418,1),(8,419,1),(9,420,1),(10,421,1)] false,11,[.int .u64 0, .int .u64 0, .int .u32 0, .int .u8 0, .int .u8 0, .int .u8 0, .int .u8 0, .nilFunc, .pointer none, .int .i32 0, .int .i32 0]⟩/\
  tyD prog 426=some ⟨.struct [(0,9,1),(1,276,1)] false,2,[.string ⟨#[]⟩, .int .u8 0]⟩/\
  tyD prog 427=some ⟨.struct [(0,9,1),(1,276,1)] false,2,[.string ⟨#[]⟩, .int .u8 0]⟩/\
  tyD prog 428=some ⟨.struct [(0,9,1)] true,1,[.string ⟨#[]⟩]⟩/\
  tyD prog 429=some ⟨.struct [(0,9,1)] true,1,[.string ⟨#[]⟩]⟩/\
  tyD prog 430=some ⟨.ptr,1,[.pointer none]⟩/\
  tyD prog 432=some ⟨.int .u16,1,[.int .u16 0]⟩/\
  tyD prog 433=some ⟨.struct [(0,420,1),(1,432,1),(2,432,1),(3,209,1),(4,209,1)] false,5,[.int .i32 0, .int .u16 0, .int .u16 0, .int .u32 0, .int .u32 0]⟩/\
  tyD prog 434=some ⟨.struct [(0,420,1),(1,432,1),(2,432,1),(3,209,1),(4,209,1)] false,5,[.int .i32 0, .int .u16 0, .int .u16 0, .int .u32 0, .int .u32 0]⟩/\
  tyD prog 435=some ⟨.slice 438 4 16 [.int .i32 0, .int .i32 0, .int .i32 0, .int .i32 0],1,[.slice none 0 0]⟩/\
  tyD prog 436=some ⟨.int .i32,1,[.int .i32 0]⟩/\
  tyD prog 437=some ⟨.struct [(0,420,1),(1,421,1),(2,436,1),(3,436,1)] false,4,[.int .i32 0, .int .i32 0, .int .i32 0, .int .i32 0]⟩/\
  tyD prog 438=some ⟨.struct [(0,420,1),(1,421,1),(2,436,1),(3,436,1)] false,4,[.int .i32 0, .int .i32 0, .int .i32 0, .int .i32 0]⟩/\
  tyD prog 439=some ⟨.ptr,1,[.pointer none]⟩:=by
  repeat' apply And.intro
  all_goals kernel_rfl
theorem mixed:prog.follows .mixedOrders=true:=by kernel_rfl
end
section
open Go.RowKit
theorem Sim.nilRow {x:Ctx} {s:St} {a:Act} {w:World} {m:Mem} (h:Sim x s a w m) (r t:Nat) (e:TypeId) (sz:Nat) (hsz:0<sz) (ht:s.f t= .lit (.slice none 0 0)):
 Sim x ((s.renew r ⟨sz,[],e,true⟩ false).put (some t) (.row r (s.vs r+1))) a w ⟨m.S,upd m.ρ r (.slice none 0 0)⟩:=by
 have h1:=h.renew r ⟨sz,[],e,true⟩ false (.slice none 0 0) m.S (MM _ _) (fun b o hh=>⟨hh, .rfl⟩) (fun b o hh=> .inl hh) (fun k row' hk hr g hg=>⟨rfl,by simp[Value.ownBlock],fun o hh=>hh⟩)
  (.inl ⟨hsz,fun i e' he=>by simp at he,⟨[],by simp only[upd_same];exact N5 _ _ _ _,by simp,fun i j c hc=>by simp[cellAt]at hc⟩,(fun he=>by simp[St.renew,upd_same]at he),(fun g hg=>by simp[upd_same,Value.ownBlock]at hg),(fun _ g hg=>by simp[upd_same,Value.ownBlock]at hg)⟩) (fun b _=>⟨rfl,fun _ hh=>hh,by simp[Value.ownBlock]⟩)
 refine { h1 with dfs:=h1.dfs,siz:=h1.siz,slot:=fun t'=> ?_,rows:=fun r' row hr=> ?_ }
 ·have key:RL w ⟨m.S,upd m.ρ r (.slice none 0 0)⟩ (s.renew r ⟨sz,[],e,true⟩ false) (a.tmps.getD t' undef) (upd (s.renew r ⟨sz,[],e,true⟩ false).f t (.row r (s.vs r+1)) t'):=by
   by_cases e1:t'=t
   ·subst e1;rw[upd_same];have hv:=h.slot t';rw[ht]at hv;have hv:=hv.lit_;rw[hv];exact .row r (s.vs r+1) rfl (by simp[St.renew,upd_same]) fun _ row _=>by simp[upd_same]
   ·rw[upd_ne _ _ _ e1];exact h1.slot t'
  exact RL.put key (some t) _
 ·exact(h1.rows r' row hr).mono (s':=(s.renew r ⟨sz,[],e,true⟩ false).put (some t) (.row r (s.vs r+1))) (fun b o hb=>⟨hb, .rfl⟩) (fun _=>K8 _) (fun r row' _ hr=>⟨row',hr,rfl,rfl⟩) rfl (fun _ _=>rfl) rfl (fun _ _ _ hh=>hh)
section
variable {P:Program} {env:Env} {nt:Nat} {Q:Exit->St->Prop} {s:St}
theorem aZ {c:Code} (r t:Nat) (e:TypeId) (sz:Nat) (h:awp P env nt c Q ((s.renew r ⟨sz,[],e,true⟩ false).put (some t) (.row r (s.vs r+1)))) (hsz:0<sz:=by decide) (ht:Is (s.f t) (.lit (.slice none 0 0)):=by simp only[go_sem,reduceIte, ↓reduceIte,Nat.reduceEqDiff,reduceCtorEq];exact iR):awp P env nt c Q s:=
 fun ro x he hn a w _ hS=>h ro x he hn a w _ (hS.nilRow r t e sz hsz ht)
theorem ge.own_nil (e:TypeId) (sz:Nat) (hsz:0<sz):ge (.lit (.slice none 0 0)) (.own e sz []):=fun S w base v hr=>by
 have hv:v= .slice none 0 0:=by
  have hr:RV S w v (.lit (.slice none 0 0)):=hr;cases hr;rfl
 subst hv;exact⟨[],N5 _ _ _ _,hsz,⟨by simp,by simp,fun i e he=>by simp at he,fun i j c hc=>by simp[cellAt]at hc⟩,fun g hg=>by simp[Value.ownBlock]at hg⟩
end
end
section
open Go.RowKit
abbrev I (n:Int):AV:= .lit (.int .i64 n)
abbrev U (n:Int):AV:= .lit (.int .u64 n)
abbrev B (b:Bool):AV:= .lit (.bool b)
abbrev Sg (s:List UInt8):AV:= .lit (.string ⟨s.toArray⟩)
abbrev nilS:AV:= .lit (.slice none 0 0)
end
section
open Go.RowKit Go.ChangeShapes Go.WideShapes Go.Deep
def Cg {α:Type} (size:Nat) (R:List Value->α->Prop) (xs:List Value) (l:List α):Prop:=
 xs.length=l.length*size/\ ∀i (h:i<l.length),R ((xs.drop (i*size)).take size) l[i]
def eG {α:Type} (w:World) (B size:Nat) (R:List Value->α->Prop) (v:Value) (l:List α):Prop:=
 ∃A c xs,v= .slice A l.length c/\l.length<=c/\l.length<=maxLen/\Reads w B size A l.length xs/\Cg size R xs l
theorem elem_len {α:Type} {size:Nat} {R:List Value->α->Prop} {xs:List Value} {l:List α} (h:Cg size R xs l) (i:Nat) (hi:i<l.length):((xs.drop (i*size)).take size).length=size:=by
 have h1:=h.1;have h2:(i+1)*size<=l.length*size:=LE _ (by omega);rw[Ll,Mh]at h2;simp;omega
theorem eG.elem {α:Type} {w:World} {B size:Nat} {R:List Value->α->Prop} {A:Option Addr} {n c:Nat} {l:List α} (h:eG w B size R (.slice A n c) l) (k:Nat) (hk:k<l.length):
 ∃b off cs,A=some ⟨b,off,none⟩/\b<B/\R cs l[k]/\cs.length=size/\ ∀j u,cs[j]? =some u->w.cell? ⟨b,off+k*size+j,none⟩=some u:=by
 obtain⟨A',c',xs,e,_,_,hr,hrow⟩:=h;cases e;obtain⟨b,off,rfl,hb,hc⟩:=hr.2 (by omega);refine⟨b,off,_,rfl,hb,hrow.2 k hk,elem_len hrow k hk,fun j u hu=> ?_⟩;rw[N1];apply hc;rw[Kz]at hu;split at hu
 ·rw[La]at hu;exact hu
 ·cases hu
theorem eG.form {α:Type} {w:World} {B size:Nat} {R:List Value->α->Prop} {v:Value} {l:List α} (h:eG w B size R v l): ∃A c,v= .slice A l.length c/\l.length<=c/\l.length<=maxLen:=by
 obtain⟨A,c,xs,e,h1,h2,_⟩:=h;exact⟨A,c,e,h1,h2⟩
theorem eG.moved {α:Type} {w w':World} {B size:Nat} {R R':List Value->α->Prop} {v:Value} {l:List α} (h:eG w B size R v l) (hk: ∀b off,b<B->w'.cell? ⟨b,off,none⟩=w.cell? ⟨b,off,none⟩) (hR: ∀cs a,a∈l->R cs a->R' cs a):eG w' B size R' v l:=by
 obtain⟨A,c,xs,e,h1,h2,h3,h4⟩:=h;exact⟨A,c,xs,e,h1,h2,h3.moved hk,h4.1,fun i hi=>hR _ _ (MI _) (h4.2 i hi)⟩
theorem eG.wider {α:Type} {w:World} {B B' size:Nat} {R R':List Value->α->Prop} {v:Value} {l:List α} (h:eG w B size R v l) (hB:B<=B') (hR: ∀cs a,a∈l->R cs a->R' cs a):eG w B' size R' v l:=by
 obtain⟨A,c,xs,e,h1,h2,h3,h4⟩:=h;exact⟨A,c,xs,e,h1,h2,h3.wider hB,h4.1,fun i hi=>hR _ _ (MI _) (h4.2 i hi)⟩
theorem flat_len {α:Type} (f:Nat->List α) (size:Nat): ∀n,(∀i,i<n->(f i).length=size)->((List.range n).flatMap f).length=n*size
 |0,_=>by simp
 | n+1,h=>by
   rw[NB,M7,K4,flat_len f size n (fun i hi=>h i (by omega)),Ll];simp[h n (by omega)]
theorem jB {α:Type} (f:Nat->List α) (size:Nat): ∀n,(∀i,i<n->(f i).length=size)-> ∀i,i<n->(((List.range n).flatMap f).drop (i*size)).take size=f i
 |0,_,i,hi=>by omega
 | n+1,h,i,hi=>by
   have hl:=flat_len f size n (fun i hi=>h i (by omega));rw[NB,M7];by_cases e:i=n
   ·subst e;rw[<-hl,List.drop_left];simp[<-h i (by omega)]
   ·have h2:(i+1)*size<=n*size:=LE _ (by omega);rw[Ll,Mh]at h2;rw[List.drop_append_of_le_length (by omega),MU (by rw[M2,hl];omega)];exact jB f size n (fun i hi=>h i (by omega)) i (by omega)
theorem DJ {α:Type} {n:Nat} {p:Nat->α->Prop} (h: ∀i,i<n-> ∃a,p i a): ∃l:List α,l.length=n/\ ∀i (hi:i<l.length),p i l[i]:=by
 induction n with
 |zero=>exact⟨[],rfl,fun i hi=>by simp at hi⟩
 | succ n ih=>
   obtain⟨l,hl,hp⟩:=ih (fun i hi=>h i (by omega));obtain⟨a,ha⟩:=h n (by omega);refine⟨l++[a],by simp[hl],fun i hi=> ?_⟩;by_cases e:i<l.length
   ·rw[List.getElem_append_left e];exact hp i e
   ·have:i=l.length:=by simp at hi;omega
    subst this;simp;rw[hl];exact ha
section
variable {H:Type} {enc:TypeId×Value->H} {P:Program} {w:World} {base:Nat} {spare:Nat->Bool} {held:Bool}
theorem open_list {α:Type} {t e:TypeId} {size fuel:Nat} {R:List Value->α->Prop} {cs:List Value} {x:DataW H×List MemPlace} (ht:P.underlying t=some (.slice e)) (hC:P.cellsOf e=size) (hpos:0<size)
 (hR: ∀(m:Nat) (cs:List Value) (y:DataW H×List MemPlace),DataW.trod enc P w base spare held m e cs=some y-> ∃a,R cs a)
 (h:DataW.trod enc P w base spare held fuel t cs=some x): ∃v l,cs=[v]/\eG w w.heap.size size R v l:=by
 rcases open_slice ht h with⟨rfl,_⟩|⟨a,len,cap,m,n,D,Pl,rfl,hb,hl,hm,hmm,_,hx⟩
 ·exact⟨_,[],rfl,none,0,[],rfl,K8 _,Ke _,Reads.empty _ _ _ _,by simp,fun i hi=>by simp at hi⟩
 have hlm:len<=m:=by rw[hmm];split<;>omega
 rw[hC]at hx
 have hch: ∀i,∃cs':List Value,i<len->w.cells? base (a.add (i*size)) size=some cs'/\DataW.trod enc P w base spare held n e cs'=some (D i,Pl i):=fun i=>by
  by_cases hi:i<len
  ·obtain⟨cs',h1,h2⟩:=hx i (by omega);exact⟨cs',fun _=>⟨h1,h2⟩⟩
  ·exact⟨[],fun h=>absurd h hi⟩
 let f:Nat->List Value:=fun i=>(hch i).choose
 have hf: ∀i,i<len->w.cells? base (a.add (i*size)) size=some (f i)/\DataW.trod enc P w base spare held n e (f i)=some (D i,Pl i):=fun i hi=>(hch i).choose_spec hi;have hfl: ∀i,i<len->(f i).length=size:=fun i hi=>(NN (hf i hi).1).2.1;obtain⟨l,hll,hl2⟩:=DJ (n:=len) (p:=fun i a=>R (f i) a) fun i hi=>hR _ _ _ (hf i hi).2;refine⟨_,l,rfl,some a,cap,(List.range len).flatMap f,by rw[hll],by omega,by omega,⟨by rw[hll,flat_len f size len hfl],fun hn=> ?_⟩,by rw[hll,flat_len f size len hfl],fun i hi=> ?_⟩
 ·rw[hll]at hn;have h0:=NN (hf 0 hn).1;have hc0:=h0.2.2 0 hpos
  have hsp:a.spot=none:=by
   rw[Mu]at hc0;have:(f 0)[0]? =some ((f 0)[0]'(by rw[hfl 0 hn];exact hpos)):=KV _;rw[this]at hc0;have e:(a.add 0).add 0=a:=rfl;rw[e]at hc0;unfold World.cell? at hc0;cases hs:a.spot with
   |none=>rfl
   | some s=>
     rw[hs]at hc0;split at hc0<;>simp at hc0
  obtain⟨b,off,sp⟩:=a;simp only at hsp;subst hsp
  have hcell: ∀j u,((List.range len).flatMap f)[j]? =some u->w.cell? ⟨b,off+j,none⟩=some u:=by
   intro j u hu
   have hj:j<len*size:=by
    rcases Mt j (len*size) with h|h
    ·exact h
    ·rw[K7 (by rw[flat_len f size len hfl];exact h)]at hu;cases hu
   have hq:j/size<len:=NK (by rw[Mf];exact hj);have hr:j%size<size:=N9 _ hpos;have hpart:=jB f size len hfl (j/size) hq;have e:j=j/size*size+j%size:=by rw[Mf];exact(Nat.div_add_mod j size).symm
   have hget:(f (j/size))[j%size]? =some u:=by
    rw[<-hpart,Kz,K0 hr,La, <-e];exact hu
   have:=(NN (hf _ hq).1).2.2 (j%size) hr;rw[hget,add_plain,add_plain,N1, <-e]at this;exact this
  refine⟨b,off,rfl,?_,hcell⟩;have hx0:((List.range len).flatMap f)[0]? =some (((List.range len).flatMap f)[0]'(by rw[flat_len f size len hfl];exact Nat.mul_pos hn hpos)):=KV _;exact Nz w ⟨b,off+0,none⟩ (hcell 0 _ hx0)
 ·rw[jB f size len hfl i (by omega)];exact hl2 i hi
end
/-! Elements of one cell -/
def Jy {α:Type} (f:α->Value) (cs:List Value) (a:α):Prop:=cs=[f a]
theorem G0 {α:Type} {f:α->Value} {l:List α} {xs:List Value} (h:Cg 1 (Jy f) xs l):xs=l.map f:=by
 apply List.ext_getElem
 ·simpa using h.1
 ·intro i h1 h2;have hi:i<l.length:=by simpa using h2
  have:=h.2 i hi;unfold Jy at this;rw[Nc]at this;have h3:((xs.drop i).take 1)[0]? =some (f l[i]):=by rw[this];rfl
  rw[Kz,K0 (by omega),La,Md,KV h1]at h3;simpa using h3
theorem eG.one {α:Type} {w:World} {B:Nat} {f:α->Value} {v:Value} {l:List α} (h:eG w B 1 (Jy f) v l): ∃A c,v= .slice A l.length c/\l.length<=c/\l.length<=maxLen/\Reads w B 1 A l.length (l.map f):=by
 obtain⟨A,c,xs,e,h1,h2,h3,h4⟩:=h;rw[G0 h4]at h3;exact⟨A,c,e,h1,h2,h3⟩
section
variable {H:Type} {enc:TypeId×Value->H} {P:Program} {w:World} {base:Nat} {spare:Nat->Bool} {held:Bool}
end
end
section
open Go.RowKit
def RVs (S:Nat->Nat->Prop) (w:World):List Value->List AV->Prop
 |[],[]=>True
 |v::vs,c::cs=>(v.oneCell'=true/\RV S w v c)/\RVs S w vs cs
 |_,_=>False
def RAs (S:Nat->Nat->Prop) (w:World):List Value->List AV->Prop
 |[],[]=>True
 |v::vs,c::cs=>RV S w v c/\RAs S w vs cs
 |_,_=>False
section
variable {S:Nat->Nat->Prop} {w:World}
theorem RVs.at_: ∀ {vs:List Value} {cs:List AV},RVs S w vs cs->vs.length=cs.length/\ ∀(i:Nat) (v:Value) (c:AV),vs[i]? =some v->cs[i]? =some c->v.oneCell'=true/\RV S w v c
 |[],[],_=>⟨rfl,fun i v c h _=>by simp at h⟩
 | v::vs,c::cs,⟨h,hs⟩=>by
   obtain⟨h1,h2⟩:=RVs.at_ hs;refine⟨by simp[h1],fun i u d hu hd=> ?_⟩;cases i with
   | zero=>
     simp only[LM,KX]at hu hd;subst hu hd;exact h
   |succ i=>exact h2 i u d (by simpa using hu) (by simpa using hd)
 |[],_::_,h=>h.elim
 |_::_,[],h=>h.elim
theorem RAs.at_: ∀ {vs:List Value} {cs:List AV},RAs S w vs cs->vs.length=cs.length/\ ∀(i:Nat) (v:Value) (c:AV),vs[i]? =some v->cs[i]? =some c->RV S w v c
 |[],[],_=>⟨rfl,fun i v c h _=>by simp at h⟩
 | v::vs,c::cs,⟨h,hs⟩=>by
   obtain⟨h1,h2⟩:=RAs.at_ hs;refine⟨by simp[h1],fun i u d hu hd=> ?_⟩;cases i with
   | zero=>
     simp only[LM,KX]at hu hd;subst hu hd;exact h
   |succ i=>exact h2 i u d (by simpa using hu) (by simpa using hd)
 |[],_::_,h=>h.elim
 |_::_,[],h=>h.elim
theorem RVs.agg {vs:List Value} {cs:List AV} (h:RVs S w vs cs):RV S w (.agg vs.toArray) (.agg cs):=by
 obtain⟨h1,h2⟩:=h.at_;refine .agg vs cs h1 (fun v hv=> ?_) fun i v c hv hc=>(h2 i v c hv hc).2;obtain⟨i,hi,rfl⟩:=Lp hv;exact(h2 i _ _ (KV hi) (KV (by omega))).1
theorem RV.lit_inv {v u:Value} (h:RV S w v (.lit u)):v=u:=by
 cases h;rfl
end
theorem DI {α:Type} {w:World} {B size:Nat} {R:List Value->α->Prop} {v:Value} {l:List α} (enc:α->List AV) (hz: ∀a,(enc a).length=size) (h:eG w B size R v l)
 (hR: ∀cs a,a∈l->R cs a-> ∀(j:Nat) (u:Value) (c:AV),cs[j]? =some u->(enc a)[j]? =some c->u.oneCell'=true/\RV (fun b _=>b<B) w u c):RV (fun b _=>b<B) w v (.seq size (l.map enc)):=by
 obtain⟨A,c,xs,rfl,hc,hm,hr,hrow⟩:=h
 have hz': ∀(i:Nat) (e:List AV),(l.map enc)[i]? =some e->e.length=size:=fun i e he=>by
  rw[K5]at he;cases hx:l[i]? with
  |none=>rw[hx]at he;cases he
  |some a=>rw[hx]at he;cases he;exact hz a
 have key: ∀(i j:Nat) (c:AV),cellAt (l.map enc) i j=some c-> ∃u,xs[i*size+j]? =some u/\u.oneCell'=true/\RV (fun b _=>b<B) w u c:=fun i j c hh=>by
  have hlt:=du hz' hh;rw[Kl]at hlt
  have hj:(enc (l[i]'hlt.1))[j]? =some c:=by
   unfold cellAt at hh;rw[K5,KV hlt.1]at hh;exact hh
  have hlen:=elem_len hrow i hlt.1;have hju:((xs.drop (i*size)).take size)[j]? =some (((xs.drop (i*size)).take size)[j]'(by omega)):=KV _;refine⟨_,?_,hR _ _ (MI hlt.1) (hrow.2 i hlt.1) j _ c hju hj⟩;rw[<-hju,Kz,K0 hlt.2,La]
 by_cases h0:l=[]
 ·subst h0;exact .seq A 0 c size [] 0 0 (fun _ _=>undef) rfl (Ke _) (fun h=>by omega) (fun i e he=>by simp at he) (fun i j c hc=>by simp[cellAt]at hc) (fun i j c hc=>by simp[cellAt]at hc)
 ·obtain⟨b,off,rfl,hb,hcell⟩:=hr.2 (MG.2 h0);refine .seq _ _ c size _ b off (fun i j=>xs.getD (i*size+j) undef) (by simp) hc (fun _=>rfl) hz' (fun i j c hh=> ?_) fun i j c hh=> ?_
  ·obtain⟨u,h1,h2,_⟩:=key i j c hh;have:xs.getD (i*size+j) undef=u:=by simp[List.getD,h1]
   rw[this];exact⟨hb,hcell _ u h1,h2⟩
  ·obtain⟨u,h1,_,h2⟩:=key i j c hh;have:xs.getD (i*size+j) undef=u:=by simp[List.getD,h1]
   rw[this];exact h2
end
section
open Go.RowKit Go.Stop
def Lies (w:World) (a:Addr):Prop:= ∃(ca:Array Value) (ta:TypeId),w.heap[a.block]? =some (.cells ca ta (0,0))
def Sent (w:World) (g:Nat) (a:Addr):Prop:=w.cell? ⟨g,0,none⟩=some (.iface 410 (.pointer (some a)))/\Lies w a
def gf (w:World) (a:Addr):Nat->Value->Prop
 |0,E=>E= .iface 410 (.pointer (some a))/\Lies w a
 |n+1,E=> ∃(pb po:Nat) (E':Value),E= .iface 179 (.pointer (some ⟨pb,po,none⟩))/\w.cell? ⟨pb,po+2,none⟩=some E'/\gf w a n E'
theorem Lies.lt {w:World} {a:Addr} (h:Lies w a):a.block<w.heap.size:=by
 obtain⟨ca,ta,h⟩:=h;by_cases hl:a.block<w.heap.size
 ·exact hl
 ·rw[NE (by omega)]at h;cases h
theorem Lies.below {w w':World} {a:Addr} (h:Lies w a) (hb:Below w.heap.size w w'):Lies w' a:=by
 have:=h.lt;obtain⟨ca,ta,h⟩:=h;exact⟨ca,ta,(hb.block _ this).trans h⟩
theorem Di {w:World} {b o:Nat} {v:Value} (h:w.cell? ⟨b,o,none⟩=some v):b<w.heap.size:=Nz w ⟨b,o,none⟩ h
theorem cell_below {w w':World} {b o:Nat} {v:Value} (h:w.cell? ⟨b,o,none⟩=some v) (hb:Below w.heap.size w w'):w'.cell? ⟨b,o,none⟩=some v:=
 (hb.cell (p:=⟨b,o,none⟩) (Di h)).trans h
theorem Sent.below {w w':World} {g:Nat} {a:Addr} (h:Sent w g a) (hb:Below w.heap.size w w'):Sent w' g a:=⟨cell_below h.1 hb,h.2.below hb⟩
theorem gf.below {w w':World} {a:Addr} (hb:Below w.heap.size w w'): ∀ {n:Nat} {E:Value},gf w a n E->gf w' a n E
 |0,_,h=>⟨h.1,h.2.below hb⟩
 |_+1,_,⟨pb,po,E',h1,h2,h3⟩=>⟨pb,po,E',h1,cell_below h2 hb,gf.below hb h3⟩
theorem gf.form {w:World} {a:Addr} {n:Nat} {E:Value} (h:gf w a n E): ∃t v,E= .iface t v:=by
 cases n with
 |zero=>exact⟨_,_,h.1⟩
 |succ n=>exact⟨_,_,h.choose_spec.choose_spec.choose_spec.1⟩
theorem gf.new {w:World} {g:Nat} {a:Addr} (h:Sent w g a) (s:ByteArray) (p:Int):
 gf (w.alloc (.cells #[.string s, .int .i64 p, .iface 410 (.pointer (some a))] 181)) a 1 (.iface 179 (.pointer (some ⟨w.heap.size,0,none⟩))):=
 ⟨_,0,_,rfl,(Whole.new w 181 _).cell 2,rfl,h.2.below ((MM _ _).alloc (K8 _) _)⟩
theorem gf.wrap {w:World} {a:Addr} {n:Nat} {E:Value} (h:gf w a n E) (s:ByteArray) (p:Int):
 gf (w.alloc (.cells #[.string s, .int .i64 p,E] 181)) a (n+1) (.iface 179 (.pointer (some ⟨w.heap.size,0,none⟩))):=
 ⟨_,0,_,rfl,(Whole.new w 181 _).cell 2,h.below ((MM _ _).alloc (K8 _) _)⟩
/-! Closed facts -/
theorem Tryz.callTypeOf (v:Value) (w:World):(callFunc 141 #[.iface 410 v]).run prog w= .ok (.value (.iface 293 (.agg #[.pointer (some ⟨11,410,none⟩)]))) w:=by kernel_rfl
theorem Tryz.callComparable (w:World):(callFunc 395 #[.agg #[.pointer (some ⟨11,410,none⟩)]]).run prog w= .ok (.value (.bool true)) w:=by kernel_rfl
theorem Tryz.isComp:(prog.info? 410).map (·.comparable)=some true:=by kernel_rfl
theorem Tryz.isSize:(prog.info? 429).map (·.size)=some 1:=by kernel_rfl
theorem Tryz.noIsE (v:Value) (xT:TypeId) (w:World):(Instr.typeAssert (.iface 410 v) xT 295 true).run prog w= .ok (.tuple #[.nilIface, .bool false]) w:=N3 Tryz.underlying295 (by kernel_rfl) (by kernel_rfl) v xT w
theorem Tryz.noUnwrapE (v:Value) (xT:TypeId) (w:World):(Instr.typeAssert (.iface 410 v) xT 298 true).run prog w= .ok (.tuple #[.nilIface, .bool false]) w:=N3 Tryz.underlying298 (by kernel_rfl) (by kernel_rfl) v xT w
theorem Tryz.noUnwrapsE (v:Value) (xT:TypeId) (w:World):(Instr.typeAssert (.iface 410 v) xT 299 true).run prog w= .ok (.tuple #[.nilIface, .bool false]) w:=N3 Tryz.underlying299 (by kernel_rfl) (by kernel_rfl) v xT w
theorem Tryz.noIsW (v:Value) (xT:TypeId) (w:World):(Instr.typeAssert (.iface 179 v) xT 295 true).run prog w= .ok (.tuple #[.nilIface, .bool false]) w:=N3 Tryz.underlying295 (by kernel_rfl) (by kernel_rfl) v xT w
theorem Tryz.hasUnwrapW (v:Value) (xT:TypeId) (w:World):(Instr.typeAssert (.iface 179 v) xT 298 true).run prog w= .ok (.tuple #[.iface 179 v, .bool true]) w:=run_typeAssert_hasB Tryz.underlying298 (by kernel_rfl) v xT w
theorem Gi {W:World} (a b:Addr) (hb:Lies W b): ∀(n:Nat) (E:Value),gf W a n E->
 Calls prog 142 #[E, .iface 410 (.pointer (some b)), .bool true] W fun e w'=>e= .returned (.bool (decide (a=b)))/\W=w':=by
 intro n E hE;obtain⟨i,hi,hcmp⟩:=L1.1 Tryz.isComp;obtain⟨j,hj,hjs⟩:=L1.1 Tryz.isSize;have nE:=Tryz.noIsE;have uE:=Tryz.noUnwrapE;have vE:=Tryz.noUnwrapsE;have nW:=Tryz.noIsW;have uW:=Tryz.hasUnwrapW;have HE:=OI hE;try clear hE
 go_enter func142,ntmps142
 go_wp2
 go_loopg [0] n (fun m E' wl=>W=wl/\gf W a m E')
 case atStart=>exact⟨rfl,HE.out⟩
 case round=>
  obtain⟨rfl,hE⟩:=hrel;cases gk with
  | zero=>
    obtain⟨rfl,ca,ta,ha⟩:=hE;by_cases hab:a=b
    ·subst hab;have heq:=run_eql_iface_ptr_same (P:=prog) W a Tryz.underlying47 Tryz.underlying410 hi hcmp hj;try clear ha
     go_wp2
     go_ret
     exact⟨by simp,rfl⟩
    ·obtain⟨cb,tb,hb'⟩:=hb;have heq:=run_eql_iface_ptr_other (P:=prog) W Tryz.underlying47 Tryz.underlying410 hi hcmp hj (by rw[hjs];decide) hab ha hb';try clear ha hb'
     go_wp2
     go_ret
     exact⟨by simp[hab],rfl⟩
  | succ m=>
    obtain⟨pb,po,E',rfl,hcell,hE'⟩:=hE;have hty:=run_eql_iface_types (P:=prog) 179 410 (.pointer (some ⟨pb,po,none⟩)) (.pointer (some b)) Tryz.underlying47 (by decide) W;obtain⟨u1,v1,rfl⟩:=hE'.form;have HE':=OI hE';try clear hE'
    go_wp2
    go_roundg m
    case rel=>exact⟨rfl,HE'.out⟩
    case measure=>omega
theorem jj {W:World} (a b:Addr) (hb:Lies W b) (n:Nat) (E:Value) (hE:gf W a n E):
 Calls prog 86 #[E, .iface 410 (.pointer (some b))] W fun e w'=>e= .returned (.bool (decide (a=b)))/\W=w':=by
 have tT:=Tryz.callTypeOf;have cT:=Tryz.callComparable;obtain⟨t,v,rfl⟩:=hE.form;have HE:=OI hE;try clear hE
 go_enter func86,ntmps86
 go_wp2_with (go_at_call 142;refine(Gi a b hb n _ HE.out).mono ?_;rintro e w' ⟨rfl,rfl⟩)
 go_ret
 exact⟨rfl,rfl⟩
structure Sents (w:World) (ad:Nat->Addr):Prop where
 s1:Sent w 0 (ad 1)
 s2:Sent w 2 (ad 2)
 s3:Sent w 3 (ad 3)
 s4:Sent w 4 (ad 4)
 s5:Sent w 5 (ad 5)
 s6:Sent w 6 (ad 6)
 s7:Sent w 1 (ad 7)
 s8:Sent w 7 (ad 8)
 s9:Sent w 8 (ad 9)
 inj: ∀i j,1<=i->i<=9->1<=j->j<=9->ad i=ad j->i=j
theorem Sents.below {w w':World} {ad:Nat->Addr} (h:Sents w ad) (hb:Below w.heap.size w w'):Sents w' ad:=
 ⟨h.s1.below hb,h.s2.below hb,h.s3.below hb,h.s4.below hb,h.s5.below hb,h.s6.below hb,h.s7.below hb,h.s8.below hb,h.s9.below hb,h.inj⟩
theorem Sents.ne {w:World} {ad:Nat->Addr} (h:Sents w ad) {i j:Nat} (hi:1<=i/\i<=9) (hj:1<=j/\j<=9) (hne:i≠j):decide (ad i=ad j)=false:=by
 rw[LN];exact fun e=>hne (h.inj i j hi.1 hi.2 hj.1 hj.2 e)
theorem HM {W:World} {ad:Nat->Addr} (h:Sents W ad) (k:Nat) (hk:1<=k/\k<=9) (n:Nat) (E:Value) (hE:gf W (ad k) n E):
 Calls prog 46 #[E] W fun e w'=>e= .returned (.int .i64 k)/\W=w':=by
 obtain⟨t,v,rfl⟩:=hE.form;have HE:=OI hE;try clear hE
 have c1:=h.s1.1;have c2:=h.s2.1;have c3:=h.s3.1;have c4:=h.s4.1;have c5:=h.s5.1;have c6:=h.s6.1;have c7:=h.s7.1;have c8:=h.s8.1;have c9:=h.s9.1
 have d: ∀j b,1<=j/\j<=9->(k==j)=b->decide (ad k=ad j)=b:=fun j b hj hb=>by
  subst hb;by_cases e:k=j
  ·subst e;rw[LC rfl];simp
  ·rw[h.ne hk hj e];simp[e]
 obtain rfl|rfl|rfl|rfl|rfl|rfl|rfl|rfl|rfl:k=1\/k=2\/k=3\/k=4\/k=5\/k=6\/k=7\/k=8\/k=9:=by omega
 all_goals (go_enter func46,ntmps46)
 all_goals ((go_wp2_with fail);refine(jj _ (ad 1) h.s1.2 n _ HE.out).mono ?_;rintro e w' ⟨rfl,rfl⟩;first|rw[d 1 false (by omega) rfl]|rw[d 1 true (by omega) rfl])
 ·go_wp2_with fail
  go_ret
  exact⟨rfl,rfl⟩
 all_goals ((go_wp2_with fail);refine(jj _ (ad 2) h.s2.2 n _ HE.out).mono ?_;rintro e w' ⟨rfl,rfl⟩;first|rw[d 2 false (by omega) rfl]|rw[d 2 true (by omega) rfl])
 ·go_wp2_with fail
  go_ret
  exact⟨rfl,rfl⟩
 all_goals ((go_wp2_with fail);refine(jj _ (ad 3) h.s3.2 n _ HE.out).mono ?_;rintro e w' ⟨rfl,rfl⟩;first|rw[d 3 false (by omega) rfl]|rw[d 3 true (by omega) rfl])
 ·go_wp2_with fail
  go_ret
  exact⟨rfl,rfl⟩
 all_goals ((go_wp2_with fail);refine(jj _ (ad 4) h.s4.2 n _ HE.out).mono ?_;rintro e w' ⟨rfl,rfl⟩;first|rw[d 4 false (by omega) rfl]|rw[d 4 true (by omega) rfl])
 ·go_wp2_with fail
  go_ret
  exact⟨rfl,rfl⟩
 all_goals ((go_wp2_with fail);refine(jj _ (ad 5) h.s5.2 n _ HE.out).mono ?_;rintro e w' ⟨rfl,rfl⟩;first|rw[d 5 false (by omega) rfl]|rw[d 5 true (by omega) rfl])
 ·go_wp2_with fail
  go_ret
  exact⟨rfl,rfl⟩
 all_goals ((go_wp2_with fail);refine(jj _ (ad 6) h.s6.2 n _ HE.out).mono ?_;rintro e w' ⟨rfl,rfl⟩;first|rw[d 6 false (by omega) rfl]|rw[d 6 true (by omega) rfl])
 ·go_wp2_with fail
  go_ret
  exact⟨rfl,rfl⟩
 all_goals ((go_wp2_with fail);refine(jj _ (ad 7) h.s7.2 n _ HE.out).mono ?_;rintro e w' ⟨rfl,rfl⟩;first|rw[d 7 false (by omega) rfl]|rw[d 7 true (by omega) rfl])
 ·go_wp2_with fail
  go_ret
  exact⟨rfl,rfl⟩
 all_goals ((go_wp2_with fail);refine(jj _ (ad 8) h.s8.2 n _ HE.out).mono ?_;rintro e w' ⟨rfl,rfl⟩;first|rw[d 8 false (by omega) rfl]|rw[d 8 true (by omega) rfl])
 ·go_wp2_with fail
  go_ret
  exact⟨rfl,rfl⟩
 all_goals ((go_wp2_with fail);refine(jj _ (ad 9) h.s9.2 n _ HE.out).mono ?_;rintro e w' ⟨rfl,rfl⟩;first|rw[d 9 false (by omega) rfl]|rw[d 9 true (by omega) rfl])
 ·go_wp2_with fail
  go_ret
  exact⟨rfl,rfl⟩
end
section
open Go.RowKit
attribute [local go_sem_proc ↓] reduceIte
attribute [local go_sem_proc] reduceCtorEq Nat.reduceBEq Nat.reduceAdd Nat.reduceSub Nat.reduceEqDiff Nat.reduceLT Nat.reduceLeDiff Nat.reduceMul Int.reduceToNat Int.reduceBEq Int.reduceBNe Int.reduceEq Int.reduceLT Int.reduceLE
attribute [local go_sem] Da tx AE pX xj lM qD lR List.isEmpty_cons Array.isEmpty_iff rm vR ma pW lO ga eA vS jE kR fI jM xa br mfind jK Rd.map AV.bare AV.bare.bareL AV.ofVal an fg iX cr cP Takes bJ ba D7 vT D6 AH Hp AF lQ D9 zy AG D5 rq AC D8 AA me AD mb AB rp Ho vU Hm Hn Bp Bq Hg Hi DX Hh DU DV DW C4 xV xL wX C6 Jt wy Jw val gV db seen AV.plain AV.soft adopt fzArgs Rd.run AV.asCells ky runL Comes' Rd.row Rd.bind Out.app apps Eff.app St.renew St.setRow St.show St.put St.init upd oE uA Fs qN cG tz iq xl fJ fN oH oG bound oF gz jN tv eE lN iZ dp fz cF dq shows bz splice wrs wes Value.oneCell' List.getD_cons_zero List.getD_cons_succ List.getD_nil List.length_cons List.length_nil List.map_cons List.map_nil List.nil_append List.cons_append List.all_cons List.all_nil List.getElem?_cons_zero List.getElem?_cons_succ List.set_cons_zero List.set_cons_succ List.take_succ_cons List.take_zero List.drop_succ_cons List.drop_zero List.take_nil List.drop_nil List.replicate_succ List.replicate_zero Bool.and_true Bool.true_and Bool.and_self and_self true_and and_true Nat.zero_add Nat.add_zero Option.some.injEq Nat.zero_lt_succ Bool.not_true Bool.not_false ne_eq not_true_eq_false not_false_eq_true Option.map_some Option.map_none List.toList_toArray head lz ag List.length_map Int.toNat_natCast Int.natCast_nonneg List.getElem?_map decide_true decide_false Bool.false_eq_true if_true if_false Bool.or_self Bool.or_true Bool.true_or Bool.false_or Bool.or_false Bool.and_false Bool.false_and List.flatten_cons List.flatten_nil List.append_nil KO or_self or_false false_or or_true true_or and_false false_and List.length_append List.isEmpty_nil bne_self_eq_false beq_self_eq_true aG H8 bytesOf_map wants Int.cast_ofNat_Int gt_iff_lt ge_iff_le
attribute [local go_sem <-] List.map_drop List.map_take
/-! Weaker values -/
theorem Str.iface {t:TypeId} {c' c:AV} (h:Str c' c):Str (.iface t c') (.iface t c):=fun S w v hv=>by
 cases hv with
 |iface _ v _ hv=>exact .iface t v c (h S w v hv)
theorem Str.ref1 {cs' cs:List AV} {off:Nat} (h:Strs cs' cs):Str (.ref cs.length [cs'] 0 off) (.ref cs.length [cs] 0 off):=fun S w v hv=>by
 cases hv with
 | ref sz es i off b o u hz hc hr=>
   have at': ∀(i j:Nat) (c:AV),cellAt [cs] i j=some c-> ∃c',cellAt [cs'] i j=some c'/\Str c' c:=fun i j c hcc=>by
    cases i with
    | zero=>
      have hj:cs[j]? =some c:=hcc;have hlt:j<cs'.length:=by rw[h.1];exact(KW.1 hj).1
      exact⟨cs'[j],KV hlt,h.2 j _ c (KV hlt) hj⟩
    |succ i=>simp[cellAt]at hcc
   refine .ref _ [cs] 0 off b o u (fun i e he=>by
    cases i with
    |zero=>simp at he;rw[<-he]
    |succ i=>simp at he) (fun i j c hcc=> ?_) fun i j c hcc=> ?_
   ·obtain⟨c',h1,_⟩:=at' i j c hcc;exact hc i j c' h1
   ·obtain⟨c',h1,h2⟩:=at' i j c hcc;exact h2 S w _ (hr i j c' h1)
abbrev sentV (a:Addr):AV:= .lit (.iface 410 (.pointer (some a)))
abbrev errV (p:Int) (e:AV):AV:= .iface 179 (.ref 3 [[.any,I p,e]] 0 0)
abbrev nilE:AV:= .lit .nilIface
theorem Gy (s p:AV) (q:Int) (hp:p=I q) (e:AV):ge (.iface 179 (.ref 3 [[s,p,e]] 0 0)) (errV q e):=by
 subst hp;exact .of (.iface (.ref1 (cs:=[.any,I q,e]) (.cons (.any _) (.refl _)))) (fun _ _ _ h=>by cases h) (fun _ _ _ h=>by cases h)
def C0 (ad:Nat->Addr) (g:Nat):Option AV:=
 if g=0 then some (sentV (ad 1)) else
 if g=2 then some (sentV (ad 2)) else
 if g=3 then some (sentV (ad 3)) else
 if g=4 then some (sentV (ad 4)) else
 if g=5 then some (sentV (ad 5)) else
 if g=6 then some (sentV (ad 6)) else
 if g=1 then some (sentV (ad 7)) else
 if g=7 then some (sentV (ad 8)) else
 if g=8 then some (sentV (ad 9)) else none
structure More where
 inv:World->Prop
 up: ∀w w',inv w->Below w.heap.size w w'->inv w'
def aY (ad:Nat->Addr) (mo:More):Env:=⟨C0 ad,fun w=>Sents w ad/\mo.inv w,fun w w' h hb=>⟨h.1.below hb,mo.up w w' h.2 hb⟩⟩
theorem vV {ad:Nat->Addr} {mo:More} {w:World} (h:Sents w ad) (hm:mo.inv w):EnvOk (aY ad mo) (fun b _=>b<w.heap.size) w:=by
 refine⟨⟨h,hm⟩,fun b o hb=>hb,fun g c hg=> ?_⟩;have one: ∀ {g:Nat} {a:Addr},Sent w g a-> ∃u,w.cell? ⟨g,0,none⟩=some u/\u.oneCell'=true/\g<w.heap.size/\RV (fun b _=>b<w.heap.size) w u (sentV a):=fun hs=>⟨_,hs.1,rfl,Di hs.1, .lit _⟩;have hg:C0 ad g=some c:=hg;unfold C0 at hg;split at hg
 ·rename_i e;subst e;cases hg;exact one h.s1
 split at hg
 ·rename_i e;subst e;cases hg;exact one h.s2
 split at hg
 ·rename_i e;subst e;cases hg;exact one h.s3
 split at hg
 ·rename_i e;subst e;cases hg;exact one h.s4
 split at hg
 ·rename_i e;subst e;cases hg;exact one h.s5
 split at hg
 ·rename_i e;subst e;cases hg;exact one h.s6
 split at hg
 ·rename_i e;subst e;cases hg;exact one h.s7
 split at hg
 ·rename_i e;subst e;cases hg;exact one h.s8
 split at hg
 ·rename_i e;subst e;cases hg;exact one h.s9
 cases hg
section
variable {ad:Nat->Addr} {mo:More} {f:Nat->AV}
end
theorem gX {env:Env} {g:Nat} {c:AV} (h:env g=some c) (f:Nat->AV):gt env f (.global g)= .ref 1 [[c]] 0 0:=by simp only[gt,h]
theorem bT (env:Env) (s:List UInt8) (a:Addr):Con prog env 77 [Sg s,sentV a] (errV (-1) (sentV a)):=by
 refine lU func77 rfl call77 (by rw[ntmps77];simp) ?_;rw[ntmps77,results77];repeat (first|refine oO rfl (by simp only[go_sem];exact⟨rfl,rfl⟩) ?_|refine gR ?_|refine gO ?_|refine oZ (jm ?_)|refine oZ ?_|refine oS ?_|refine gT ?_|refine gD mixed ?_|refine oB ?_|refine oK ?_|(refine oX ?_;simp only[bJ,ba, ↓reduceIte,Nat.reduceEqDiff,reduceCtorEq]))
 (refine aN ?_;refine⟨_,(by show (an _ _ _).run _=some _;simp only[go_sem];rfl),?_⟩)
 exact Gy _ _ _ rfl _
/-! fault.Code -/
theorem Dh {P:Program} {env:Env} {f:FuncId} {cs:List AV} {u:Value} (henter: ∀(args:Array Value) (w:World),(callFunc f args).run P w= .ok (.enter f args) w)
 (h: ∀(w:World) (S:Nat->Nat->Prop) (vs:List Value),EnvOk env S w->vs.length=cs.length->(∀(i:Nat) (v:Value) (c:AV),vs[i]? =some v->cs[i]? =some c->RV S w v c)->Calls P f vs.toArray w fun e w'=>e= .returned u/\Below w.heap.size w w'):Con P env f cs (.lit u):=by
 refine⟨henter,fun w S vs hE hl hv=>(h w S vs hE hl hv).mono ?_⟩;rintro e w' ⟨rfl,hb⟩;exact⟨u,rfl,hb,S,fun _ _ h=>h,fun _ _ h=> .inl h,fun b o hb'=>Lz (hE.low b o hb') hb.size, .lit _⟩
theorem Au {w:World} {ad:Nat->Addr} (h:Sents w ad) (k:Nat) (hk:1<=k/\k<=9):Lies w (ad k):=by
 obtain rfl|rfl|rfl|rfl|rfl|rfl|rfl|rfl|rfl:k=1\/k=2\/k=3\/k=4\/k=5\/k=6\/k=7\/k=8\/k=9:=by omega
 ·exact h.s1.2
 ·exact h.s2.2
 ·exact h.s3.2
 ·exact h.s4.2
 ·exact h.s5.2
 ·exact h.s6.2
 ·exact h.s7.2
 ·exact h.s8.2
 ·exact h.s9.2
end
section
open Go.RowKit
attribute [go_sem_proc ↓] reduceIte
attribute [go_sem_proc] reduceCtorEq Nat.reduceBEq Nat.reduceAdd Nat.reduceSub Nat.reduceEqDiff Nat.reduceLT Nat.reduceLeDiff Nat.reduceMul Int.reduceToNat Int.reduceBEq Int.reduceBNe Int.reduceEq Int.reduceLT Int.reduceLE
attribute [go_sem] Da tx AE pX xj lM qD lR List.isEmpty_cons Array.isEmpty_iff rm vR ma pW lO ga eA vS jE kR fI jM xa br mfind jK Rd.map AV.bare AV.bare.bareL AV.ofVal an fg iX cr cP Takes bJ ba D7 vT D6 AH Hp AF lQ D9 zy AG D5 rq AC D8 AA me AD mb AB rp Ho vU Hm Hn Bp Bq Hg Hi DX Hh DU DV DW C4 xV xL wX C6 Jt wy Jw val gV db seen AV.plain AV.soft adopt fzArgs Rd.run AV.asCells ky runL Comes' Rd.row Rd.bind Out.app apps Eff.app St.renew St.setRow St.show St.put St.init upd oE uA Fs qN cG tz iq xl fJ fN oH oG bound oF gz jN tv eE lN iZ dp fz cF dq shows bz splice wrs wes Value.oneCell' List.getD_cons_zero List.getD_cons_succ List.getD_nil List.length_cons List.length_nil List.map_cons List.map_nil List.nil_append List.cons_append List.all_cons List.all_nil List.getElem?_cons_zero List.getElem?_cons_succ List.set_cons_zero List.set_cons_succ List.take_succ_cons List.take_zero List.drop_succ_cons List.drop_zero List.take_nil List.drop_nil List.replicate_succ List.replicate_zero Bool.and_true Bool.true_and Bool.and_self and_self true_and and_true Nat.zero_add Nat.add_zero Option.some.injEq Nat.zero_lt_succ Bool.not_true Bool.not_false ne_eq not_true_eq_false not_false_eq_true Option.map_some Option.map_none List.toList_toArray head lz ag List.length_map Int.toNat_natCast Int.natCast_nonneg List.getElem?_map decide_true decide_false Bool.false_eq_true if_true if_false Bool.or_self Bool.or_true Bool.true_or Bool.false_or Bool.or_false Bool.and_false Bool.false_and List.flatten_cons List.flatten_nil List.append_nil KO or_self or_false false_or or_true true_or and_false false_and List.length_append List.isEmpty_nil bne_self_eq_false beq_self_eq_true aG H8 bytesOf_map wants Int.cast_ofNat_Int gt_iff_lt ge_iff_le
attribute [go_sem <-] List.map_drop List.map_take
end

end Go.Proofs.YtbjldjekgepopaaGreatDoor