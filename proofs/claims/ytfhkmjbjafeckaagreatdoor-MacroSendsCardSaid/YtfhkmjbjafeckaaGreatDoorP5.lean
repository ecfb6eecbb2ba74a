/- The facts of evaluation. No program is named here. -/
import Derived.Test.YtfhkmjbjafeckaaGreatDoorProg
import Derived.Test.YtfhkmjbjafeckaaGreatDoorP4
import Derived.Lib.SmallJoins
set_option maxRecDepth 100000
set_option maxHeartbeats 8000000
set_option linter.unusedSimpArgs false
set_option linter.defProp false
namespace Go.Proofs.YtfhkmjbjafeckaaGreatDoor
open Go.Proofs.Tryz
section
open Go.RowKit
@[go_sem] theorem Tryz.tyds:ef prog 2=some ⟨.int .i64,1,[.int .i64 0]⟩/\
  ef prog 3=some ⟨.int .i64,1,[.int .i64 0]⟩/\
  ef prog 4=some ⟨.bool,1,[.bool false]⟩/\
  ef prog 5=some ⟨.int .u8,1,[.int .u8 0]⟩/\
  ef prog 6=some ⟨.int .u8,1,[.int .u8 0]⟩/\
  ef prog 7=some ⟨.struct [(0,2,1),(1,3,1),(2,4,1),(3,6,1)] true,4,[.int .i64 0, .int .i64 0, .bool false, .int .u8 0]⟩/\
  ef prog 8=some ⟨.struct [(0,2,1),(1,3,1),(2,4,1),(3,6,1)] true,4,[.int .i64 0, .int .i64 0, .bool false, .int .u8 0]⟩/\
  ef prog 9=some ⟨.string,1,[.string ⟨#[]⟩]⟩/\
  ef prog 10=some ⟨.string,1,[.string ⟨#[]⟩]⟩/\
  ef prog 11=some ⟨.string,1,[.string ⟨#[]⟩]⟩/\
  ef prog 12=some ⟨.int .u64,1,[.int .u64 0]⟩/\
  ef prog 13=some ⟨.struct [(0,9,1),(1,12,1)] false,2,[.string ⟨#[]⟩, .int .u64 0]⟩/\
  ef prog 14=some ⟨.struct [(0,9,1),(1,12,1)] false,2,[.string ⟨#[]⟩, .int .u64 0]⟩/\
  ef prog 15=some ⟨.ptr,1,[.pointer none]⟩/\
  ef prog 16=some ⟨.ptr,1,[.pointer none]⟩/\
  ef prog 17=some ⟨.ptr,1,[.pointer none]⟩/\
  ef prog 18=some ⟨.struct [(0,17,1)] false,1,[.pointer none]⟩/\
  ef prog 19=some ⟨.struct [(0,17,1)] false,1,[.pointer none]⟩/\
  ef prog 20=some ⟨.iface,1,[.nilIface]⟩/\
  ef prog 21=some ⟨.int .i32,1,[.int .i32 0]⟩/\
  ef prog 22=some ⟨.slice 140 2 24 [.string ⟨#[]⟩, .int .i64 0],1,[.slice none 0 0]⟩/\
  ef prog 23=some ⟨.slice 75 6 88 [.string ⟨#[]⟩, .int .i64 0, .int .i64 0, .int .i64 0, .slice none 0 0, .slice none 0 0],1,[.slice none 0 0]⟩/\
  ef prog 24=some ⟨.slice 83 5 80 [.int .i64 0, .string ⟨#[]⟩, .slice none 0 0, .slice none 0 0, .int .i64 0],1,[.slice none 0 0]⟩/\
  ef prog 25=some ⟨.struct [(0,9,1),(1,3,1),(2,22,1),(3,23,1),(4,24,1)] true,5,[.string ⟨#[]⟩, .int .i64 0, .slice none 0 0, .slice none 0 0, .slice none 0 0]⟩/\
  ef prog 26=some ⟨.struct [(0,9,1),(1,3,1),(2,22,1),(3,23,1),(4,24,1)] true,5,[.string ⟨#[]⟩, .int .i64 0, .slice none 0 0, .slice none 0 0, .slice none 0 0]⟩/\
  ef prog 27=some ⟨.slice 50 2 24 [.string ⟨#[]⟩, .int .i64 0],1,[.slice none 0 0]⟩/\
  ef prog 28=some ⟨.arr 2 3 1,2,[.int .i64 0, .int .i64 0]⟩/\
  ef prog 29=some ⟨.ptr,1,[.pointer none]⟩/\
  ef prog 33=some ⟨.slice 3 1 8 [.int .i64 0],1,[.slice none 0 0]⟩/\
  ef prog 34=some ⟨.slice 146 2 32 [.int .i64 0, .slice none 0 0],1,[.slice none 0 0]⟩/\
  ef prog 35=some ⟨.slice 98 2 24 [.string ⟨#[]⟩, .int .i64 0],1,[.slice none 0 0]⟩/\
  ef prog 36=some ⟨.struct [(0,33,1),(1,33,1),(2,34,1),(3,35,1),(4,4,1)] true,5,[.slice none 0 0, .slice none 0 0, .slice none 0 0, .slice none 0 0, .bool false]⟩/\
  ef prog 37=some ⟨.struct [(0,33,1),(1,33,1),(2,34,1),(3,35,1),(4,4,1)] true,5,[.slice none 0 0, .slice none 0 0, .slice none 0 0, .slice none 0 0, .bool false]⟩/\
  ef prog 38=some ⟨.slice 56 3 40 [.slice none 0 0, .int .i64 0, .bool false],1,[.slice none 0 0]⟩/\
  ef prog 39=some ⟨.iface,1,[.nilIface]⟩/\
  ef prog 40=some ⟨.iface,1,[.nilIface]⟩/\
  ef prog 45=some ⟨.struct [(0,37,5),(5,33,1),(6,3,1),(7,3,1),(8,3,1)] true,9,[.slice none 0 0, .slice none 0 0, .slice none 0 0, .slice none 0 0, .bool false, .slice none 0 0, .int .i64 0, .int .i64 0, .int .i64 0]⟩/\
  ef prog 46=some ⟨.struct [(0,37,5),(5,33,1),(6,3,1),(7,3,1),(8,3,1)] true,9,[.slice none 0 0, .slice none 0 0, .slice none 0 0, .slice none 0 0, .bool false, .slice none 0 0, .int .i64 0, .int .i64 0, .int .i64 0]⟩/\
  ef prog 48=some ⟨.slice 46 9 152 [.slice none 0 0, .slice none 0 0, .slice none 0 0, .slice none 0 0, .bool false, .slice none 0 0, .int .i64 0, .int .i64 0, .int .i64 0],1,[.slice none 0 0]⟩/\
  ef prog 49=some ⟨.struct [(0,9,1),(1,3,1)] true,2,[.string ⟨#[]⟩, .int .i64 0]⟩/\
  ef prog 50=some ⟨.struct [(0,9,1),(1,3,1)] true,2,[.string ⟨#[]⟩, .int .i64 0]⟩/\
  ef prog 55=some ⟨.struct [(0,33,1),(1,3,1),(2,4,1)] true,3,[.slice none 0 0, .int .i64 0, .bool false]⟩/\
  ef prog 56=some ⟨.struct [(0,33,1),(1,3,1),(2,4,1)] true,3,[.slice none 0 0, .int .i64 0, .bool false]⟩/\
  ef prog 62=some ⟨.struct [(0,26,5),(5,37,5),(10,50,2),(12,3,1),(13,3,1)] true,14,[.string ⟨#[]⟩, .int .i64 0, .slice none 0 0, .slice none 0 0, .slice none 0 0, .slice none 0 0, .slice none 0 0, .slice none 0 0, .slice none 0 0, .bool false, .string ⟨#[]⟩, .int .i64 0, .int .i64 0, .int .i64 0]⟩/\
  ef prog 63=some ⟨.struct [(0,26,5),(5,37,5),(10,50,2),(12,3,1),(13,3,1)] true,14,[.string ⟨#[]⟩, .int .i64 0, .slice none 0 0, .slice none 0 0, .slice none 0 0, .slice none 0 0, .slice none 0 0, .slice none 0 0, .slice none 0 0, .bool false, .string ⟨#[]⟩, .int .i64 0, .int .i64 0, .int .i64 0]⟩/\
  ef prog 73=some ⟨.slice 81 4 56 [.int .i64 0, .int .i64 0, .string ⟨#[]⟩, .slice none 0 0],1,[.slice none 0 0]⟩/\
  ef prog 74=some ⟨.struct [(0,9,1),(1,3,1),(2,3,1),(3,3,1),(4,73,1),(5,73,1)] true,6,[.string ⟨#[]⟩, .int .i64 0, .int .i64 0, .int .i64 0, .slice none 0 0, .slice none 0 0]⟩/\
  ef prog 75=some ⟨.struct [(0,9,1),(1,3,1),(2,3,1),(3,3,1),(4,73,1),(5,73,1)] true,6,[.string ⟨#[]⟩, .int .i64 0, .int .i64 0, .int .i64 0, .slice none 0 0, .slice none 0 0]⟩/\
  ef prog 77=some ⟨.struct [(0,3,1),(1,3,1)] true,2,[.int .i64 0, .int .i64 0]⟩/\
  ef prog 78=some ⟨.struct [(0,3,1),(1,3,1)] true,2,[.int .i64 0, .int .i64 0]⟩/\
  ef prog 79=some ⟨.slice 78 2 16 [.int .i64 0, .int .i64 0],1,[.slice none 0 0]⟩/\
  ef prog 80=some ⟨.struct [(0,3,1),(1,3,1),(2,9,1),(3,79,1)] true,4,[.int .i64 0, .int .i64 0, .string ⟨#[]⟩, .slice none 0 0]⟩/\
  ef prog 81=some ⟨.struct [(0,3,1),(1,3,1),(2,9,1),(3,79,1)] true,4,[.int .i64 0, .int .i64 0, .string ⟨#[]⟩, .slice none 0 0]⟩/\
  ef prog 82=some ⟨.struct [(0,3,1),(1,9,1),(2,79,1),(3,73,1),(4,3,1)] true,5,[.int .i64 0, .string ⟨#[]⟩, .slice none 0 0, .slice none 0 0, .int .i64 0]⟩/\
  ef prog 83=some ⟨.struct [(0,3,1),(1,9,1),(2,79,1),(3,73,1),(4,3,1)] true,5,[.int .i64 0, .string ⟨#[]⟩, .slice none 0 0, .slice none 0 0, .int .i64 0]⟩/\
  ef prog 86=some ⟨.struct [(0,27,1),(1,3,1)] true,2,[.slice none 0 0, .int .i64 0]⟩/\
  ef prog 87=some ⟨.struct [(0,27,1),(1,3,1)] true,2,[.slice none 0 0, .int .i64 0]⟩/\
  ef prog 90=some ⟨.struct [(0,37,5),(5,33,1),(6,27,1),(7,3,1),(8,3,1),(9,3,1),(10,3,1)] true,11,[.slice none 0 0, .slice none 0 0, .slice none 0 0, .slice none 0 0, .bool false, .slice none 0 0, .slice none 0 0, .int .i64 0, .int .i64 0, .int .i64 0, .int .i64 0]⟩/\
  ef prog 91=some ⟨.struct [(0,37,5),(5,33,1),(6,27,1),(7,3,1),(8,3,1),(9,3,1),(10,3,1)] true,11,[.slice none 0 0, .slice none 0 0, .slice none 0 0, .slice none 0 0, .bool false, .slice none 0 0, .slice none 0 0, .int .i64 0, .int .i64 0, .int .i64 0, .int .i64 0]⟩/\
  ef prog 97=some ⟨.struct [(0,9,1),(1,3,1)] true,2,[.string ⟨#[]⟩, .int .i64 0]⟩/\
  ef prog 98=some ⟨.struct [(0,9,1),(1,3,1)] true,2,[.string ⟨#[]⟩, .int .i64 0]⟩/\
  ef prog 100=some ⟨.struct [(0,33,1),(1,27,1)] true,2,[.slice none 0 0, .slice none 0 0]⟩/\
  ef prog 101=some ⟨.struct [(0,33,1),(1,27,1)] true,2,[.slice none 0 0, .slice none 0 0]⟩/\
  ef prog 104=some ⟨.ptr,1,[.pointer none]⟩/\
  ef prog 105=some ⟨.struct [(0,29,1),(1,37,5),(6,27,1),(7,56,3),(10,3,1),(11,3,1),(12,3,1)] true,13,[.pointer none, .slice none 0 0, .slice none 0 0, .slice none 0 0, .slice none 0 0, .bool false, .slice none 0 0, .slice none 0 0, .int .i64 0, .bool false, .int .i64 0, .int .i64 0, .int .i64 0]⟩/\
  ef prog 106=some ⟨.struct [(0,29,1),(1,37,5),(6,27,1),(7,56,3),(10,3,1),(11,3,1),(12,3,1)] true,13,[.pointer none, .slice none 0 0, .slice none 0 0, .slice none 0 0, .slice none 0 0, .bool false, .slice none 0 0, .slice none 0 0, .int .i64 0, .bool false, .int .i64 0, .int .i64 0, .int .i64 0]⟩/\
  ef prog 115=some ⟨.ptr,1,[.pointer none]⟩/\
  ef prog 119=some ⟨.slice 9 1 16 [.string ⟨#[]⟩],1,[.slice none 0 0]⟩/\
  ef prog 121=some ⟨.map 127 33 (.slice none 0 0),1,[.map none]⟩/\
  ef prog 122=some ⟨.slice 33 1 24 [.slice none 0 0],1,[.slice none 0 0]⟩/\
  ef prog 123=some ⟨.struct [(0,26,5),(5,115,1),(6,119,1),(7,121,1),(8,122,1)] true,9,[.string ⟨#[]⟩, .int .i64 0, .slice none 0 0, .slice none 0 0, .slice none 0 0, .pointer none, .slice none 0 0, .map none, .slice none 0 0]⟩/\
  ef prog 124=some ⟨.struct [(0,26,5),(5,115,1),(6,119,1),(7,121,1),(8,122,1)] true,9,[.string ⟨#[]⟩, .int .i64 0, .slice none 0 0, .slice none 0 0, .slice none 0 0, .pointer none, .slice none 0 0, .map none, .slice none 0 0]⟩/\
  ef prog 126=some ⟨.struct [(0,3,1),(1,3,1)] true,2,[.int .i64 0, .int .i64 0]⟩/\
  ef prog 127=some ⟨.struct [(0,3,1),(1,3,1)] true,2,[.int .i64 0, .int .i64 0]⟩/\
  ef prog 134=some ⟨.ptr,1,[.pointer none]⟩/\
  ef prog 135=some ⟨.struct [(0,9,1),(1,3,1),(2,40,1)] false,3,[.string ⟨#[]⟩, .int .i64 0, .nilIface]⟩/\
  ef prog 136=some ⟨.struct [(0,9,1),(1,3,1),(2,40,1)] false,3,[.string ⟨#[]⟩, .int .i64 0, .nilIface]⟩/\
  ef prog 139=some ⟨.struct [(0,9,1),(1,3,1)] true,2,[.string ⟨#[]⟩, .int .i64 0]⟩/\
  ef prog 140=some ⟨.struct [(0,9,1),(1,3,1)] true,2,[.string ⟨#[]⟩, .int .i64 0]⟩/\
  ef prog 145=some ⟨.struct [(0,3,1),(1,33,1)] true,2,[.int .i64 0, .slice none 0 0]⟩/\
  ef prog 146=some ⟨.struct [(0,3,1),(1,33,1)] true,2,[.int .i64 0, .slice none 0 0]⟩/\
  ef prog 147=some ⟨.ptr,1,[.pointer none]⟩/\
  ef prog 149=some ⟨.struct [(0,37,5),(5,101,2),(7,29,1),(8,26,5),(13,3,1),(14,3,1)] true,15,[.slice none 0 0, .slice none 0 0, .slice none 0 0, .slice none 0 0, .bool false, .slice none 0 0, .slice none 0 0, .pointer none, .string ⟨#[]⟩, .int .i64 0, .slice none 0 0, .slice none 0 0, .slice none 0 0, .int .i64 0, .int .i64 0]⟩/\
  ef prog 150=some ⟨.struct [(0,37,5),(5,101,2),(7,29,1),(8,26,5),(13,3,1),(14,3,1)] true,15,[.slice none 0 0, .slice none 0 0, .slice none 0 0, .slice none 0 0, .bool false, .slice none 0 0, .slice none 0 0, .pointer none, .string ⟨#[]⟩, .int .i64 0, .slice none 0 0, .slice none 0 0, .slice none 0 0, .int .i64 0, .int .i64 0]⟩/\
  ef prog 155=some ⟨.ptr,1,[.pointer none]⟩/\
  ef prog 163=some ⟨.slice 4 1 1 [.bool false],1,[.slice none 0 0]⟩/\
  ef prog 164=some ⟨.struct [(0,33,1),(1,3,1),(2,163,1)] true,3,[.slice none 0 0, .int .i64 0, .slice none 0 0]⟩/\
  ef prog 165=some ⟨.struct [(0,33,1),(1,3,1),(2,163,1)] true,3,[.slice none 0 0, .int .i64 0, .slice none 0 0]⟩/\
  ef prog 167=some ⟨.slice 169 1 4 [.int .u32 0],1,[.slice none 0 0]⟩/\
  ef prog 168=some ⟨.int .u32,1,[.int .u32 0]⟩/\
  ef prog 169=some ⟨.int .u32,1,[.int .u32 0]⟩/\
  ef prog 170=some ⟨.struct [(0,33,1),(1,33,1),(2,167,1),(3,167,1),(4,33,1),(5,33,1),(6,169,1)] true,7,[.slice none 0 0, .slice none 0 0, .slice none 0 0, .slice none 0 0, .slice none 0 0, .slice none 0 0, .int .u32 0]⟩/\
  ef prog 171=some ⟨.struct [(0,33,1),(1,33,1),(2,167,1),(3,167,1),(4,33,1),(5,33,1),(6,169,1)] true,7,[.slice none 0 0, .slice none 0 0, .slice none 0 0, .slice none 0 0, .slice none 0 0, .slice none 0 0, .int .u32 0]⟩/\
  ef prog 189=some ⟨.iface,1,[.nilIface]⟩/\
  ef prog 190=some ⟨.iface,1,[.nilIface]⟩/\
  ef prog 208=some ⟨.int .u64,1,[.int .u64 0]⟩/\
  ef prog 209=some ⟨.struct [(0,17,1),(1,207,1),(2,208,1)] false,3,[.pointer none, .pointer none, .int .u64 0]⟩/\
  ef prog 210=some ⟨.struct [(0,17,1),(1,207,1),(2,208,1)] false,3,[.pointer none, .pointer none, .int .u64 0]⟩/\
  ef prog 213=some ⟨.int .u8,1,[.int .u8 0]⟩/\
  ef prog 231=some ⟨.int .u64,1,[.int .u64 0]⟩/\
  ef prog 236=some ⟨.struct [(0,17,1)] false,1,[.pointer none]⟩/\
  ef prog 237=some ⟨.struct [(0,17,1)] false,1,[.pointer none]⟩/\
  ef prog 238=some ⟨.ptr,1,[.pointer none]⟩/\
  ef prog 239=some ⟨.iface,1,[.nilIface]⟩/\
  ef prog 242=some ⟨.iface,1,[.nilIface]⟩/\
  ef prog 243=some ⟨.iface,1,[.nilIface]⟩/\
  ef prog 244=some ⟨.slice 40 1 16 [.nilIface],1,[.slice none 0 0]⟩/\
  ef prog 263=some ⟨.iface,1,[.nilIface]⟩/\
  ef prog 279=some ⟨.arr 32 5 1,32,[.int .u8 0, .int .u8 0, .int .u8 0, .int .u8 0, .int .u8 0, .int .u8 0, .int .u8 0, .int .u8 0, .int .u8 0, .int .u8 0, .int .u8 0, .int .u8 0, .int .u8 0, .int .u8 0, .int .u8 0, .int .u8 0, .int .u8 0, .int .u8 0, .int .u8 0, .int .u8 0, .int .u8 0, .int .u8 0, .int .u8 0, .int .u8 0, .int .u8 0, .int .u8 0, .int .u8 0, .int .u8 0, .int .u8 0, .int .u8 0, .int .u8 0, .int .u8 0]⟩/\
  ef prog 281=some ⟨.int .i64,1,[.int .i64 0]⟩/\
  ef prog 288=some ⟨.int .u64,1,[.int .u64 0]⟩/\
  ef prog 300=some ⟨.struct [(0,33,1),(1,3,1),(2,163,1)] true,3,[.slice none 0 0, .int .i64 0, .slice none 0 0]⟩/\
  ef prog 309=some ⟨.int .u64,1,[.int .u64 0]⟩/\
  ef prog 313=some ⟨.ptr,1,[.pointer none]⟩/\
  ef prog 332=some ⟨.ptr,1,[.pointer none]⟩/\
  ef prog 346=some ⟨.map 3 3 (.int .i64 0),1,[.map none]⟩/\
  ef prog 369=some ⟨.ptr,1,[.pointer none]⟩/\
  ef prog 371=some ⟨.struct [(0,17,1),(1,17,1),(2,17,1),(3,9,1)] false,4,[.pointer none, .pointer none, .pointer none, .string ⟨#[]⟩]⟩/\
  ef prog 372=some ⟨.struct [(0,17,1),(1,17,1),(2,17,1),(3,9,1)] false,4,[.pointer none, .pointer none, .pointer none, .string ⟨#[]⟩]⟩/\
  ef prog 373=some ⟨.arr 0 16 1,0,[]⟩/\
  ef prog 374=some ⟨.struct [(0,373,0)] false,0,[]⟩/\
  ef prog 375=some ⟨.struct [(0,373,0)] false,0,[]⟩/\
  ef prog 377=some ⟨.int .u8,1,[.int .u8 0]⟩/\
  ef prog 379=some ⟨.ptr,1,[.pointer none]⟩/\
  ef prog 380=some ⟨.int .i32,1,[.int .i32 0]⟩/\
  ef prog 381=some ⟨.int .i32,1,[.int .i32 0]⟩/\
  ef prog 382=some ⟨.struct [(0,12,1),(1,12,1),(2,168,1),(3,377,1),(4,5,1),(5,5,1),(6,213,1),(7,378,1),(8,379,1),(9,380,1),(10,381,1)] false,11,[.int .u64 0, .int .u64 0, .int .u32 0, .int .u8 0, .int .u8 0, .int .u8 0, .int .u8 0, .nilFunc, .pointer none, .int .i32 0, .int .i32 0]⟩/\
  ef prog 383=some ⟨.struct [(0,12,1),(1,12,1),(2,168,1),(3,377,1),(4,5,1),(5,5,1),(6,213,1),(7,378,1),(8,379,1),(9,380,1),(10,381,1)] false,11,[.int .u64 0, .int .u64 0, .int .u32 0, .int .u8 0, .int .u8 0, .int .u8 0, .int .u8 0, .nilFunc, .pointer none, .int .i32 0, .int .i32 0]⟩/\
  ef prog 386=some ⟨.struct [(0,9,1),(1,213,1)] false,2,[.string ⟨#[]⟩, .int .u8 0]⟩/\
  ef prog 387=some ⟨.struct [(0,9,1),(1,213,1)] false,2,[.string ⟨#[]⟩, .int .u8 0]⟩/\
  ef prog 388=some ⟨.struct [(0,9,1)] true,1,[.string ⟨#[]⟩]⟩/\
  ef prog 389=some ⟨.struct [(0,9,1)] true,1,[.string ⟨#[]⟩]⟩/\
  ef prog 390=some ⟨.ptr,1,[.pointer none]⟩/\
  ef prog 392=some ⟨.int .u16,1,[.int .u16 0]⟩/\
  ef prog 393=some ⟨.struct [(0,380,1),(1,392,1),(2,392,1),(3,168,1),(4,168,1)] false,5,[.int .i32 0, .int .u16 0, .int .u16 0, .int .u32 0, .int .u32 0]⟩/\
  ef prog 394=some ⟨.struct [(0,380,1),(1,392,1),(2,392,1),(3,168,1),(4,168,1)] false,5,[.int .i32 0, .int .u16 0, .int .u16 0, .int .u32 0, .int .u32 0]⟩/\
  ef prog 395=some ⟨.slice 398 4 16 [.int .i32 0, .int .i32 0, .int .i32 0, .int .i32 0],1,[.slice none 0 0]⟩/\
  ef prog 396=some ⟨.int .i32,1,[.int .i32 0]⟩/\
  ef prog 397=some ⟨.struct [(0,380,1),(1,381,1),(2,396,1),(3,396,1)] false,4,[.int .i32 0, .int .i32 0, .int .i32 0, .int .i32 0]⟩/\
  ef prog 398=some ⟨.struct [(0,380,1),(1,381,1),(2,396,1),(3,396,1)] false,4,[.int .i32 0, .int .i32 0, .int .i32 0, .int .i32 0]⟩/\
  ef prog 399=some ⟨.ptr,1,[.pointer none]⟩:=by
  repeat' apply And.intro
  all_goals kernel_rfl
def mixed:prog.follows .mixedOrders=true:=by kernel_rfl
def dT.nilRow{x:py}{s:St}{a:Act}{w:World}{m:ld}(h:dT x s a w m)(r t:Nat)(e:TypeId)(sz:Nat)(z:0<sz)(E:s.f t= .lit (.slice none 0 0)):
 dT x ((s.renew r ⟨sz,[],e,true⟩ false).put (some t) (.row r (s.vs r+1))) a w ⟨m.S,mu m.ρ r (.slice none 0 0)⟩:=by
 have l:=h.renew r ⟨sz,[],e,true⟩ false (.slice none 0 0) m.S (O1 _ _) (fun b o d=>⟨d, .rfl⟩) (fun b o d=> .inl d) (fun k f I u g q=>⟨rfl,by simp[Value.ownBlock],fun o d=>d⟩)
  (.inl ⟨z,fun i H y=>by simp at y,⟨[],by simp only[aw];exact QY _ _ _ _,by simp,fun i j c D=>by simp[bs]at D⟩,(fun y=>by simp[St.renew,aw]at y),(fun g q=>by simp[aw,Value.ownBlock]at q),(fun _ g q=>by simp[aw,Value.ownBlock]at q)⟩) (fun b _=>⟨rfl,fun _ d=>d,by simp[Value.ownBlock]⟩)
 refine { l with ZU:=l.ZU,ZR:=l.ZR,slot:=fun p=> ?_,rows:=fun G n u=> ?_ }
 ·have A:RL w ⟨m.S,mu m.ρ r (.slice none 0 0)⟩ (s.renew r ⟨sz,[],e,true⟩ false) (a.tmps.getD p undef) (mu (s.renew r ⟨sz,[],e,true⟩ false).f t (.row r (s.vs r+1)) p):=by
   by_cases B:p=t
   ·subst B;rw[aw];have v:=h.slot p;rw[E]at v;have v:=v.lit_;rw[v];exact .row r (s.vs r+1) rfl (by simp[St.renew,aw]) fun _ n _=>by simp[aw]
   rw[cR _ _ _ B];exact l.slot p
  exact RL.put A (some t) _
 exact(l.rows G n u).mono (s':=(s.renew r ⟨sz,[],e,true⟩ false).put (some t) (.row r (s.vs r+1))) (fun b o C=>⟨C, .rfl⟩) (fun _=>NC _) (fun r f _ u=>⟨f,u,rfl,rfl⟩) rfl (fun _ _=>rfl) rfl (fun _ _ _ d=>d)
section
variable {P:Program} {env:b8} {nt:Nat} {Q:Exit->St->Prop} {s:St}
theorem ao{c:Code}(r t:Nat)(e:TypeId)(sz:Nat)(h:fp P env nt c Q ((s.renew r ⟨sz,[],e,true⟩ false).put (some t) (.row r (s.vs r+1))))(hsz:0<sz:=by decide)(ht:Is (s.f t) (.lit (.slice none 0 0)):=by simp only[go_sem,reduceIte, ↓reduceIte,Nat.reduceEqDiff,reduceCtorEq];exact iR):fp P env nt c Q s:=
 fun ro x he hn a w _ hS=>h ro x he hn a w _ (hS.nilRow r t e sz hsz ht)
theorem gA.own_nil(e:TypeId)(sz:Nat)(b:0<sz):gA (.lit (.slice none 0 0)) (.own e sz []):=fun S w d v a=>by
 have l:v= .slice none 0 0:=by
  have a:RV S w v (.lit (.slice none 0 0)):=a;cases a;rfl
 subst l;exact⟨[],QY _ _ _ _,b,⟨by simp,by simp,fun i e h=>by simp at h,fun i j c f=>by simp[bs]at f⟩,fun g k=>by simp[Value.ownBlock]at k⟩
end
end
section
open Go.RowKit
abbrev I(n:Int):AV:= .lit (.int .i64 n)
abbrev U(n:Int):AV:= .lit (.int .u64 n)
abbrev B(b:Bool):AV:= .lit (.bool b)
abbrev Sg(s:List UInt8):AV:= .lit (.string ⟨s.toArray⟩)
abbrev cy:AV:= .lit (.slice none 0 0)
end
section
open Go.RowKit Go.ChangeShapes Go.WideShapes Go.Deep
def El{a:Type}(size:Nat)(R:List Value->a->Prop)(xs:List Value)(l:List a):Prop:=
 xs.length=l.length*size/\ ∀i (h:i<l.length),R ((xs.drop (i*size)).take size) l[i]
def eh{b:Type}(w:World)(B size:Nat)(R:List Value->b->Prop)(v:Value)(l:List b):Prop:=
 ∃A c a,v= .slice A l.length c/\l.length<=c/\l.length<=maxLen/\jn w B size A l.length a/\El size R a l
def SV{a:Type}{size:Nat}{R:List Value->a->Prop}{xs:List Value}{l:List a}(h:El size R xs l)(i:Nat)(hi:i<l.length):((xs.drop (i*size)).take size).length=size:=by
 have c:=h.1;have b:(i+1)*size<=l.length*size:=Nk _ (by omega);rw[OY,P7]at b;simp;omega
def eh.elem{g:Type}{w:World}{B size:Nat}{R:List Value->g->Prop}{A:Option Addr}{n c:Nat}{l:List g}(h:eh w B size R (.slice A n c) l)(k:Nat)(f:k<l.length):
 ∃b off cs,A=some ⟨b,off,none⟩/\b<B/\R cs l[k]/\cs.length=size/\ ∀j u,cs[j]? =some u->w.cell? ⟨b,off+k*size+j,none⟩=some u:=by
 obtain⟨p,q,r,e,_,_,o,a⟩:=h;cases e;obtain⟨b,off,rfl,i,m⟩:=o.2 (by omega);refine⟨b,off,_,rfl,i,a.2 k f,SV a k f,fun j u d=> ?_⟩;rw[QV];apply m;rw[N8]at d;split at d
 ·rw[OL]at d;exact d
 cases d
def eh.form{a:Type}{w:World}{B size:Nat}{R:List Value->a->Prop}{v:Value}{l:List a}(h:eh w B size R v l): ∃A c,v= .slice A l.length c/\l.length<=c/\l.length<=maxLen:=by
 obtain⟨A,c,f,e,b,d,_⟩:=h;exact⟨A,c,e,b,d⟩
def eh.moved{j:Type}{w g:World}{B size:Nat}{R d:List Value->j->Prop}{v:Value}{l:List j}(h:eh w B size R v l)(q: ∀b off,b<B->g.cell? ⟨b,off,none⟩=w.cell? ⟨b,off,none⟩)(o: ∀cs a,a∈l->R cs a->d cs a):eh g B size d v l:=by
 obtain⟨A,c,r,e,k,m,n,f⟩:=h;exact⟨A,c,r,e,k,m,n.moved q,f.1,fun i p=>o _ _ (Oq _) (f.2 i p)⟩
def eh.wider{g:Type}{w:World}{B b size:Nat}{R d:List Value->g->Prop}{v:Value}{l:List g}(h:eh w B size R v l)(n:B<=b)(o: ∀cs a,a∈l->R cs a->d cs a):eh w b size d v l:=by
 obtain⟨A,c,q,e,j,k,m,f⟩:=h;exact⟨A,c,q,e,j,k,m.wider n,f.1,fun i p=>o _ _ (Oq _) (f.2 i p)⟩
def pi{a:Type}(f:Nat->List a)(size:Nat): ∀n,(∀i,i<n->(f i).length=size)->((List.range n).flatMap f).length=n*size
 |0,_=>by simp
 | n+1,h=>by
   rw[PN,Ox,My,pi f size n (fun i b=>h i (by omega)),OY];simp[h n (by omega)]
def j6{d:Type}(f:Nat->List d)(size:Nat): ∀n,(∀i,i<n->(f i).length=size)-> ∀i,i<n->(((List.range n).flatMap f).drop (i*size)).take size=f i
 |0,_,i,a=>by omega
 | n+1,h,i,a=>by
   have b:=pi f size n (fun i a=>h i (by omega));rw[PN,Ox];by_cases e:i=n
   ·subst e;rw[<-b,List.drop_left];simp[<-h i (by omega)]
   have c:(i+1)*size<=n*size:=Nk _ (by omega);rw[OY,P7]at c;rw[List.drop_append_of_le_length (by omega),Oh (by rw[Oa,b];omega)];exact j6 f size n (fun i a=>h i (by omega)) i (by omega)
def FO{c:Type}{n:Nat}{p:Nat->c->Prop}(h: ∀i,i<n-> ∃a,p i a): ∃l:List c,l.length=n/\ ∀i (hi:i<l.length),p i l[i]:=by
 induction n with
 |zero=>exact⟨[],rfl,fun i hi=>by simp at hi⟩
 | succ n g=>
   obtain⟨l,b,f⟩:=g (fun i hi=>h i (by omega));obtain⟨a,d⟩:=h n (by omega);refine⟨l++[a],by simp[b],fun i hi=> ?_⟩;by_cases e:i<l.length
   ·rw[List.getElem_append_left e];exact f i e
   have:i=l.length:=by simp at hi;omega
   subst this;simp;rw[b];exact d
section
variable {H:Type} {enc:TypeId×Value->H} {P:Program} {w:World} {base:Nat} {spare:Nat->Bool} {held:Bool}
theorem Tk{α:Type}{t e:TypeId}{size fuel:Nat}{R:List Value->α->Prop}{cs:List Value}{x:DataW H×List MemPlace}(ht:P.underlying t=some (.slice e))(Y:P.cellsOf e=size)(k:0<size)
 (Z: ∀(m:Nat)(cs:List Value)(y:DataW H×List MemPlace),DataW.trod enc P w base spare held m e cs=some y-> ∃a,R cs a)
 (h:DataW.trod enc P w base spare held fuel t cs=some x): ∃v l,cs=[v]/\eh w w.heap.size size R v l:=by
 rcases open_slice ht h with⟨rfl,_⟩|⟨a,c,K,m,n,D,Q,rfl,hb,hl,hm,M,_,U⟩
 ·exact⟨_,[],rfl,none,0,[],rfl,NC _,NG _,jn.empty _ _ _ _,by simp,fun i q=>by simp at q⟩
 have hlm:c<=m:=by rw[M];split<;>omega
 rw[Y]at U
 have C: ∀i,∃r:List Value,i<c->w.cells? base (a.add (i*size)) size=some r/\DataW.trod enc P w base spare held n e r=some (D i,Q i):=fun i=>by
  by_cases q:i<c
  ·obtain⟨r,W,X⟩:=U i (by omega);exact⟨r,fun _=>⟨W,X⟩⟩
  exact⟨[],fun h=>absurd h q⟩
 let f:Nat->List Value:=fun i=>(C i).choose
 have I: ∀i,i<c->w.cells? base (a.add (i*size)) size=some (f i)/\DataW.trod enc P w base spare held n e (f i)=some (D i,Q i):=fun i q=>(C i).choose_spec q;have g: ∀i,i<c->(f i).length=size:=fun i q=>(QB (I i q).1).2.1;obtain⟨l,z,L⟩:=FO (n:=c) (p:=fun i a=>R (f i) a) fun i q=>Z _ _ _ (I i q).2;refine⟨_,l,rfl,some a,K,(List.range c).flatMap f,by rw[z],by omega,by omega,⟨by rw[z,pi f size c g],fun J=> ?_⟩,by rw[z,pi f size c g],fun i q=> ?_⟩
 ·rw[z]at J;have V:=QB (I 0 J).1;have d:=V.2.2 0 k
  have G:a.spot=none:=by
   rw[Pi]at d;have:(f 0)[0]? =some ((f 0)[0]'(by rw[g 0 J];exact k)):=Mq _;rw[this]at d;have e:(a.add 0).add 0=a:=rfl;rw[e]at d;unfold World.cell? at d;cases hs:a.spot with
   |none=>rfl
   | some s=>
     rw[hs]at d;split at d<;>simp at d
  obtain⟨b,B,sp⟩:=a;simp only at G;subst G
  have o: ∀j u,((List.range c).flatMap f)[j]? =some u->w.cell? ⟨b,B+j,none⟩=some u:=by
   intro j u N
   have hj:j<c*size:=by
    rcases Pa j (c*size) with h|h
    ·exact h
    rw[NI (by rw[pi f size c g];exact h)]at N;cases N
   have S:j/size<c:=Pz (by rw[P3];exact hj);have T:j%size<size:=Q4 _ k;have A:=j6 f size c g (j/size) S;have e:j=j/size*size+j%size:=by rw[P3];exact(Nat.div_add_mod j size).symm
   have E:(f (j/size))[j%size]? =some u:=by
    rw[<-A,N8,Mw T,OL, <-e];exact N
   have:=(QB (I _ S).1).2.2 (j%size) T;rw[E,add_plain,add_plain,QV, <-e]at this;exact this
  refine⟨b,B,rfl,?_,o⟩;have O:((List.range c).flatMap f)[0]? =some (((List.range c).flatMap f)[0]'(by rw[pi f size c g];exact Nat.mul_pos J k)):=Mq _;exact Qq w ⟨b,B+0,none⟩ (o 0 _ O)
 rw[j6 f size c g i (by omega)];exact L i q
end
/-! Elements of one cell -/
def M2{b:Type}(f:b->Value)(cs:List Value)(a:b):Prop:=cs=[f a]
def JA{b:Type}{f:b->Value}{l:List b}{xs:List Value}(h:El 1 (M2 f) xs l):xs=l.map f:=by
 apply List.ext_getElem
 ·simpa using h.1
 intro i c d;have e:i<l.length:=by simpa using d
 have:=h.2 i e;unfold M2 at this;rw[Q7]at this;have a:((xs.drop i).take 1)[0]? =some (f l[i]):=by rw[this];rfl
 rw[N8,Mw (by omega),OL,PY,Mq c]at a;simpa using a
def eh.one{b:Type}{w:World}{B:Nat}{f:b->Value}{v:Value}{l:List b}(h:eh w B 1 (M2 f) v l): ∃A c,v= .slice A l.length c/\l.length<=c/\l.length<=maxLen/\jn w B 1 A l.length (l.map f):=by
 obtain⟨A,c,j,e,d,g,a,i⟩:=h;rw[JA i]at a;exact⟨A,c,e,d,g,a⟩
section
variable {H:Type} {enc:TypeId×Value->H} {P:Program} {w:World} {base:Nat} {spare:Nat->Bool} {held:Bool}
end
end
section
open Go.RowKit
def SU(S:Nat->Nat->Prop)(w:World):List Value->List AV->Prop
 |[],[]=>True
 |v::b,c::a=>(v.oneCell'=true/\RV S w v c)/\SU S w b a
 |_,_=>False
def T5(S:Nat->Nat->Prop)(w:World):List Value->List AV->Prop
 |[],[]=>True
 |v::b,c::a=>RV S w v c/\T5 S w b a
 |_,_=>False
section
variable {S:Nat->Nat->Prop} {w:World}
theorem SU.at_: ∀ {vs:List Value}{cs:List AV},SU S w vs cs->vs.length=cs.length/\ ∀(i:Nat)(v:Value)(c:AV),vs[i]? =some v->cs[i]? =some c->v.oneCell'=true/\RV S w v c
 |[],[],_=>⟨rfl,fun i v c h _=>by simp at h⟩
 | v::vs,c::cs,⟨h,g⟩=>by
   obtain⟨e,f⟩:=SU.at_ g;refine⟨by simp[e],fun i u d b a=> ?_⟩;cases i with
   | zero=>
     simp only[Nr,Ms]at b a;subst b a;exact h
   |succ i=>exact f i u d (by simpa using b) (by simpa using a)
 |[],_::_,h=>h.elim
 |_::_,[],h=>h.elim
theorem T5.at_: ∀ {vs:List Value}{cs:List AV},T5 S w vs cs->vs.length=cs.length/\ ∀(i:Nat)(v:Value)(c:AV),vs[i]? =some v->cs[i]? =some c->RV S w v c
 |[],[],_=>⟨rfl,fun i v c h _=>by simp at h⟩
 | v::vs,c::cs,⟨h,g⟩=>by
   obtain⟨e,f⟩:=T5.at_ g;refine⟨by simp[e],fun i u d b a=> ?_⟩;cases i with
   | zero=>
     simp only[Nr,Ms]at b a;subst b a;exact h
   |succ i=>exact f i u d (by simpa using b) (by simpa using a)
 |[],_::_,h=>h.elim
 |_::_,[],h=>h.elim
theorem SU.agg{vs:List Value}{cs:List AV}(h:SU S w vs cs):RV S w (.agg vs.toArray) (.agg cs):=by
 obtain⟨d,b⟩:=h.at_;refine .agg vs cs d (fun v a=> ?_) fun i v c a e=>(b i v c a e).2;obtain⟨i,f,rfl⟩:=OX a;exact(b i _ _ (Mq f) (Mq (by omega))).1
theorem RV.lit_inv{v u:Value}(h:RV S w v (.lit u)):v=u:=by
 cases h;rfl
end
def FN{y:Type}{w:World}{B size:Nat}{R:List Value->y->Prop}{v:Value}{l:List y}(enc:y->List AV)(J: ∀a,(enc a).length=size)(h:eh w B size R v l)
 (E: ∀cs a,a∈l->R cs a-> ∀(j:Nat)(u:Value)(c:AV),cs[j]? =some u->(enc a)[j]? =some c->u.oneCell'=true/\RV (fun b _=>b<B) w u c):RV (fun b _=>b<B) w v (.seq size (l.map enc)):=by
 obtain⟨A,c,n,rfl,o,K,I,g⟩:=h
 have q: ∀(i:Nat)(e:List AV),(l.map enc)[i]? =some e->e.length=size:=fun i e m=>by
  rw[NB]at m;cases D:l[i]? with
  |none=>rw[D]at m;cases m
  |some a=>rw[D]at m;cases m;exact J a
 have r: ∀(i j:Nat)(c:AV),bs (l.map enc) i j=some c-> ∃u,n[i*size+j]? =some u/\u.oneCell'=true/\RV (fun b _=>b<B) w u c:=fun i j c f=>by
  have d:=eO q f;rw[NQ]at d
  have H:(enc (l[i]'d.1))[j]? =some c:=by
   unfold bs at f;rw[NB,Mq d.1]at f;exact f
  have C:=SV g i d.1;have p:((n.drop (i*size)).take size)[j]? =some (((n.drop (i*size)).take size)[j]'(by omega)):=Mq _;refine⟨_,?_,E _ _ (Oq d.1) (g.2 i d.1) j _ c p H⟩;rw[<-p,N8,Mw d.2,OL]
 by_cases z:l=[]
 ·subst z;exact .seq A 0 c size [] 0 0 (fun _ _=>undef) rfl (NG _) (fun h=>by omega) (fun i e m=>by simp at m) (fun i j c o=>by simp[bs]at o) (fun i j c o=>by simp[bs]at o)
 obtain⟨b,x,rfl,G,k⟩:=I.2 (O2.2 z);refine .seq _ _ c size _ b x (fun i j=>n.getD (i*size+j) undef) (by simp) o (fun _=>rfl) q (fun i j c f=> ?_) fun i j c f=> ?_
 ·obtain⟨u,s,t,_⟩:=r i j c f;have:n.getD (i*size+j) undef=u:=by simp[List.getD,s]
  rw[this];exact⟨G,k _ u s,t⟩
 obtain⟨u,s,_,t⟩:=r i j c f;have:n.getD (i*size+j) undef=u:=by simp[List.getD,s]
 rw[this];exact t
end
section
open Go.RowKit Go.Stop
def RM(w:World)(a:Addr):Prop:= ∃(b:Array Value) (c:TypeId),w.heap[a.block]? =some (.cells b c (0,0))
def Nd(w:World)(g:Nat)(a:Addr):Prop:=w.cell? ⟨g,0,none⟩=some (.iface 369 (.pointer (some a)))/\RM w a
def iZ(w:World)(a:Addr):Nat->Value->Prop
 |0,E=>E= .iface 369 (.pointer (some a))/\RM w a
 |n+1,E=> ∃(c d:Nat) (b:Value),E= .iface 134 (.pointer (some ⟨c,d,none⟩))/\w.cell? ⟨c,d+2,none⟩=some b/\iZ w a n b
def RM.lt{w:World}{a:Addr}(h:RM w a):a.block<w.heap.size:=by
 obtain⟨c,d,h⟩:=h;by_cases b:a.block<w.heap.size
 ·exact b
 rw[P9 (by omega)]at h;cases h
def RM.below{w b:World}{a:Addr}(h:RM w a)(d:Below w.heap.size w b):RM b a:=by
 have:=h.lt;obtain⟨c,e,h⟩:=h;exact⟨c,e,(d.block _ this).trans h⟩
def ag{w:World}{b o:Nat}{v:Value}(h:w.cell? ⟨b,o,none⟩=some v):b<w.heap.size:=Qq w ⟨b,o,none⟩ h
def dj{w a:World}{b o:Nat}{v:Value}(h:w.cell? ⟨b,o,none⟩=some v)(c:Below w.heap.size w a):a.cell? ⟨b,o,none⟩=some v:=
 (c.cell (p:=⟨b,o,none⟩) (ag h)).trans h
def Nd.below{w c:World}{g:Nat}{a:Addr}(h:Nd w g a)(b:Below w.heap.size w c):Nd c g a:=⟨dj h.1 b,h.2.below b⟩
def iZ.below{w c:World}{a:Addr}(b:Below w.heap.size w c): ∀ {n:Nat}{E:Value},iZ w a n E->iZ c a n E
 |0,_,h=>⟨h.1,h.2.below b⟩
 |_+1,_,⟨i,j,d,e,f,g⟩=>⟨i,j,d,e,dj f b,iZ.below b g⟩
def iZ.form{w:World}{a:Addr}{n:Nat}{E:Value}(h:iZ w a n E): ∃t v,E= .iface t v:=by
 cases n with
 |zero=>exact⟨_,_,h.1⟩
 |succ n=>exact⟨_,_,h.choose_spec.choose_spec.choose_spec.1⟩
def iZ.new{w:World}{g:Nat}{a:Addr}(h:Nd w g a)(s:ByteArray)(p:Int):
 iZ (w.alloc (.cells #[.string s, .int .i64 p, .iface 369 (.pointer (some a))] 136)) a 1 (.iface 134 (.pointer (some ⟨w.heap.size,0,none⟩))):=
 ⟨_,0,_,rfl,(fI.new w 136 _).cell 2,rfl,h.2.below ((O1 _ _).alloc (NC _) _)⟩
def iZ.wrap{w:World}{a:Addr}{n:Nat}{E:Value}(h:iZ w a n E)(s:ByteArray)(p:Int):
 iZ (w.alloc (.cells #[.string s, .int .i64 p,E] 136)) a (n+1) (.iface 134 (.pointer (some ⟨w.heap.size,0,none⟩))):=
 ⟨_,0,_,rfl,(fI.new w 136 _).cell 2,h.below ((O1 _ _).alloc (NC _) _)⟩
/-! Closed facts -/
def Tryz.callTypeOf(v:Value)(w:World):(callFunc 103 #[.iface 369 v]).run prog w= .ok (.value (.iface 237 (.agg #[.pointer (some ⟨11,369,none⟩)]))) w:=by kernel_rfl
def Tryz.callComparable(w:World):(callFunc 355 #[.agg #[.pointer (some ⟨11,369,none⟩)]]).run prog w= .ok (.value (.bool true)) w:=by kernel_rfl
def Tryz.isComp:(prog.info? 369).map (·.comparable)=some true:=by kernel_rfl
def Tryz.isSize:(prog.info? 389).map (·.size)=some 1:=by kernel_rfl
def Tryz.noIsE(v:Value)(a:TypeId)(w:World):(Instr.typeAssert (.iface 369 v) a 239 true).run prog w= .ok (.tuple #[.nilIface, .bool false]) w:=Pw Tryz.underlying239 (by kernel_rfl) (by kernel_rfl) v a w
def Tryz.noUnwrapE(v:Value)(a:TypeId)(w:World):(Instr.typeAssert (.iface 369 v) a 242 true).run prog w= .ok (.tuple #[.nilIface, .bool false]) w:=Pw Tryz.underlying242 (by kernel_rfl) (by kernel_rfl) v a w
def Tryz.noUnwrapsE(v:Value)(a:TypeId)(w:World):(Instr.typeAssert (.iface 369 v) a 243 true).run prog w= .ok (.tuple #[.nilIface, .bool false]) w:=Pw Tryz.underlying243 (by kernel_rfl) (by kernel_rfl) v a w
def Tryz.noIsW(v:Value)(a:TypeId)(w:World):(Instr.typeAssert (.iface 134 v) a 239 true).run prog w= .ok (.tuple #[.nilIface, .bool false]) w:=Pw Tryz.underlying239 (by kernel_rfl) (by kernel_rfl) v a w
def Tryz.hasUnwrapW(v:Value)(a:TypeId)(w:World):(Instr.typeAssert (.iface 134 v) a 242 true).run prog w= .ok (.tuple #[.iface 134 v, .bool true]) w:=run_typeAssert_hasB Tryz.underlying242 (by kernel_rfl) v a w
def JS{W:World}(a b:Addr)(hb:RM W b): ∀(n:Nat)(E:Value),iZ W a n E->
 Calls prog 104 #[E, .iface 369 (.pointer (some b)), .bool true] W fun e w'=>e= .returned (.bool (decide (a=b)))/\W=w':=by
 intro n E hE;obtain⟨i,hi,hcmp⟩:=OI.1 Tryz.isComp;obtain⟨j,hj,hjs⟩:=OI.1 Tryz.isSize;have nE:=Tryz.noIsE;have uE:=Tryz.noUnwrapE;have vE:=Tryz.noUnwrapsE;have nW:=Tryz.noIsW;have uW:=Tryz.hasUnwrapW;have HE:=N9 hE;try clear hE
 go_enter func104,ntmps104
 go_wp2
 go_loopg [0] n (fun m E' wl=>W=wl/\iZ W a m E')
 case atStart=>exact⟨rfl,HE.out⟩
 case round=>
  obtain⟨rfl,hE⟩:=hrel;cases gk with
  | zero=>
    obtain⟨rfl,ca,ta,ha⟩:=hE;by_cases hab:a=b
    ·subst hab;have heq:=run_eql_iface_ptr_same (P:=prog) W a Tryz.underlying40 Tryz.underlying369 hi hcmp hj;try clear ha
     go_wp2
     go_ret
     exact⟨by simp,rfl⟩
    obtain⟨cb,tb,hb'⟩:=hb;have heq:=run_eql_iface_ptr_other (P:=prog) W Tryz.underlying40 Tryz.underlying369 hi hcmp hj (by rw[hjs];decide) hab ha hb';try clear ha hb'
    go_wp2
    go_ret
    exact⟨by simp[hab],rfl⟩
  | succ m=>
    obtain⟨pb,po,E',rfl,hcell,hE'⟩:=hE;have hty:=run_eql_iface_types (P:=prog) 134 369 (.pointer (some ⟨pb,po,none⟩)) (.pointer (some b)) Tryz.underlying40 (by decide) W;obtain⟨u1,v1,rfl⟩:=hE'.form;have HE':=N9 hE';try clear hE'
    go_wp2
    go_roundg m
    case rel=>exact⟨rfl,HE'.out⟩
    case measure=>omega
def kY{W:World}(a b:Addr)(hb:RM W b)(n:Nat)(E:Value)(hE:iZ W a n E):
 Calls prog 57 #[E, .iface 369 (.pointer (some b))] W fun e w'=>e= .returned (.bool (decide (a=b)))/\W=w':=by
 have tT:=Tryz.callTypeOf;have cT:=Tryz.callComparable;obtain⟨t,v,rfl⟩:=hE.form;have HE:=N9 hE;try clear hE
 go_enter func57,ntmps57
 go_wp2_with (go_at_call 104;refine(JS a b hb n _ HE.out).mono ?_;rintro e w' ⟨rfl,rfl⟩)
 go_ret
 exact⟨rfl,rfl⟩
structure sh(w:World)(ad:Nat->Addr):Prop where
 s1:Nd w 0 (ad 1)
 s2:Nd w 1 (ad 2)
 s3:Nd w 2 (ad 3)
 s4:Nd w 3 (ad 4)
 s5:Nd w 4 (ad 5)
 s6:Nd w 5 (ad 6)
 s7:Nd w 6 (ad 7)
 s8:Nd w 7 (ad 8)
 s9:Nd w 8 (ad 9)
 inj: ∀i j,1<=i->i<=9->1<=j->j<=9->ad i=ad j->i=j
def sh.below{w c:World}{b:Nat->Addr}(h:sh w b)(a:Below w.heap.size w c):sh c b:=
 ⟨h.s1.below a,h.s2.below a,h.s3.below a,h.s4.below a,h.s5.below a,h.s6.below a,h.s7.below a,h.s8.below a,h.s9.below a,h.inj⟩
def sh.ne{w:World}{a:Nat->Addr}(h:sh w a){i j:Nat}(hi:1<=i/\i<=9)(c:1<=j/\j<=9)(b:i≠j):decide (a i=a j)=false:=by
 rw[Nm];exact fun e=>b (h.inj i j hi.1 hi.2 c.1 c.2 e)
def Jg{W:World}{ad:Nat->Addr}(h:sh W ad)(k:Nat)(hk:1<=k/\k<=9)(n:Nat)(E:Value)(hE:iZ W (ad k) n E):
 Calls prog 30 #[E] W fun e w'=>e= .returned (.int .i64 k)/\W=w':=by
 obtain⟨t,v,rfl⟩:=hE.form;have HE:=N9 hE;try clear hE
 have c1:=h.s1.1;have c2:=h.s2.1;have c3:=h.s3.1;have c4:=h.s4.1;have c5:=h.s5.1;have c6:=h.s6.1;have c7:=h.s7.1;have c8:=h.s8.1;have c9:=h.s9.1
 have d: ∀j b,1<=j/\j<=9->(k==j)=b->decide (ad k=ad j)=b:=fun j b hj hb=>by
  subst hb;by_cases e:k=j
  ·subst e;rw[Ni rfl];simp
  rw[h.ne hk hj e];simp[e]
 obtain rfl|rfl|rfl|rfl|rfl|rfl|rfl|rfl|rfl:k=1\/k=2\/k=3\/k=4\/k=5\/k=6\/k=7\/k=8\/k=9:=by omega
 all_goals (go_enter func30,ntmps30)
 all_goals ((go_wp2_with fail);refine(kY _ (ad 1) h.s1.2 n _ HE.out).mono ?_;rintro e w' ⟨rfl,rfl⟩;first|rw[d 1 false (by omega) rfl]|rw[d 1 true (by omega) rfl])
 ·go_wp2_with fail
  go_ret
  exact⟨rfl,rfl⟩
 all_goals ((go_wp2_with fail);refine(kY _ (ad 2) h.s2.2 n _ HE.out).mono ?_;rintro e w' ⟨rfl,rfl⟩;first|rw[d 2 false (by omega) rfl]|rw[d 2 true (by omega) rfl])
 ·go_wp2_with fail
  go_ret
  exact⟨rfl,rfl⟩
 all_goals ((go_wp2_with fail);refine(kY _ (ad 3) h.s3.2 n _ HE.out).mono ?_;rintro e w' ⟨rfl,rfl⟩;first|rw[d 3 false (by omega) rfl]|rw[d 3 true (by omega) rfl])
 ·go_wp2_with fail
  go_ret
  exact⟨rfl,rfl⟩
 all_goals ((go_wp2_with fail);refine(kY _ (ad 4) h.s4.2 n _ HE.out).mono ?_;rintro e w' ⟨rfl,rfl⟩;first|rw[d 4 false (by omega) rfl]|rw[d 4 true (by omega) rfl])
 ·go_wp2_with fail
  go_ret
  exact⟨rfl,rfl⟩
 all_goals ((go_wp2_with fail);refine(kY _ (ad 5) h.s5.2 n _ HE.out).mono ?_;rintro e w' ⟨rfl,rfl⟩;first|rw[d 5 false (by omega) rfl]|rw[d 5 true (by omega) rfl])
 ·go_wp2_with fail
  go_ret
  exact⟨rfl,rfl⟩
 all_goals ((go_wp2_with fail);refine(kY _ (ad 6) h.s6.2 n _ HE.out).mono ?_;rintro e w' ⟨rfl,rfl⟩;first|rw[d 6 false (by omega) rfl]|rw[d 6 true (by omega) rfl])
 ·go_wp2_with fail
  go_ret
  exact⟨rfl,rfl⟩
 all_goals ((go_wp2_with fail);refine(kY _ (ad 7) h.s7.2 n _ HE.out).mono ?_;rintro e w' ⟨rfl,rfl⟩;first|rw[d 7 false (by omega) rfl]|rw[d 7 true (by omega) rfl])
 ·go_wp2_with fail
  go_ret
  exact⟨rfl,rfl⟩
 all_goals ((go_wp2_with fail);refine(kY _ (ad 8) h.s8.2 n _ HE.out).mono ?_;rintro e w' ⟨rfl,rfl⟩;first|rw[d 8 false (by omega) rfl]|rw[d 8 true (by omega) rfl])
 ·go_wp2_with fail
  go_ret
  exact⟨rfl,rfl⟩
 all_goals ((go_wp2_with fail);refine(kY _ (ad 9) h.s9.2 n _ HE.out).mono ?_;rintro e w' ⟨rfl,rfl⟩;first|rw[d 9 false (by omega) rfl]|rw[d 9 true (by omega) rfl])
 ·go_wp2_with fail
  go_ret
  exact⟨rfl,rfl⟩
end
section
open Go.RowKit
attribute [local go_sem_proc ↓] reduceIte
attribute [local go_sem_proc] reduceCtorEq Nat.reduceBEq Nat.reduceAdd Nat.reduceSub Nat.reduceEqDiff Nat.reduceLT Nat.reduceLeDiff Nat.reduceMul Int.reduceToNat Int.reduceBEq Int.reduceBNe Int.reduceEq Int.reduceLT Int.reduceLE
attribute [local go_sem] Fe vr CP rD zj mU r6 mY List.isEmpty_cons Array.isEmpty_iff tm xc oH rC mW iV eU xd j9 lT gJ jj z7 cO sv jg Rd.map AV.bare AV.bare.bareL AV.ofVal aj ga jK cV bw N' bD be Fa xe F9 CS KS CQ mX Fc CK CR F8 tt CN Fb CL oJ CO oI CM tq KR xf KP KQ EA EB KH KJ F0 KI FX FY FZ E9 zT zM yi Ec MZ zA M0 val iO eF seen AV.plain AV.soft O' k0 Rd.run AV.asCells mJ PA x5 Rd.row Rd.bind Out.app dk u3.app St.renew St.setRow St.show St.put St.init mu pU vu IW rl ce vt jX zl gK gL pX pW tU pV im jk vp eY mV jM eL fz cd eM ik cX ew nb zs Value.oneCell' List.getD_cons_zero List.getD_cons_succ List.getD_nil List.length_cons List.length_nil List.map_cons List.map_nil List.nil_append List.cons_append List.all_cons List.all_nil List.getElem?_cons_zero List.getElem?_cons_succ List.set_cons_zero List.set_cons_succ List.take_succ_cons List.take_zero List.drop_succ_cons List.drop_zero List.take_nil List.drop_nil List.replicate_succ List.replicate_zero Bool.and_true Bool.true_and Bool.and_self and_self true_and and_true Nat.zero_add Nat.add_zero Option.some.injEq Nat.zero_lt_succ Bool.not_true Bool.not_false ne_eq not_true_eq_false not_false_eq_true Option.map_some Option.map_none List.toList_toArray head nR ap List.length_map Int.toNat_natCast Int.natCast_nonneg List.getElem?_map decide_true decide_false Bool.false_eq_true if_true if_false Bool.or_self Bool.or_true Bool.true_or Bool.false_or Bool.or_false Bool.and_false Bool.false_and List.flatten_cons List.flatten_nil List.append_nil Mh or_self or_false false_or or_true true_or and_false false_and List.length_append List.isEmpty_nil bne_self_eq_false beq_self_eq_true aC Jx D0 xT Int.cast_ofNat_Int gt_iff_lt ge_iff_le
attribute [local go_sem <-] List.map_drop List.map_take
/-! Weaker values -/
def F'.iface{t:TypeId}{b c:AV}(h:F' b c):F' (.iface t b) (.iface t c):=fun S w v a=>by
 cases a with
 |iface _ v _ a=>exact .iface t v c (h S w v a)
def F'.ref1{cs' cs:List AV}{off:Nat}(h:y5 cs' cs):F' (.ref cs.length [cs'] 0 off) (.ref cs.length [cs] 0 off):=fun S w v r=>by
 cases r with
 | ref x s i off b o u t p q=>
   have f: ∀(i j:Nat)(c:AV),bs [cs] i j=some c-> ∃d,bs [cs'] i j=some d/\F' d c:=fun i j c a=>by
    cases i with
    | zero=>
      have m:cs[j]? =some c:=a;have g:j<cs'.length:=by rw[h.1];exact(Mr.1 m).1
      exact⟨cs'[j],Mq g,h.2 j _ c (Mq g) m⟩
    |succ i=>simp[bs]at a
   refine .ref _ [cs] 0 off b o u (fun i e l=>by
    cases i with
    |zero=>simp at l;rw[<-l]
    |succ i=>simp at l) (fun i j c a=> ?_) fun i j c a=> ?_
   ·obtain⟨d,k,_⟩:=f i j c a;exact p i j d k
   obtain⟨d,k,n⟩:=f i j c a;exact n S w _ (q i j d k)
abbrev bx(a:Addr):AV:= .lit (.iface 369 (.pointer (some a)))
abbrev dt(p:Int)(e:AV):AV:= .iface 134 (.ref 3 [[.any,I p,e]] 0 0)
abbrev h9:AV:= .lit .nilIface
def J6(s p:AV)(q:Int)(a:p=I q)(e:AV):gA (.iface 134 (.ref 3 [[s,p,e]] 0 0)) (dt q e):=by
 subst a;exact .of (.iface (.ref1 (cs:=[.any,I q,e]) (.cons (.any _) (.refl _)))) (fun _ _ _ h=>by cases h) (fun _ _ _ h=>by cases h)
def vU(a:Nat->Addr)(g:Nat):Option AV:=
 if g=0 then some (bx (a 1)) else
 if g=1 then some (bx (a 2)) else
 if g=2 then some (bx (a 3)) else
 if g=3 then some (bx (a 4)) else
 if g=4 then some (bx (a 5)) else
 if g=5 then some (bx (a 6)) else
 if g=6 then some (bx (a 7)) else
 if g=7 then some (bx (a 8)) else
 if g=8 then some (bx (a 9)) else none
structure TW where
 inv:World->Prop
 up: ∀w w',inv w->Below w.heap.size w w'->inv w'
def MG(a:Nat->Addr)(mo:TW):b8:=⟨vU a,fun w=>sh w a/\mo.inv w,fun w c h b=>⟨h.1.below b,mo.up w c h.2 b⟩⟩
def Hr{f:Nat->Addr}{mo:TW}{w:World}(h:sh w f)(k:mo.inv w):tS (MG f mo) (fun b _=>b<w.heap.size) w:=by
 refine⟨⟨h,k⟩,fun b o j=>j,fun g c d=> ?_⟩;have one: ∀ {g:Nat}{a:Addr},Nd w g a-> ∃u,w.cell? ⟨g,0,none⟩=some u/\u.oneCell'=true/\g<w.heap.size/\RV (fun b _=>b<w.heap.size) w u (bx a):=fun i=>⟨_,i.1,rfl,ag i.1, .lit _⟩;have d:vU f g=some c:=d;unfold vU at d;split at d
 ·rename_i e;subst e;cases d;exact one h.s1
 split at d
 ·rename_i e;subst e;cases d;exact one h.s2
 split at d
 ·rename_i e;subst e;cases d;exact one h.s3
 split at d
 ·rename_i e;subst e;cases d;exact one h.s4
 split at d
 ·rename_i e;subst e;cases d;exact one h.s5
 split at d
 ·rename_i e;subst e;cases d;exact one h.s6
 split at d
 ·rename_i e;subst e;cases d;exact one h.s7
 split at d
 ·rename_i e;subst e;cases d;exact one h.s8
 split at d
 ·rename_i e;subst e;cases d;exact one h.s9
 cases d
section
variable {ad:Nat->Addr} {mo:TW} {f:Nat->AV}
end
def iT{env:b8}{g:Nat}{c:AV}(h:env g=some c)(f:Nat->AV):gt env f (.global g)= .ref 1 [[c]] 0 0:=by simp only[gt,h]
def bl(env:b8)(s:List UInt8)(a:Addr):b7 prog env 63 [Sg s,bx a] (dt (-1) (bx a)):=by
 refine mb func63 rfl call63 (by rw[ntmps63];simp) ?_;rw[ntmps63,results63];repeat (first|refine oO rfl (by simp only[go_sem];exact⟨rfl,rfl⟩) ?_|refine gR ?_|refine gO ?_|refine oZ (ke ?_)|refine oZ ?_|refine oS ?_|refine gT ?_|refine gD mixed ?_|refine oB ?_|refine oK ?_|(refine oX ?_;simp only[bD,be, ↓reduceIte,Nat.reduceEqDiff,reduceCtorEq]))
 (refine aM ?_;refine⟨_,(by show (aj _ _ _).run _=some _;simp only[go_sem];rfl),?_⟩)
 exact J6 _ _ _ rfl _
/-! fault.Code -/
def pZ{P:Program}{env:b8}{f:FuncId}{cs:List AV}{u:Value}(a: ∀(args:Array Value)(w:World),(callFunc f args).run P w= .ok (.enter f args) w)
 (h: ∀(w:World)(S:Nat->Nat->Prop)(vs:List Value),tS env S w->vs.length=cs.length->(∀(i:Nat)(v:Value)(c:AV),vs[i]? =some v->cs[i]? =some c->RV S w v c)->Calls P f vs.toArray w fun e k=>e= .returned u/\Below w.heap.size w k):b7 P env f cs (.lit u):=by
 refine⟨a,fun w S vs g l m=>(h w S vs g l m).mono ?_⟩;rintro e k ⟨rfl,j⟩;exact⟨u,rfl,j,S,fun _ _ h=>h,fun _ _ h=> .inl h,fun b o d=>Oc (g.low b o d) j.size, .lit _⟩
def Cv{w:World}{a:Nat->Addr}(h:sh w a)(k:Nat)(b:1<=k/\k<=9):RM w (a k):=by
 obtain rfl|rfl|rfl|rfl|rfl|rfl|rfl|rfl|rfl:k=1\/k=2\/k=3\/k=4\/k=5\/k=6\/k=7\/k=8\/k=9:=by omega
 ·exact h.s1.2
 ·exact h.s2.2
 ·exact h.s3.2
 ·exact h.s4.2
 ·exact h.s5.2
 ·exact h.s6.2
 ·exact h.s7.2
 ·exact h.s8.2
 exact h.s9.2
end
section
open Go.RowKit
attribute [go_sem_proc ↓] reduceIte
attribute [go_sem_proc] reduceCtorEq Nat.reduceBEq Nat.reduceAdd Nat.reduceSub Nat.reduceEqDiff Nat.reduceLT Nat.reduceLeDiff Nat.reduceMul Int.reduceToNat Int.reduceBEq Int.reduceBNe Int.reduceEq Int.reduceLT Int.reduceLE
attribute [go_sem] Fe vr CP rD zj mU r6 mY List.isEmpty_cons Array.isEmpty_iff tm xc oH rC mW iV eU xd j9 lT gJ jj z7 cO sv jg Rd.map AV.bare AV.bare.bareL AV.ofVal aj ga jK cV bw N' bD be Fa xe F9 CS KS CQ mX Fc CK CR F8 tt CN Fb CL oJ CO oI CM tq KR xf KP KQ EA EB KH KJ F0 KI FX FY FZ E9 zT zM yi Ec MZ zA M0 val iO eF seen AV.plain AV.soft O' k0 Rd.run AV.asCells mJ PA x5 Rd.row Rd.bind Out.app dk u3.app St.renew St.setRow St.show St.put St.init mu pU vu IW rl ce vt jX zl gK gL pX pW tU pV im jk vp eY mV jM eL fz cd eM ik cX ew nb zs Value.oneCell' List.getD_cons_zero List.getD_cons_succ List.getD_nil List.length_cons List.length_nil List.map_cons List.map_nil List.nil_append List.cons_append List.all_cons List.all_nil List.getElem?_cons_zero List.getElem?_cons_succ List.set_cons_zero List.set_cons_succ List.take_succ_cons List.take_zero List.drop_succ_cons List.drop_zero List.take_nil List.drop_nil List.replicate_succ List.replicate_zero Bool.and_true Bool.true_and Bool.and_self and_self true_and and_true Nat.zero_add Nat.add_zero Option.some.injEq Nat.zero_lt_succ Bool.not_true Bool.not_false ne_eq not_true_eq_false not_false_eq_true Option.map_some Option.map_none List.toList_toArray head nR ap List.length_map Int.toNat_natCast Int.natCast_nonneg List.getElem?_map decide_true decide_false Bool.false_eq_true if_true if_false Bool.or_self Bool.or_true Bool.true_or Bool.false_or Bool.or_false Bool.and_false Bool.false_and List.flatten_cons List.flatten_nil List.append_nil Mh or_self or_false false_or or_true true_or and_false false_and List.length_append List.isEmpty_nil bne_self_eq_false beq_self_eq_true aC Jx D0 xT Int.cast_ofNat_Int gt_iff_lt ge_iff_le
attribute [go_sem <-] List.map_drop List.map_take
end
end Go.Proofs.YtfhkmjbjafeckaaGreatDoor
