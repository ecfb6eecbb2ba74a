/- The facts of evaluation. No program is named here. -/
import Derived.Test.YthffdneigmbgfaaGreatDoorProg
import Derived.Test.YthffdneigmbgfaaGreatDoorM4
namespace Go.Proofs.YthffdneigmbgfaaGreatDoor
open Go.RowKit
set_option maxRecDepth 100000
@[go_sem] theorem Tryz.tyd2 : tyD Tryz.prog 2 = some ⟨.int .i64, 1, [.int .i64 0]⟩ := by kernel_rfl
@[go_sem] theorem Tryz.tyd3 : tyD Tryz.prog 3 = some ⟨.int .i64, 1, [.int .i64 0]⟩ := by kernel_rfl
@[go_sem] theorem Tryz.tyd4 : tyD Tryz.prog 4 = some ⟨.bool, 1, [.bool false]⟩ := by kernel_rfl
@[go_sem] theorem Tryz.tyd5 : tyD Tryz.prog 5 = some ⟨.int .u8, 1, [.int .u8 0]⟩ := by kernel_rfl
@[go_sem] theorem Tryz.tyd6 : tyD Tryz.prog 6 = some ⟨.int .u8, 1, [.int .u8 0]⟩ := by kernel_rfl
@[go_sem] theorem Tryz.tyd7 : tyD Tryz.prog 7 = some ⟨.struct [(0, 2, 1), (1, 3, 1), (2, 4, 1), (3, 6, 1)] true, 4, [.int .i64 0, .int .i64 0, .bool false, .int .u8 0]⟩ := by kernel_rfl
@[go_sem] theorem Tryz.tyd8 : tyD Tryz.prog 8 = some ⟨.struct [(0, 2, 1), (1, 3, 1), (2, 4, 1), (3, 6, 1)] true, 4, [.int .i64 0, .int .i64 0, .bool false, .int .u8 0]⟩ := by kernel_rfl
@[go_sem] theorem Tryz.tyd9 : tyD Tryz.prog 9 = some ⟨.string, 1, [.string ⟨#[]⟩]⟩ := by kernel_rfl
@[go_sem] theorem Tryz.tyd10 : tyD Tryz.prog 10 = some ⟨.string, 1, [.string ⟨#[]⟩]⟩ := by kernel_rfl
@[go_sem] theorem Tryz.tyd11 : tyD Tryz.prog 11 = some ⟨.string, 1, [.string ⟨#[]⟩]⟩ := by kernel_rfl
@[go_sem] theorem Tryz.tyd12 : tyD Tryz.prog 12 = some ⟨.int .u64, 1, [.int .u64 0]⟩ := by kernel_rfl
@[go_sem] theorem Tryz.tyd13 : tyD Tryz.prog 13 = some ⟨.struct [(0, 9, 1), (1, 12, 1)] false, 2, [.string ⟨#[]⟩, .int .u64 0]⟩ := by kernel_rfl
@[go_sem] theorem Tryz.tyd14 : tyD Tryz.prog 14 = some ⟨.struct [(0, 9, 1), (1, 12, 1)] false, 2, [.string ⟨#[]⟩, .int .u64 0]⟩ := by kernel_rfl
@[go_sem] theorem Tryz.tyd15 : tyD Tryz.prog 15 = some ⟨.ptr, 1, [.pointer none]⟩ := by kernel_rfl
@[go_sem] theorem Tryz.tyd16 : tyD Tryz.prog 16 = some ⟨.ptr, 1, [.pointer none]⟩ := by kernel_rfl
@[go_sem] theorem Tryz.tyd17 : tyD Tryz.prog 17 = some ⟨.ptr, 1, [.pointer none]⟩ := by kernel_rfl
@[go_sem] theorem Tryz.tyd18 : tyD Tryz.prog 18 = some ⟨.struct [(0, 17, 1)] false, 1, [.pointer none]⟩ := by kernel_rfl
@[go_sem] theorem Tryz.tyd19 : tyD Tryz.prog 19 = some ⟨.struct [(0, 17, 1)] false, 1, [.pointer none]⟩ := by kernel_rfl
@[go_sem] theorem Tryz.tyd20 : tyD Tryz.prog 20 = some ⟨.iface, 1, [.nilIface]⟩ := by kernel_rfl
@[go_sem] theorem Tryz.tyd21 : tyD Tryz.prog 21 = some ⟨.int .i32, 1, [.int .i32 0]⟩ := by kernel_rfl
@[go_sem] theorem Tryz.tyd22 : tyD Tryz.prog 22 = some ⟨.slice 105 2 24 [.string ⟨#[]⟩, .int .i64 0], 1, [.slice none 0 0]⟩ := by kernel_rfl
@[go_sem] theorem Tryz.tyd23 : tyD Tryz.prog 23 = some ⟨.slice 47 6 88 [.string ⟨#[]⟩, .int .i64 0, .int .i64 0, .int .i64 0, .slice none 0 0, .slice none 0 0], 1, [.slice none 0 0]⟩ := by kernel_rfl
@[go_sem] theorem Tryz.tyd24 : tyD Tryz.prog 24 = some ⟨.slice 42 5 80 [.int .i64 0, .string ⟨#[]⟩, .slice none 0 0, .slice none 0 0, .int .i64 0], 1, [.slice none 0 0]⟩ := by kernel_rfl
@[go_sem] theorem Tryz.tyd25 : tyD Tryz.prog 25 = some ⟨.struct [(0, 9, 1), (1, 3, 1), (2, 22, 1), (3, 23, 1), (4, 24, 1)] true, 5, [.string ⟨#[]⟩, .int .i64 0, .slice none 0 0, .slice none 0 0, .slice none 0 0]⟩ := by kernel_rfl
@[go_sem] theorem Tryz.tyd26 : tyD Tryz.prog 26 = some ⟨.struct [(0, 9, 1), (1, 3, 1), (2, 22, 1), (3, 23, 1), (4, 24, 1)] true, 5, [.string ⟨#[]⟩, .int .i64 0, .slice none 0 0, .slice none 0 0, .slice none 0 0]⟩ := by kernel_rfl
@[go_sem] theorem Tryz.tyd27 : tyD Tryz.prog 27 = some ⟨.ptr, 1, [.pointer none]⟩ := by kernel_rfl
@[go_sem] theorem Tryz.tyd32 : tyD Tryz.prog 32 = some ⟨.slice 3 1 8 [.int .i64 0], 1, [.slice none 0 0]⟩ := by kernel_rfl
@[go_sem] theorem Tryz.tyd36 : tyD Tryz.prog 36 = some ⟨.slice 9 1 16 [.string ⟨#[]⟩], 1, [.slice none 0 0]⟩ := by kernel_rfl
@[go_sem] theorem Tryz.tyd39 : tyD Tryz.prog 39 = some ⟨.slice 139 2 16 [.int .i64 0, .int .i64 0], 1, [.slice none 0 0]⟩ := by kernel_rfl
@[go_sem] theorem Tryz.tyd40 : tyD Tryz.prog 40 = some ⟨.slice 141 4 56 [.int .i64 0, .int .i64 0, .string ⟨#[]⟩, .slice none 0 0], 1, [.slice none 0 0]⟩ := by kernel_rfl
@[go_sem] theorem Tryz.tyd41 : tyD Tryz.prog 41 = some ⟨.struct [(0, 3, 1), (1, 9, 1), (2, 39, 1), (3, 40, 1), (4, 3, 1)] true, 5, [.int .i64 0, .string ⟨#[]⟩, .slice none 0 0, .slice none 0 0, .int .i64 0]⟩ := by kernel_rfl
@[go_sem] theorem Tryz.tyd42 : tyD Tryz.prog 42 = some ⟨.struct [(0, 3, 1), (1, 9, 1), (2, 39, 1), (3, 40, 1), (4, 3, 1)] true, 5, [.int .i64 0, .string ⟨#[]⟩, .slice none 0 0, .slice none 0 0, .int .i64 0]⟩ := by kernel_rfl
@[go_sem] theorem Tryz.tyd46 : tyD Tryz.prog 46 = some ⟨.struct [(0, 9, 1), (1, 3, 1), (2, 3, 1), (3, 3, 1), (4, 40, 1), (5, 40, 1)] true, 6, [.string ⟨#[]⟩, .int .i64 0, .int .i64 0, .int .i64 0, .slice none 0 0, .slice none 0 0]⟩ := by kernel_rfl
@[go_sem] theorem Tryz.tyd47 : tyD Tryz.prog 47 = some ⟨.struct [(0, 9, 1), (1, 3, 1), (2, 3, 1), (3, 3, 1), (4, 40, 1), (5, 40, 1)] true, 6, [.string ⟨#[]⟩, .int .i64 0, .int .i64 0, .int .i64 0, .slice none 0 0, .slice none 0 0]⟩ := by kernel_rfl
@[go_sem] theorem Tryz.tyd54 : tyD Tryz.prog 54 = some ⟨.iface, 1, [.nilIface]⟩ := by kernel_rfl
@[go_sem] theorem Tryz.tyd55 : tyD Tryz.prog 55 = some ⟨.iface, 1, [.nilIface]⟩ := by kernel_rfl
@[go_sem] theorem Tryz.tyd66 : tyD Tryz.prog 66 = some ⟨.int .u64, 1, [.int .u64 0]⟩ := by kernel_rfl
@[go_sem] theorem Tryz.tyd75 : tyD Tryz.prog 75 = some ⟨.slice 4 1 1 [.bool false], 1, [.slice none 0 0]⟩ := by kernel_rfl
@[go_sem] theorem Tryz.tyd80 : tyD Tryz.prog 80 = some ⟨.ptr, 1, [.pointer none]⟩ := by kernel_rfl
@[go_sem] theorem Tryz.tyd92 : tyD Tryz.prog 92 = some ⟨.map 97 32 (.slice none 0 0), 1, [.map none]⟩ := by kernel_rfl
@[go_sem] theorem Tryz.tyd93 : tyD Tryz.prog 93 = some ⟨.slice 32 1 24 [.slice none 0 0], 1, [.slice none 0 0]⟩ := by kernel_rfl
@[go_sem] theorem Tryz.tyd94 : tyD Tryz.prog 94 = some ⟨.struct [(0, 26, 5), (5, 80, 1), (6, 36, 1), (7, 92, 1), (8, 93, 1)] true, 9, [.string ⟨#[]⟩, .int .i64 0, .slice none 0 0, .slice none 0 0, .slice none 0 0, .pointer none, .slice none 0 0, .map none, .slice none 0 0]⟩ := by kernel_rfl
@[go_sem] theorem Tryz.tyd95 : tyD Tryz.prog 95 = some ⟨.struct [(0, 26, 5), (5, 80, 1), (6, 36, 1), (7, 92, 1), (8, 93, 1)] true, 9, [.string ⟨#[]⟩, .int .i64 0, .slice none 0 0, .slice none 0 0, .slice none 0 0, .pointer none, .slice none 0 0, .map none, .slice none 0 0]⟩ := by kernel_rfl
@[go_sem] theorem Tryz.tyd96 : tyD Tryz.prog 96 = some ⟨.struct [(0, 3, 1), (1, 3, 1)] true, 2, [.int .i64 0, .int .i64 0]⟩ := by kernel_rfl
@[go_sem] theorem Tryz.tyd97 : tyD Tryz.prog 97 = some ⟨.struct [(0, 3, 1), (1, 3, 1)] true, 2, [.int .i64 0, .int .i64 0]⟩ := by kernel_rfl
@[go_sem] theorem Tryz.tyd104 : tyD Tryz.prog 104 = some ⟨.struct [(0, 9, 1), (1, 3, 1)] true, 2, [.string ⟨#[]⟩, .int .i64 0]⟩ := by kernel_rfl
@[go_sem] theorem Tryz.tyd105 : tyD Tryz.prog 105 = some ⟨.struct [(0, 9, 1), (1, 3, 1)] true, 2, [.string ⟨#[]⟩, .int .i64 0]⟩ := by kernel_rfl
@[go_sem] theorem Tryz.tyd109 : tyD Tryz.prog 109 = some ⟨.map 3 3 (.int .i64 0), 1, [.map none]⟩ := by kernel_rfl
@[go_sem] theorem Tryz.tyd124 : tyD Tryz.prog 124 = some ⟨.ptr, 1, [.pointer none]⟩ := by kernel_rfl
@[go_sem] theorem Tryz.tyd126 : tyD Tryz.prog 126 = some ⟨.ptr, 1, [.pointer none]⟩ := by kernel_rfl
@[go_sem] theorem Tryz.tyd127 : tyD Tryz.prog 127 = some ⟨.struct [(0, 9, 1), (1, 3, 1), (2, 55, 1)] false, 3, [.string ⟨#[]⟩, .int .i64 0, .nilIface]⟩ := by kernel_rfl
@[go_sem] theorem Tryz.tyd128 : tyD Tryz.prog 128 = some ⟨.struct [(0, 9, 1), (1, 3, 1), (2, 55, 1)] false, 3, [.string ⟨#[]⟩, .int .i64 0, .nilIface]⟩ := by kernel_rfl
@[go_sem] theorem Tryz.tyd129 : tyD Tryz.prog 129 = some ⟨.slice 131 1 4 [.int .u32 0], 1, [.slice none 0 0]⟩ := by kernel_rfl
@[go_sem] theorem Tryz.tyd130 : tyD Tryz.prog 130 = some ⟨.int .u32, 1, [.int .u32 0]⟩ := by kernel_rfl
@[go_sem] theorem Tryz.tyd131 : tyD Tryz.prog 131 = some ⟨.int .u32, 1, [.int .u32 0]⟩ := by kernel_rfl
@[go_sem] theorem Tryz.tyd132 : tyD Tryz.prog 132 = some ⟨.struct [(0, 32, 1), (1, 32, 1), (2, 129, 1), (3, 129, 1), (4, 32, 1), (5, 32, 1), (6, 131, 1)] true, 7, [.slice none 0 0, .slice none 0 0, .slice none 0 0, .slice none 0 0, .slice none 0 0, .slice none 0 0, .int .u32 0]⟩ := by kernel_rfl
@[go_sem] theorem Tryz.tyd133 : tyD Tryz.prog 133 = some ⟨.struct [(0, 32, 1), (1, 32, 1), (2, 129, 1), (3, 129, 1), (4, 32, 1), (5, 32, 1), (6, 131, 1)] true, 7, [.slice none 0 0, .slice none 0 0, .slice none 0 0, .slice none 0 0, .slice none 0 0, .slice none 0 0, .int .u32 0]⟩ := by kernel_rfl
@[go_sem] theorem Tryz.tyd138 : tyD Tryz.prog 138 = some ⟨.struct [(0, 3, 1), (1, 3, 1)] true, 2, [.int .i64 0, .int .i64 0]⟩ := by kernel_rfl
@[go_sem] theorem Tryz.tyd139 : tyD Tryz.prog 139 = some ⟨.struct [(0, 3, 1), (1, 3, 1)] true, 2, [.int .i64 0, .int .i64 0]⟩ := by kernel_rfl
@[go_sem] theorem Tryz.tyd140 : tyD Tryz.prog 140 = some ⟨.struct [(0, 3, 1), (1, 3, 1), (2, 9, 1), (3, 39, 1)] true, 4, [.int .i64 0, .int .i64 0, .string ⟨#[]⟩, .slice none 0 0]⟩ := by kernel_rfl
@[go_sem] theorem Tryz.tyd141 : tyD Tryz.prog 141 = some ⟨.struct [(0, 3, 1), (1, 3, 1), (2, 9, 1), (3, 39, 1)] true, 4, [.int .i64 0, .int .i64 0, .string ⟨#[]⟩, .slice none 0 0]⟩ := by kernel_rfl
@[go_sem] theorem Tryz.tyd160 : tyD Tryz.prog 160 = some ⟨.int .u64, 1, [.int .u64 0]⟩ := by kernel_rfl
@[go_sem] theorem Tryz.tyd161 : tyD Tryz.prog 161 = some ⟨.struct [(0, 17, 1), (1, 159, 1), (2, 160, 1)] false, 3, [.pointer none, .pointer none, .int .u64 0]⟩ := by kernel_rfl
@[go_sem] theorem Tryz.tyd162 : tyD Tryz.prog 162 = some ⟨.struct [(0, 17, 1), (1, 159, 1), (2, 160, 1)] false, 3, [.pointer none, .pointer none, .int .u64 0]⟩ := by kernel_rfl
@[go_sem] theorem Tryz.tyd164 : tyD Tryz.prog 164 = some ⟨.iface, 1, [.nilIface]⟩ := by kernel_rfl
@[go_sem] theorem Tryz.tyd165 : tyD Tryz.prog 165 = some ⟨.iface, 1, [.nilIface]⟩ := by kernel_rfl
@[go_sem] theorem Tryz.tyd167 : tyD Tryz.prog 167 = some ⟨.int .u8, 1, [.int .u8 0]⟩ := by kernel_rfl
@[go_sem] theorem Tryz.tyd174 : tyD Tryz.prog 174 = some ⟨.int .i64, 1, [.int .i64 0]⟩ := by kernel_rfl
@[go_sem] theorem Tryz.tyd183 : tyD Tryz.prog 183 = some ⟨.int .u64, 1, [.int .u64 0]⟩ := by kernel_rfl
@[go_sem] theorem Tryz.tyd189 : tyD Tryz.prog 189 = some ⟨.struct [(0, 17, 1)] false, 1, [.pointer none]⟩ := by kernel_rfl
@[go_sem] theorem Tryz.tyd190 : tyD Tryz.prog 190 = some ⟨.struct [(0, 17, 1)] false, 1, [.pointer none]⟩ := by kernel_rfl
@[go_sem] theorem Tryz.tyd191 : tyD Tryz.prog 191 = some ⟨.ptr, 1, [.pointer none]⟩ := by kernel_rfl
@[go_sem] theorem Tryz.tyd194 : tyD Tryz.prog 194 = some ⟨.iface, 1, [.nilIface]⟩ := by kernel_rfl
@[go_sem] theorem Tryz.tyd197 : tyD Tryz.prog 197 = some ⟨.iface, 1, [.nilIface]⟩ := by kernel_rfl
@[go_sem] theorem Tryz.tyd199 : tyD Tryz.prog 199 = some ⟨.iface, 1, [.nilIface]⟩ := by kernel_rfl
@[go_sem] theorem Tryz.tyd200 : tyD Tryz.prog 200 = some ⟨.slice 55 1 16 [.nilIface], 1, [.slice none 0 0]⟩ := by kernel_rfl
@[go_sem] theorem Tryz.tyd202 : tyD Tryz.prog 202 = some ⟨.int .u64, 1, [.int .u64 0]⟩ := by kernel_rfl
@[go_sem] theorem Tryz.tyd206 : tyD Tryz.prog 206 = some ⟨.ptr, 1, [.pointer none]⟩ := by kernel_rfl
@[go_sem] theorem Tryz.tyd208 : tyD Tryz.prog 208 = some ⟨.iface, 1, [.nilIface]⟩ := by kernel_rfl
@[go_sem] theorem Tryz.tyd212 : tyD Tryz.prog 212 = some ⟨.arr 32 5 1, 32, [.int .u8 0, .int .u8 0, .int .u8 0, .int .u8 0, .int .u8 0, .int .u8 0, .int .u8 0, .int .u8 0, .int .u8 0, .int .u8 0, .int .u8 0, .int .u8 0, .int .u8 0, .int .u8 0, .int .u8 0, .int .u8 0, .int .u8 0, .int .u8 0, .int .u8 0, .int .u8 0, .int .u8 0, .int .u8 0, .int .u8 0, .int .u8 0, .int .u8 0, .int .u8 0, .int .u8 0, .int .u8 0, .int .u8 0, .int .u8 0, .int .u8 0, .int .u8 0]⟩ := by kernel_rfl
@[go_sem] theorem Tryz.tyd220 : tyD Tryz.prog 220 = some ⟨.ptr, 1, [.pointer none]⟩ := by kernel_rfl
@[go_sem] theorem Tryz.tyd226 : tyD Tryz.prog 226 = some ⟨.ptr, 1, [.pointer none]⟩ := by kernel_rfl
@[go_sem] theorem Tryz.tyd228 : tyD Tryz.prog 228 = some ⟨.struct [(0, 17, 1), (1, 17, 1), (2, 17, 1), (3, 9, 1)] false, 4, [.pointer none, .pointer none, .pointer none, .string ⟨#[]⟩]⟩ := by kernel_rfl
@[go_sem] theorem Tryz.tyd229 : tyD Tryz.prog 229 = some ⟨.struct [(0, 17, 1), (1, 17, 1), (2, 17, 1), (3, 9, 1)] false, 4, [.pointer none, .pointer none, .pointer none, .string ⟨#[]⟩]⟩ := by kernel_rfl
@[go_sem] theorem Tryz.tyd230 : tyD Tryz.prog 230 = some ⟨.arr 0 16 1, 0, []⟩ := by kernel_rfl
@[go_sem] theorem Tryz.tyd231 : tyD Tryz.prog 231 = some ⟨.struct [(0, 230, 0)] false, 0, []⟩ := by kernel_rfl
@[go_sem] theorem Tryz.tyd232 : tyD Tryz.prog 232 = some ⟨.struct [(0, 230, 0)] false, 0, []⟩ := by kernel_rfl
@[go_sem] theorem Tryz.tyd234 : tyD Tryz.prog 234 = some ⟨.int .u8, 1, [.int .u8 0]⟩ := by kernel_rfl
@[go_sem] theorem Tryz.tyd236 : tyD Tryz.prog 236 = some ⟨.ptr, 1, [.pointer none]⟩ := by kernel_rfl
@[go_sem] theorem Tryz.tyd237 : tyD Tryz.prog 237 = some ⟨.int .i32, 1, [.int .i32 0]⟩ := by kernel_rfl
@[go_sem] theorem Tryz.tyd238 : tyD Tryz.prog 238 = some ⟨.int .i32, 1, [.int .i32 0]⟩ := by kernel_rfl
@[go_sem] theorem Tryz.tyd239 : tyD Tryz.prog 239 = some ⟨.struct [(0, 12, 1), (1, 12, 1), (2, 130, 1), (3, 234, 1), (4, 5, 1), (5, 5, 1), (6, 167, 1), (7, 235, 1), (8, 236, 1), (9, 237, 1), (10, 238, 1)] false, 11, [.int .u64 0, .int .u64 0, .int .u32 0, .int .u8 0, .int .u8 0, .int .u8 0, .int .u8 0, .nilFunc, .pointer none, .int .i32 0, .int .i32 0]⟩ := by kernel_rfl
@[go_sem] theorem Tryz.tyd240 : tyD Tryz.prog 240 = some ⟨.struct [(0, 12, 1), (1, 12, 1), (2, 130, 1), (3, 234, 1), (4, 5, 1), (5, 5, 1), (6, 167, 1), (7, 235, 1), (8, 236, 1), (9, 237, 1), (10, 238, 1)] false, 11, [.int .u64 0, .int .u64 0, .int .u32 0, .int .u8 0, .int .u8 0, .int .u8 0, .int .u8 0, .nilFunc, .pointer none, .int .i32 0, .int .i32 0]⟩ := by kernel_rfl
@[go_sem] theorem Tryz.tyd243 : tyD Tryz.prog 243 = some ⟨.struct [(0, 9, 1), (1, 167, 1)] false, 2, [.string ⟨#[]⟩, .int .u8 0]⟩ := by kernel_rfl
@[go_sem] theorem Tryz.tyd244 : tyD Tryz.prog 244 = some ⟨.struct [(0, 9, 1), (1, 167, 1)] false, 2, [.string ⟨#[]⟩, .int .u8 0]⟩ := by kernel_rfl
@[go_sem] theorem Tryz.tyd245 : tyD Tryz.prog 245 = some ⟨.struct [(0, 9, 1)] true, 1, [.string ⟨#[]⟩]⟩ := by kernel_rfl
@[go_sem] theorem Tryz.tyd246 : tyD Tryz.prog 246 = some ⟨.struct [(0, 9, 1)] true, 1, [.string ⟨#[]⟩]⟩ := by kernel_rfl
@[go_sem] theorem Tryz.tyd247 : tyD Tryz.prog 247 = some ⟨.ptr, 1, [.pointer none]⟩ := by kernel_rfl
@[go_sem] theorem Tryz.tyd249 : tyD Tryz.prog 249 = some ⟨.int .u16, 1, [.int .u16 0]⟩ := by kernel_rfl
@[go_sem] theorem Tryz.tyd250 : tyD Tryz.prog 250 = some ⟨.struct [(0, 237, 1), (1, 249, 1), (2, 249, 1), (3, 130, 1), (4, 130, 1)] false, 5, [.int .i32 0, .int .u16 0, .int .u16 0, .int .u32 0, .int .u32 0]⟩ := by kernel_rfl
@[go_sem] theorem Tryz.tyd251 : tyD Tryz.prog 251 = some ⟨.struct [(0, 237, 1), (1, 249, 1), (2, 249, 1), (3, 130, 1), (4, 130, 1)] false, 5, [.int .i32 0, .int .u16 0, .int .u16 0, .int .u32 0, .int .u32 0]⟩ := by kernel_rfl
@[go_sem] theorem Tryz.tyd252 : tyD Tryz.prog 252 = some ⟨.slice 255 4 16 [.int .i32 0, .int .i32 0, .int .i32 0, .int .i32 0], 1, [.slice none 0 0]⟩ := by kernel_rfl
@[go_sem] theorem Tryz.tyd253 : tyD Tryz.prog 253 = some ⟨.int .i32, 1, [.int .i32 0]⟩ := by kernel_rfl
@[go_sem] theorem Tryz.tyd254 : tyD Tryz.prog 254 = some ⟨.struct [(0, 237, 1), (1, 238, 1), (2, 253, 1), (3, 253, 1)] false, 4, [.int .i32 0, .int .i32 0, .int .i32 0, .int .i32 0]⟩ := by kernel_rfl
@[go_sem] theorem Tryz.tyd255 : tyD Tryz.prog 255 = some ⟨.struct [(0, 237, 1), (1, 238, 1), (2, 253, 1), (3, 253, 1)] false, 4, [.int .i32 0, .int .i32 0, .int .i32 0, .int .i32 0]⟩ := by kernel_rfl
@[go_sem] theorem Tryz.tyd257 : tyD Tryz.prog 257 = some ⟨.ptr, 1, [.pointer none]⟩ := by kernel_rfl
theorem Tryz.mixed : Tryz.prog.follows .mixedOrders = true := by kernel_rfl
end Go.Proofs.YthffdneigmbgfaaGreatDoor
namespace Go.Proofs.YthffdneigmbgfaaGreatDoor
open Go.RowKit
theorem Sim.nilRow {x : Ctx} {s : St} {a : Act} {w : World} {m : Mem} (h : Sim x s a w m) (r t : Nat) (e : TypeId) (sz : Nat) (hsz : 0 < sz) (ht : s.f t = .lit (.slice none 0 0)) :
    Sim x ((s.renew r ⟨sz, [], e, true⟩ false).put (some t) (.row r (s.vs r + 1))) a w ⟨m.S, upd m.ρ r (.slice none 0 0)⟩ := by
  have h1 := h.renew r ⟨sz, [], e, true⟩ false (.slice none 0 0) m.S (Below.refl _ _) (fun b o hh => ⟨hh, .rfl⟩) (fun b o hh => .inl hh) (fun k row' hk hr g hg => ⟨rfl, by simp [Value.ownBlock], fun o hh => hh⟩)
    (.inl ⟨hsz, fun i e' he => by simp at he, ⟨[], by simp only [upd_same]; exact World.ownsRow_nil _ _ _ _, by simp, fun i j c hc => by simp [cellAt] at hc⟩, (fun he => by simp [St.renew, upd_same] at he), (fun g hg => by simp [upd_same, Value.ownBlock] at hg), (fun _ g hg => by simp [upd_same, Value.ownBlock] at hg)⟩) (fun b _ => ⟨rfl, fun _ hh => hh, by simp [Value.ownBlock]⟩)
  refine { h1 with dfs := h1.dfs, siz := h1.siz, slot := fun t' => ?_, rows := fun r' row hr => ?_ }
  · have key : RL w ⟨m.S, upd m.ρ r (.slice none 0 0)⟩ (s.renew r ⟨sz, [], e, true⟩ false) (a.tmps.getD t' undef) (upd (s.renew r ⟨sz, [], e, true⟩ false).f t (.row r (s.vs r + 1)) t') := by
      by_cases e1 : t' = t
      · subst e1
        rw [upd_same]
        have hv := h.slot t'
        rw [ht] at hv
        have hv := hv.lit_
        rw [hv]
        exact .row r (s.vs r + 1) rfl (by simp [St.renew, upd_same]) fun _ row _ => by simp [upd_same]
      · rw [upd_ne _ _ _ e1]
        exact h1.slot t'
    exact RL.put key (some t) _
  · exact (h1.rows r' row hr).mono (s' := (s.renew r ⟨sz, [], e, true⟩ false).put (some t) (.row r (s.vs r + 1))) (fun b o hb => ⟨hb, .rfl⟩) (fun _ => Nat.le_refl _) (fun r row' _ hr => ⟨row', hr, rfl, rfl⟩) rfl (fun _ _ => rfl) rfl (fun _ _ _ hh => hh)
section
variable {P : Program} {env : Env} {nt : Nat} {Q : Exit → St → Prop} {s : St}
theorem awp_nilrow {c : Code} (r t : Nat) (e : TypeId) (sz : Nat) (h : awp P env nt c Q ((s.renew r ⟨sz, [], e, true⟩ false).put (some t) (.row r (s.vs r + 1)))) (hsz : 0 < sz := by decide) (ht : Is (s.f t) (.lit (.slice none 0 0)) := by simp only [go_sem, reduceIte, ↓reduceIte, Nat.reduceEqDiff, reduceCtorEq]; exact iR) : awp P env nt c Q s :=
  fun ro x he hn a w _ hS => h ro x he hn a w _ (hS.nilRow r t e sz hsz ht)
theorem RStr.own_nil (e : TypeId) (sz : Nat) (hsz : 0 < sz) : RStr (.lit (.slice none 0 0)) (.own e sz []) := fun S w base v hr => by
  have hv : v = .slice none 0 0 := by
    have hr : RV S w v (.lit (.slice none 0 0)) := hr
    cases hr
    rfl
  subst hv
  exact ⟨[], World.ownsRow_nil _ _ _ _, hsz, ⟨by simp, by simp, fun i e he => by simp at he, fun i j c hc => by simp [cellAt] at hc⟩, fun g hg => by simp [Value.ownBlock] at hg⟩
end
end Go.Proofs.YthffdneigmbgfaaGreatDoor
namespace Go.Proofs.YthffdneigmbgfaaGreatDoor
open Go.RowKit
abbrev I (n : Int) : AV := .lit (.int .i64 n)
abbrev B (b : Bool) : AV := .lit (.bool b)
abbrev Sg (s : List UInt8) : AV := .lit (.string ⟨s.toArray⟩)
abbrev nilS : AV := .lit (.slice none 0 0)
end Go.Proofs.YthffdneigmbgfaaGreatDoor
namespace Go.Proofs.YthffdneigmbgfaaGreatDoor
open Go.RowKit
structure OpD where
  kind : Int
  n : Int
  deriving DecidableEq, Inhabited
structure ActD where
  kind : Int
  n : Int
  name : List UInt8
  code : List OpD
  deriving DecidableEq, Inhabited
structure StD where
  name : List UInt8
  kind : Int
  parent : Int
  initial : Int
  inn : List ActD
  out : List ActD
  deriving DecidableEq, Inhabited
structure TrD where
  src : Int
  event : List UInt8
  guard : List OpD
  acts : List ActD
  target : Int
  deriving DecidableEq, Inhabited
structure VarD where
  name : List UInt8
  start : Int
  deriving DecidableEq, Inhabited
structure ChD where
  name : List UInt8
  initial : Int
  vars : List VarD
  states : List StD
  trans : List TrD
  deriving DecidableEq, Inhabited
def opAV (x : OpD) : List AV := [I x.kind, I x.n]
abbrev opsAV (l : List OpD) : AV := .seq 2 (l.map opAV)
def actAV (x : ActD) : List AV := [I x.kind, I x.n, Sg x.name, opsAV x.code]
abbrev actsAV (l : List ActD) : AV := .seq 4 (l.map actAV)
def stAV (x : StD) : List AV := [Sg x.name, I x.kind, I x.parent, I x.initial, actsAV x.inn, actsAV x.out]
abbrev stsAV (l : List StD) : AV := .seq 6 (l.map stAV)
def trAV (x : TrD) : List AV := [I x.src, Sg x.event, opsAV x.guard, actsAV x.acts, I x.target]
abbrev trsAV (l : List TrD) : AV := .seq 5 (l.map trAV)
def varAV (x : VarD) : List AV := [Sg x.name, I x.start]
abbrev varsAV (l : List VarD) : AV := .seq 2 (l.map varAV)
def chAV (x : ChD) : List AV := [Sg x.name, I x.initial, varsAV x.vars, stsAV x.states, trsAV x.trans]
/-! Lists that are no longer than memory is. -/
def few_op (_ : OpD) : Prop := True
def few_act (x : ActD) : Prop := x.name.length ≤ maxLen ∧ (x.code.length ≤ maxLen ∧ ∀ y ∈ x.code, few_op y)
def few_st (x : StD) : Prop := x.name.length ≤ maxLen ∧ (x.inn.length ≤ maxLen ∧ ∀ y ∈ x.inn, few_act y) ∧ (x.out.length ≤ maxLen ∧ ∀ y ∈ x.out, few_act y)
def few_tr (x : TrD) : Prop := x.event.length ≤ maxLen ∧ (x.guard.length ≤ maxLen ∧ ∀ y ∈ x.guard, few_op y) ∧ (x.acts.length ≤ maxLen ∧ ∀ y ∈ x.acts, few_act y)
def few_var (x : VarD) : Prop := x.name.length ≤ maxLen
def few_ch (x : ChD) : Prop := x.name.length ≤ maxLen ∧ (x.vars.length ≤ maxLen ∧ ∀ y ∈ x.vars, few_var y) ∧ (x.states.length ≤ maxLen ∧ ∀ y ∈ x.states, few_st y) ∧ (x.trans.length ≤ maxLen ∧ ∀ y ∈ x.trans, few_tr y)
end Go.Proofs.YthffdneigmbgfaaGreatDoor
namespace Go.Proofs.YthffdneigmbgfaaGreatDoor
open Go.RowKit
attribute [go_sem_proc ↓] reduceIte
attribute [go_sem_proc] reduceCtorEq Nat.reduceBEq Nat.reduceAdd Nat.reduceSub Nat.reduceEqDiff Nat.reduceLT Nat.reduceLeDiff Nat.reduceMul Int.reduceToNat Int.reduceBEq Int.reduceBNe Int.reduceEq Int.reduceLT Int.reduceLE
attribute [go_sem] ev_clear ev_makeFunc funcRd firstRd litsOf evClear List.isEmpty_cons Array.isEmpty_iff ev_makeMap ev_lookup ev_mapUpdate ev_mapEntry ev_entryStore evMapEntry evEntryStore ev_delete evMakeMap evLookup evMapUpdate evDelete pureOf keyCmp mfind oneCells Rd.map AV.bare AV.bare.bareL AV.ofVal resRd resOne resAll HoldF HoldR Takes thenA blockA ev_move ev_assign ev_pick ev_alloc ev_box ev_build ev_buildSlice ev_load ev_store ev_binOp ev_unOp ev_convert ev_iface ev_make ev_slice ev_fieldAddr ev_field ev_indexAddr ev_index ev_extract ev_len ev_append ev_min ev_max evMin evMax gt_tmp gt_int gt_bool gt_str gt_nilS gt_nilP gt_nilI pickRd allocRd buildRd sliceRd loadRd unRd ifaceRd exRd val optRd callRd seen AV.plain AV.soft adopt fzArgs Rd.run AV.asCells newBox runL Comes' Rd.row Rd.bind Out.app apps Eff.app St.renew St.setRow St.show St.put St.init upd evStore evBinR evBin eqFs eqCell evConv evSeq evLen evIndexAddr evFieldAddr evField evIndex bound evSlice evSliceF evAppend evMake loadOf fillAV fillEs fzParts fz fzCell fzCells shows isConstOp splice wrs wes Value.oneCell' List.getD_cons_zero List.getD_cons_succ List.getD_nil List.length_cons List.length_nil List.map_cons List.map_nil List.nil_append List.cons_append List.all_cons List.all_nil List.getElem?_cons_zero List.getElem?_cons_succ List.set_cons_zero List.set_cons_succ List.take_succ_cons List.take_zero List.drop_succ_cons List.drop_zero List.take_nil List.drop_nil List.replicate_succ List.replicate_zero Bool.and_true Bool.true_and Bool.and_self and_self true_and and_true Nat.zero_add Nat.add_zero Option.some.injEq Nat.zero_lt_succ Bool.not_true Bool.not_false ne_eq not_true_eq_false not_false_eq_true Option.map_some Option.map_none List.toList_toArray head headF headR List.length_map Int.toNat_natCast Int.natCast_nonneg List.getElem?_map decide_true decide_false Bool.false_eq_true if_true if_false Bool.or_self Bool.or_true Bool.true_or Bool.false_or Bool.or_false Bool.and_false Bool.false_and List.flatten_cons List.flatten_nil List.append_nil nat0 or_self or_false false_or or_true true_or and_false false_and List.length_append List.isEmpty_nil bne_self_eq_false beq_self_eq_true fits_small strL_l bytesOf_map wants Int.cast_ofNat_Int gt_iff_lt ge_iff_le
attribute [go_sem ←] List.map_drop List.map_take
end Go.Proofs.YthffdneigmbgfaaGreatDoor
