/- What each type of the program is, as the evaluation asks it. -/
import Derived.Test.YtbleibmjippmpaaDoorProg
import Derived.Test.YtbleibmjippmpaaDoorVC
namespace Go.Proofs.YtbleibmjippmpaaDoor
open Go.RowKit
set_option maxRecDepth 100000
@[go_sem] theorem Tryd.tyd2 : tyD Tryd.prog 2 = some ⟨.int .i64, 1, [.int .i64 0]⟩ := by kernel_rfl
@[go_sem] theorem Tryd.tyd3 : tyD Tryd.prog 3 = some ⟨.int .i64, 1, [.int .i64 0]⟩ := by kernel_rfl
@[go_sem] theorem Tryd.tyd4 : tyD Tryd.prog 4 = some ⟨.bool, 1, [.bool false]⟩ := by kernel_rfl
@[go_sem] theorem Tryd.tyd5 : tyD Tryd.prog 5 = some ⟨.int .u8, 1, [.int .u8 0]⟩ := by kernel_rfl
@[go_sem] theorem Tryd.tyd6 : tyD Tryd.prog 6 = some ⟨.int .u8, 1, [.int .u8 0]⟩ := by kernel_rfl
@[go_sem] theorem Tryd.tyd7 : tyD Tryd.prog 7 = some ⟨.struct [(0, 2, 1), (1, 3, 1), (2, 4, 1), (3, 6, 1)] true, 4, [.int .i64 0, .int .i64 0, .bool false, .int .u8 0]⟩ := by kernel_rfl
@[go_sem] theorem Tryd.tyd8 : tyD Tryd.prog 8 = some ⟨.struct [(0, 2, 1), (1, 3, 1), (2, 4, 1), (3, 6, 1)] true, 4, [.int .i64 0, .int .i64 0, .bool false, .int .u8 0]⟩ := by kernel_rfl
@[go_sem] theorem Tryd.tyd9 : tyD Tryd.prog 9 = some ⟨.string, 1, [.string ⟨#[]⟩]⟩ := by kernel_rfl
@[go_sem] theorem Tryd.tyd10 : tyD Tryd.prog 10 = some ⟨.string, 1, [.string ⟨#[]⟩]⟩ := by kernel_rfl
@[go_sem] theorem Tryd.tyd11 : tyD Tryd.prog 11 = some ⟨.string, 1, [.string ⟨#[]⟩]⟩ := by kernel_rfl
@[go_sem] theorem Tryd.tyd12 : tyD Tryd.prog 12 = some ⟨.int .u64, 1, [.int .u64 0]⟩ := by kernel_rfl
@[go_sem] theorem Tryd.tyd13 : tyD Tryd.prog 13 = some ⟨.struct [(0, 9, 1), (1, 12, 1)] false, 2, [.string ⟨#[]⟩, .int .u64 0]⟩ := by kernel_rfl
@[go_sem] theorem Tryd.tyd14 : tyD Tryd.prog 14 = some ⟨.struct [(0, 9, 1), (1, 12, 1)] false, 2, [.string ⟨#[]⟩, .int .u64 0]⟩ := by kernel_rfl
@[go_sem] theorem Tryd.tyd15 : tyD Tryd.prog 15 = some ⟨.ptr, 1, [.pointer none]⟩ := by kernel_rfl
@[go_sem] theorem Tryd.tyd16 : tyD Tryd.prog 16 = some ⟨.ptr, 1, [.pointer none]⟩ := by kernel_rfl
@[go_sem] theorem Tryd.tyd17 : tyD Tryd.prog 17 = some ⟨.ptr, 1, [.pointer none]⟩ := by kernel_rfl
@[go_sem] theorem Tryd.tyd18 : tyD Tryd.prog 18 = some ⟨.struct [(0, 17, 1)] false, 1, [.pointer none]⟩ := by kernel_rfl
@[go_sem] theorem Tryd.tyd19 : tyD Tryd.prog 19 = some ⟨.struct [(0, 17, 1)] false, 1, [.pointer none]⟩ := by kernel_rfl
@[go_sem] theorem Tryd.tyd20 : tyD Tryd.prog 20 = some ⟨.iface, 1, [.nilIface]⟩ := by kernel_rfl
@[go_sem] theorem Tryd.tyd21 : tyD Tryd.prog 21 = some ⟨.int .i32, 1, [.int .i32 0]⟩ := by kernel_rfl
@[go_sem] theorem Tryd.tyd22 : tyD Tryd.prog 22 = some ⟨.struct [(0, 3, 1), (1, 3, 1), (2, 3, 1)] true, 3, [.int .i64 0, .int .i64 0, .int .i64 0]⟩ := by kernel_rfl
@[go_sem] theorem Tryd.tyd23 : tyD Tryd.prog 23 = some ⟨.struct [(0, 3, 1), (1, 3, 1), (2, 3, 1)] true, 3, [.int .i64 0, .int .i64 0, .int .i64 0]⟩ := by kernel_rfl
@[go_sem] theorem Tryd.tyd24 : tyD Tryd.prog 24 = some ⟨.slice 5 1 1 [.int .u8 0], 1, [.slice none 0 0]⟩ := by kernel_rfl
@[go_sem] theorem Tryd.tyd25 : tyD Tryd.prog 25 = some ⟨.iface, 1, [.nilIface]⟩ := by kernel_rfl
@[go_sem] theorem Tryd.tyd26 : tyD Tryd.prog 26 = some ⟨.iface, 1, [.nilIface]⟩ := by kernel_rfl
@[go_sem] theorem Tryd.tyd29 : tyD Tryd.prog 29 = some ⟨.struct [(0, 3, 1), (1, 3, 1), (2, 3, 1)] true, 3, [.int .i64 0, .int .i64 0, .int .i64 0]⟩ := by kernel_rfl
@[go_sem] theorem Tryd.tyd40 : tyD Tryd.prog 40 = some ⟨.struct [(0, 3, 1), (1, 3, 1), (2, 9, 1)] true, 3, [.int .i64 0, .int .i64 0, .string ⟨#[]⟩]⟩ := by kernel_rfl
@[go_sem] theorem Tryd.tyd41 : tyD Tryd.prog 41 = some ⟨.struct [(0, 3, 1), (1, 3, 1), (2, 9, 1)] true, 3, [.int .i64 0, .int .i64 0, .string ⟨#[]⟩]⟩ := by kernel_rfl
@[go_sem] theorem Tryd.tyd46 : tyD Tryd.prog 46 = some ⟨.slice 3 1 8 [.int .i64 0], 1, [.slice none 0 0]⟩ := by kernel_rfl
@[go_sem] theorem Tryd.tyd47 : tyD Tryd.prog 47 = some ⟨.slice 81 2 32 [.int .i64 0, .slice none 0 0], 1, [.slice none 0 0]⟩ := by kernel_rfl
@[go_sem] theorem Tryd.tyd48 : tyD Tryd.prog 48 = some ⟨.slice 131 2 24 [.string ⟨#[]⟩, .int .i64 0], 1, [.slice none 0 0]⟩ := by kernel_rfl
@[go_sem] theorem Tryd.tyd49 : tyD Tryd.prog 49 = some ⟨.struct [(0, 46, 1), (1, 46, 1), (2, 47, 1), (3, 48, 1), (4, 4, 1)] true, 5, [.slice none 0 0, .slice none 0 0, .slice none 0 0, .slice none 0 0, .bool false]⟩ := by kernel_rfl
@[go_sem] theorem Tryd.tyd50 : tyD Tryd.prog 50 = some ⟨.struct [(0, 46, 1), (1, 46, 1), (2, 47, 1), (3, 48, 1), (4, 4, 1)] true, 5, [.slice none 0 0, .slice none 0 0, .slice none 0 0, .slice none 0 0, .bool false]⟩ := by kernel_rfl
@[go_sem] theorem Tryd.tyd51 : tyD Tryd.prog 51 = some ⟨.struct [(0, 3, 1), (1, 3, 1), (2, 3, 1), (3, 50, 5)] true, 8, [.int .i64 0, .int .i64 0, .int .i64 0, .slice none 0 0, .slice none 0 0, .slice none 0 0, .slice none 0 0, .bool false]⟩ := by kernel_rfl
@[go_sem] theorem Tryd.tyd52 : tyD Tryd.prog 52 = some ⟨.struct [(0, 3, 1), (1, 3, 1), (2, 3, 1), (3, 50, 5)] true, 8, [.int .i64 0, .int .i64 0, .int .i64 0, .slice none 0 0, .slice none 0 0, .slice none 0 0, .slice none 0 0, .bool false]⟩ := by kernel_rfl
@[go_sem] theorem Tryd.tyd58 : tyD Tryd.prog 58 = some ⟨.struct [(0, 3, 1), (1, 3, 1), (2, 3, 1), (3, 50, 5)] true, 8, [.int .i64 0, .int .i64 0, .int .i64 0, .slice none 0 0, .slice none 0 0, .slice none 0 0, .slice none 0 0, .bool false]⟩ := by kernel_rfl
@[go_sem] theorem Tryd.tyd69 : tyD Tryd.prog 69 = some ⟨.slice 41 3 32 [.int .i64 0, .int .i64 0, .string ⟨#[]⟩], 1, [.slice none 0 0]⟩ := by kernel_rfl
@[go_sem] theorem Tryd.tyd70 : tyD Tryd.prog 70 = some ⟨.ptr, 1, [.pointer none]⟩ := by kernel_rfl
@[go_sem] theorem Tryd.tyd80 : tyD Tryd.prog 80 = some ⟨.struct [(0, 3, 1), (1, 46, 1)] true, 2, [.int .i64 0, .slice none 0 0]⟩ := by kernel_rfl
@[go_sem] theorem Tryd.tyd81 : tyD Tryd.prog 81 = some ⟨.struct [(0, 3, 1), (1, 46, 1)] true, 2, [.int .i64 0, .slice none 0 0]⟩ := by kernel_rfl
@[go_sem] theorem Tryd.tyd82 : tyD Tryd.prog 82 = some ⟨.slice 166 2 32 [.string ⟨#[]⟩, .string ⟨#[]⟩], 1, [.slice none 0 0]⟩ := by kernel_rfl
@[go_sem] theorem Tryd.tyd92 : tyD Tryd.prog 92 = some ⟨.slice 96 4 40 [.int .i64 0, .int .i64 0, .int .i64 0, .string ⟨#[]⟩], 1, [.slice none 0 0]⟩ := by kernel_rfl
@[go_sem] theorem Tryd.tyd95 : tyD Tryd.prog 95 = some ⟨.struct [(0, 3, 1), (1, 41, 3)] true, 4, [.int .i64 0, .int .i64 0, .int .i64 0, .string ⟨#[]⟩]⟩ := by kernel_rfl
@[go_sem] theorem Tryd.tyd96 : tyD Tryd.prog 96 = some ⟨.struct [(0, 3, 1), (1, 41, 3)] true, 4, [.int .i64 0, .int .i64 0, .int .i64 0, .string ⟨#[]⟩]⟩ := by kernel_rfl
@[go_sem] theorem Tryd.tyd106 : tyD Tryd.prog 106 = some ⟨.struct [(0, 3, 1), (1, 3, 1)] true, 2, [.int .i64 0, .int .i64 0]⟩ := by kernel_rfl
@[go_sem] theorem Tryd.tyd107 : tyD Tryd.prog 107 = some ⟨.struct [(0, 3, 1), (1, 3, 1)] true, 2, [.int .i64 0, .int .i64 0]⟩ := by kernel_rfl
@[go_sem] theorem Tryd.tyd108 : tyD Tryd.prog 108 = some ⟨.arr 3 107 2, 6, [.int .i64 0, .int .i64 0, .int .i64 0, .int .i64 0, .int .i64 0, .int .i64 0]⟩ := by kernel_rfl
@[go_sem] theorem Tryd.tyd110 : tyD Tryd.prog 110 = some ⟨.int .u64, 1, [.int .u64 0]⟩ := by kernel_rfl
@[go_sem] theorem Tryd.tyd123 : tyD Tryd.prog 123 = some ⟨.ptr, 1, [.pointer none]⟩ := by kernel_rfl
@[go_sem] theorem Tryd.tyd124 : tyD Tryd.prog 124 = some ⟨.struct [(0, 24, 1), (1, 26, 1)] false, 2, [.slice none 0 0, .nilIface]⟩ := by kernel_rfl
@[go_sem] theorem Tryd.tyd125 : tyD Tryd.prog 125 = some ⟨.struct [(0, 24, 1), (1, 26, 1)] false, 2, [.slice none 0 0, .nilIface]⟩ := by kernel_rfl
@[go_sem] theorem Tryd.tyd127 : tyD Tryd.prog 127 = some ⟨.arr 2 3 1, 2, [.int .i64 0, .int .i64 0]⟩ := by kernel_rfl
@[go_sem] theorem Tryd.tyd130 : tyD Tryd.prog 130 = some ⟨.struct [(0, 9, 1), (1, 3, 1)] true, 2, [.string ⟨#[]⟩, .int .i64 0]⟩ := by kernel_rfl
@[go_sem] theorem Tryd.tyd131 : tyD Tryd.prog 131 = some ⟨.struct [(0, 9, 1), (1, 3, 1)] true, 2, [.string ⟨#[]⟩, .int .i64 0]⟩ := by kernel_rfl
@[go_sem] theorem Tryd.tyd133 : tyD Tryd.prog 133 = some ⟨.ptr, 1, [.pointer none]⟩ := by kernel_rfl
@[go_sem] theorem Tryd.tyd134 : tyD Tryd.prog 134 = some ⟨.struct [(0, 24, 1), (1, 3, 1), (2, 4, 1)] true, 3, [.slice none 0 0, .int .i64 0, .bool false]⟩ := by kernel_rfl
@[go_sem] theorem Tryd.tyd135 : tyD Tryd.prog 135 = some ⟨.struct [(0, 24, 1), (1, 3, 1), (2, 4, 1)] true, 3, [.slice none 0 0, .int .i64 0, .bool false]⟩ := by kernel_rfl
@[go_sem] theorem Tryd.tyd136 : tyD Tryd.prog 136 = some ⟨.struct [(0, 135, 3)] true, 3, [.slice none 0 0, .int .i64 0, .bool false]⟩ := by kernel_rfl
@[go_sem] theorem Tryd.tyd137 : tyD Tryd.prog 137 = some ⟨.struct [(0, 135, 3)] true, 3, [.slice none 0 0, .int .i64 0, .bool false]⟩ := by kernel_rfl
@[go_sem] theorem Tryd.tyd140 : tyD Tryd.prog 140 = some ⟨.struct [(0, 24, 1), (1, 3, 1)] true, 2, [.slice none 0 0, .int .i64 0]⟩ := by kernel_rfl
@[go_sem] theorem Tryd.tyd141 : tyD Tryd.prog 141 = some ⟨.struct [(0, 24, 1), (1, 3, 1)] true, 2, [.slice none 0 0, .int .i64 0]⟩ := by kernel_rfl
@[go_sem] theorem Tryd.tyd156 : tyD Tryd.prog 156 = some ⟨.struct [(0, 69, 1), (1, 155, 1)] true, 2, [.slice none 0 0, .map none]⟩ := by kernel_rfl
@[go_sem] theorem Tryd.tyd157 : tyD Tryd.prog 157 = some ⟨.struct [(0, 69, 1), (1, 155, 1)] true, 2, [.slice none 0 0, .map none]⟩ := by kernel_rfl
@[go_sem] theorem Tryd.tyd159 : tyD Tryd.prog 159 = some ⟨.struct [(0, 3, 1), (1, 9, 1)] true, 2, [.int .i64 0, .string ⟨#[]⟩]⟩ := by kernel_rfl
@[go_sem] theorem Tryd.tyd160 : tyD Tryd.prog 160 = some ⟨.struct [(0, 3, 1), (1, 9, 1)] true, 2, [.int .i64 0, .string ⟨#[]⟩]⟩ := by kernel_rfl
@[go_sem] theorem Tryd.tyd165 : tyD Tryd.prog 165 = some ⟨.struct [(0, 9, 1), (1, 9, 1)] true, 2, [.string ⟨#[]⟩, .string ⟨#[]⟩]⟩ := by kernel_rfl
@[go_sem] theorem Tryd.tyd166 : tyD Tryd.prog 166 = some ⟨.struct [(0, 9, 1), (1, 9, 1)] true, 2, [.string ⟨#[]⟩, .string ⟨#[]⟩]⟩ := by kernel_rfl
@[go_sem] theorem Tryd.tyd174 : tyD Tryd.prog 174 = some ⟨.ptr, 1, [.pointer none]⟩ := by kernel_rfl
@[go_sem] theorem Tryd.tyd175 : tyD Tryd.prog 175 = some ⟨.struct [(0, 9, 1), (1, 3, 1), (2, 26, 1)] false, 3, [.string ⟨#[]⟩, .int .i64 0, .nilIface]⟩ := by kernel_rfl
@[go_sem] theorem Tryd.tyd176 : tyD Tryd.prog 176 = some ⟨.struct [(0, 9, 1), (1, 3, 1), (2, 26, 1)] false, 3, [.string ⟨#[]⟩, .int .i64 0, .nilIface]⟩ := by kernel_rfl
@[go_sem] theorem Tryd.tyd177 : tyD Tryd.prog 177 = some ⟨.int .u64, 1, [.int .u64 0]⟩ := by kernel_rfl
@[go_sem] theorem Tryd.tyd183 : tyD Tryd.prog 183 = some ⟨.slice 127 2 16 [.int .i64 0, .int .i64 0], 1, [.slice none 0 0]⟩ := by kernel_rfl
@[go_sem] theorem Tryd.tyd185 : tyD Tryd.prog 185 = some ⟨.ptr, 1, [.pointer none]⟩ := by kernel_rfl
@[go_sem] theorem Tryd.tyd202 : tyD Tryd.prog 202 = some ⟨.iface, 1, [.nilIface]⟩ := by kernel_rfl
@[go_sem] theorem Tryd.tyd203 : tyD Tryd.prog 203 = some ⟨.iface, 1, [.nilIface]⟩ := by kernel_rfl
@[go_sem] theorem Tryd.tyd206 : tyD Tryd.prog 206 = some ⟨.slice 107 2 16 [.int .i64 0, .int .i64 0], 1, [.slice none 0 0]⟩ := by kernel_rfl
@[go_sem] theorem Tryd.tyd209 : tyD Tryd.prog 209 = some ⟨.int .u32, 1, [.int .u32 0]⟩ := by kernel_rfl
@[go_sem] theorem Tryd.tyd214 : tyD Tryd.prog 214 = some ⟨.int .i64, 1, [.int .i64 0]⟩ := by kernel_rfl
@[go_sem] theorem Tryd.tyd222 : tyD Tryd.prog 222 = some ⟨.struct [(0, 17, 1)] false, 1, [.pointer none]⟩ := by kernel_rfl
@[go_sem] theorem Tryd.tyd223 : tyD Tryd.prog 223 = some ⟨.struct [(0, 17, 1)] false, 1, [.pointer none]⟩ := by kernel_rfl
@[go_sem] theorem Tryd.tyd224 : tyD Tryd.prog 224 = some ⟨.ptr, 1, [.pointer none]⟩ := by kernel_rfl
@[go_sem] theorem Tryd.tyd225 : tyD Tryd.prog 225 = some ⟨.iface, 1, [.nilIface]⟩ := by kernel_rfl
@[go_sem] theorem Tryd.tyd228 : tyD Tryd.prog 228 = some ⟨.iface, 1, [.nilIface]⟩ := by kernel_rfl
@[go_sem] theorem Tryd.tyd230 : tyD Tryd.prog 230 = some ⟨.iface, 1, [.nilIface]⟩ := by kernel_rfl
@[go_sem] theorem Tryd.tyd231 : tyD Tryd.prog 231 = some ⟨.slice 26 1 16 [.nilIface], 1, [.slice none 0 0]⟩ := by kernel_rfl
@[go_sem] theorem Tryd.tyd238 : tyD Tryd.prog 238 = some ⟨.int .u64, 1, [.int .u64 0]⟩ := by kernel_rfl
@[go_sem] theorem Tryd.tyd242 : tyD Tryd.prog 242 = some ⟨.ptr, 1, [.pointer none]⟩ := by kernel_rfl
@[go_sem] theorem Tryd.tyd244 : tyD Tryd.prog 244 = some ⟨.arr 32 5 1, 32, [.int .u8 0, .int .u8 0, .int .u8 0, .int .u8 0, .int .u8 0, .int .u8 0, .int .u8 0, .int .u8 0, .int .u8 0, .int .u8 0, .int .u8 0, .int .u8 0, .int .u8 0, .int .u8 0, .int .u8 0, .int .u8 0, .int .u8 0, .int .u8 0, .int .u8 0, .int .u8 0, .int .u8 0, .int .u8 0, .int .u8 0, .int .u8 0, .int .u8 0, .int .u8 0, .int .u8 0, .int .u8 0, .int .u8 0, .int .u8 0, .int .u8 0, .int .u8 0]⟩ := by kernel_rfl
@[go_sem] theorem Tryd.tyd247 : tyD Tryd.prog 247 = some ⟨.ptr, 1, [.pointer none]⟩ := by kernel_rfl
@[go_sem] theorem Tryd.tyd251 : tyD Tryd.prog 251 = some ⟨.ptr, 1, [.pointer none]⟩ := by kernel_rfl
@[go_sem] theorem Tryd.tyd252 : tyD Tryd.prog 252 = some ⟨.struct [(0, 17, 1), (1, 17, 1), (2, 17, 1), (3, 9, 1)] false, 4, [.pointer none, .pointer none, .pointer none, .string ⟨#[]⟩]⟩ := by kernel_rfl
@[go_sem] theorem Tryd.tyd253 : tyD Tryd.prog 253 = some ⟨.struct [(0, 17, 1), (1, 17, 1), (2, 17, 1), (3, 9, 1)] false, 4, [.pointer none, .pointer none, .pointer none, .string ⟨#[]⟩]⟩ := by kernel_rfl
@[go_sem] theorem Tryd.tyd254 : tyD Tryd.prog 254 = some ⟨.arr 0 16 1, 0, []⟩ := by kernel_rfl
@[go_sem] theorem Tryd.tyd255 : tyD Tryd.prog 255 = some ⟨.struct [(0, 254, 0)] false, 0, []⟩ := by kernel_rfl
@[go_sem] theorem Tryd.tyd256 : tyD Tryd.prog 256 = some ⟨.struct [(0, 254, 0)] false, 0, []⟩ := by kernel_rfl
@[go_sem] theorem Tryd.tyd257 : tyD Tryd.prog 257 = some ⟨.int .u8, 1, [.int .u8 0]⟩ := by kernel_rfl
@[go_sem] theorem Tryd.tyd258 : tyD Tryd.prog 258 = some ⟨.int .u8, 1, [.int .u8 0]⟩ := by kernel_rfl
@[go_sem] theorem Tryd.tyd260 : tyD Tryd.prog 260 = some ⟨.ptr, 1, [.pointer none]⟩ := by kernel_rfl
@[go_sem] theorem Tryd.tyd261 : tyD Tryd.prog 261 = some ⟨.int .i32, 1, [.int .i32 0]⟩ := by kernel_rfl
@[go_sem] theorem Tryd.tyd262 : tyD Tryd.prog 262 = some ⟨.int .i32, 1, [.int .i32 0]⟩ := by kernel_rfl
@[go_sem] theorem Tryd.tyd263 : tyD Tryd.prog 263 = some ⟨.struct [(0, 12, 1), (1, 12, 1), (2, 209, 1), (3, 257, 1), (4, 5, 1), (5, 5, 1), (6, 258, 1), (7, 259, 1), (8, 260, 1), (9, 261, 1), (10, 262, 1)] false, 11, [.int .u64 0, .int .u64 0, .int .u32 0, .int .u8 0, .int .u8 0, .int .u8 0, .int .u8 0, .nilFunc, .pointer none, .int .i32 0, .int .i32 0]⟩ := by kernel_rfl
@[go_sem] theorem Tryd.tyd264 : tyD Tryd.prog 264 = some ⟨.struct [(0, 12, 1), (1, 12, 1), (2, 209, 1), (3, 257, 1), (4, 5, 1), (5, 5, 1), (6, 258, 1), (7, 259, 1), (8, 260, 1), (9, 261, 1), (10, 262, 1)] false, 11, [.int .u64 0, .int .u64 0, .int .u32 0, .int .u8 0, .int .u8 0, .int .u8 0, .int .u8 0, .nilFunc, .pointer none, .int .i32 0, .int .i32 0]⟩ := by kernel_rfl
@[go_sem] theorem Tryd.tyd271 : tyD Tryd.prog 271 = some ⟨.struct [(0, 9, 1), (1, 258, 1)] false, 2, [.string ⟨#[]⟩, .int .u8 0]⟩ := by kernel_rfl
@[go_sem] theorem Tryd.tyd272 : tyD Tryd.prog 272 = some ⟨.struct [(0, 9, 1), (1, 258, 1)] false, 2, [.string ⟨#[]⟩, .int .u8 0]⟩ := by kernel_rfl
@[go_sem] theorem Tryd.tyd273 : tyD Tryd.prog 273 = some ⟨.struct [(0, 9, 1)] true, 1, [.string ⟨#[]⟩]⟩ := by kernel_rfl
@[go_sem] theorem Tryd.tyd274 : tyD Tryd.prog 274 = some ⟨.struct [(0, 9, 1)] true, 1, [.string ⟨#[]⟩]⟩ := by kernel_rfl
@[go_sem] theorem Tryd.tyd276 : tyD Tryd.prog 276 = some ⟨.ptr, 1, [.pointer none]⟩ := by kernel_rfl
@[go_sem] theorem Tryd.tyd278 : tyD Tryd.prog 278 = some ⟨.int .u16, 1, [.int .u16 0]⟩ := by kernel_rfl
@[go_sem] theorem Tryd.tyd279 : tyD Tryd.prog 279 = some ⟨.struct [(0, 261, 1), (1, 278, 1), (2, 278, 1), (3, 209, 1), (4, 209, 1)] false, 5, [.int .i32 0, .int .u16 0, .int .u16 0, .int .u32 0, .int .u32 0]⟩ := by kernel_rfl
@[go_sem] theorem Tryd.tyd280 : tyD Tryd.prog 280 = some ⟨.struct [(0, 261, 1), (1, 278, 1), (2, 278, 1), (3, 209, 1), (4, 209, 1)] false, 5, [.int .i32 0, .int .u16 0, .int .u16 0, .int .u32 0, .int .u32 0]⟩ := by kernel_rfl
@[go_sem] theorem Tryd.tyd281 : tyD Tryd.prog 281 = some ⟨.slice 284 4 16 [.int .i32 0, .int .i32 0, .int .i32 0, .int .i32 0], 1, [.slice none 0 0]⟩ := by kernel_rfl
@[go_sem] theorem Tryd.tyd282 : tyD Tryd.prog 282 = some ⟨.int .i32, 1, [.int .i32 0]⟩ := by kernel_rfl
@[go_sem] theorem Tryd.tyd283 : tyD Tryd.prog 283 = some ⟨.struct [(0, 261, 1), (1, 262, 1), (2, 282, 1), (3, 282, 1)] false, 4, [.int .i32 0, .int .i32 0, .int .i32 0, .int .i32 0]⟩ := by kernel_rfl
@[go_sem] theorem Tryd.tyd284 : tyD Tryd.prog 284 = some ⟨.struct [(0, 261, 1), (1, 262, 1), (2, 282, 1), (3, 282, 1)] false, 4, [.int .i32 0, .int .i32 0, .int .i32 0, .int .i32 0]⟩ := by kernel_rfl
theorem Tryd.mixed : Tryd.prog.follows .mixedOrders = true := by kernel_rfl
end Go.Proofs.YtbleibmjippmpaaDoor
