/- What each type of the program is, as the evaluation asks it. -/
import Derived.Test.YtaggnpieofpphaaDoorProg
import Derived.Test.YtaggnpieofpphaaDoorVC
namespace Go.Proofs.YtaggnpieofpphaaDoor
open Go.RowKit
set_option maxRecDepth 100000
@[go_sem] theorem Tryd.tyd2 : tyD Tryd.prog 2 = some ⟨.int .i64, 1, [.int .i64 0]⟩ := by kernel_rfl
@[go_sem] theorem Tryd.tyd3 : tyD Tryd.prog 3 = some ⟨.int .i64, 1, [.int .i64 0]⟩ := by kernel_rfl
@[go_sem] theorem Tryd.tyd4 : tyD Tryd.prog 4 = some ⟨.bool, 1, [.bool false]⟩ := by kernel_rfl
@[go_sem] theorem Tryd.tyd5 : tyD Tryd.prog 5 = some ⟨.int .u8, 1, [.int .u8 0]⟩ := by kernel_rfl
@[go_sem] theorem Tryd.tyd6 : tyD Tryd.prog 6 = some ⟨.int .u8, 1, [.int .u8 0]⟩ := by kernel_rfl
@[go_sem] theorem Tryd.tyd7 : tyD Tryd.prog 7 = some ⟨.struct [(0, 2, 1), (1, 3, 1), (2, 4, 1), (3, 6, 1)] true, 4, [.int .i64 0, .int .i64 0, .bool false, .int .u8 0]⟩ := by kernel_rfl
@[go_sem] theorem Tryd.tyd8 : tyD Tryd.prog 8 = some ⟨.struct [(0, 2, 1), (1, 3, 1), (2, 4, 1), (3, 6, 1)] true, 4, [.int .i64 0, .int .i64 0, .bool false, .int .u8 0]⟩ := by kernel_rfl
@[go_sem] theorem Tryd.tyd9 : tyD Tryd.prog 9 = some ⟨.string, 1, [.string ⟨#[]⟩]⟩ := by kernel_rfl
@[go_sem] theorem Tryd.tyd10 : tyD Tryd.prog 10 = some ⟨.string, 1, [.string ⟨#[]⟩]⟩ := by kernel_rfl
@[go_sem] theorem Tryd.tyd11 : tyD Tryd.prog 11 = some ⟨.string, 1, [.string ⟨#[]⟩]⟩ := by kernel_rfl
@[go_sem] theorem Tryd.tyd12 : tyD Tryd.prog 12 = some ⟨.int .u64, 1, [.int .u64 0]⟩ := by kernel_rfl
@[go_sem] theorem Tryd.tyd13 : tyD Tryd.prog 13 = some ⟨.struct [(0, 9, 1), (1, 12, 1)] false, 2, [.string ⟨#[]⟩, .int .u64 0]⟩ := by kernel_rfl
@[go_sem] theorem Tryd.tyd14 : tyD Tryd.prog 14 = some ⟨.struct [(0, 9, 1), (1, 12, 1)] false, 2, [.string ⟨#[]⟩, .int .u64 0]⟩ := by kernel_rfl
@[go_sem] theorem Tryd.tyd15 : tyD Tryd.prog 15 = some ⟨.ptr, 1, [.pointer none]⟩ := by kernel_rfl
@[go_sem] theorem Tryd.tyd16 : tyD Tryd.prog 16 = some ⟨.ptr, 1, [.pointer none]⟩ := by kernel_rfl
@[go_sem] theorem Tryd.tyd17 : tyD Tryd.prog 17 = some ⟨.ptr, 1, [.pointer none]⟩ := by kernel_rfl
@[go_sem] theorem Tryd.tyd18 : tyD Tryd.prog 18 = some ⟨.struct [(0, 17, 1)] false, 1, [.pointer none]⟩ := by kernel_rfl
@[go_sem] theorem Tryd.tyd19 : tyD Tryd.prog 19 = some ⟨.struct [(0, 17, 1)] false, 1, [.pointer none]⟩ := by kernel_rfl
@[go_sem] theorem Tryd.tyd20 : tyD Tryd.prog 20 = some ⟨.iface, 1, [.nilIface]⟩ := by kernel_rfl
@[go_sem] theorem Tryd.tyd21 : tyD Tryd.prog 21 = some ⟨.int .i32, 1, [.int .i32 0]⟩ := by kernel_rfl
@[go_sem] theorem Tryd.tyd22 : tyD Tryd.prog 22 = some ⟨.slice 47 2 24 [.string ⟨#[]⟩, .int .i64 0], 1, [.slice none 0 0]⟩ := by kernel_rfl
@[go_sem] theorem Tryd.tyd23 : tyD Tryd.prog 23 = some ⟨.slice 37 6 88 [.string ⟨#[]⟩, .int .i64 0, .int .i64 0, .int .i64 0, .slice none 0 0, .slice none 0 0], 1, [.slice none 0 0]⟩ := by kernel_rfl
@[go_sem] theorem Tryd.tyd24 : tyD Tryd.prog 24 = some ⟨.slice 43 5 80 [.int .i64 0, .string ⟨#[]⟩, .slice none 0 0, .slice none 0 0, .int .i64 0], 1, [.slice none 0 0]⟩ := by kernel_rfl
@[go_sem] theorem Tryd.tyd25 : tyD Tryd.prog 25 = some ⟨.struct [(0, 9, 1), (1, 3, 1), (2, 22, 1), (3, 23, 1), (4, 24, 1)] true, 5, [.string ⟨#[]⟩, .int .i64 0, .slice none 0 0, .slice none 0 0, .slice none 0 0]⟩ := by kernel_rfl
@[go_sem] theorem Tryd.tyd26 : tyD Tryd.prog 26 = some ⟨.struct [(0, 9, 1), (1, 3, 1), (2, 22, 1), (3, 23, 1), (4, 24, 1)] true, 5, [.string ⟨#[]⟩, .int .i64 0, .slice none 0 0, .slice none 0 0, .slice none 0 0]⟩ := by kernel_rfl
@[go_sem] theorem Tryd.tyd28 : tyD Tryd.prog 28 = some ⟨.iface, 1, [.nilIface]⟩ := by kernel_rfl
@[go_sem] theorem Tryd.tyd29 : tyD Tryd.prog 29 = some ⟨.iface, 1, [.nilIface]⟩ := by kernel_rfl
@[go_sem] theorem Tryd.tyd32 : tyD Tryd.prog 32 = some ⟨.slice 3 1 8 [.int .i64 0], 1, [.slice none 0 0]⟩ := by kernel_rfl
@[go_sem] theorem Tryd.tyd35 : tyD Tryd.prog 35 = some ⟨.slice 41 4 56 [.int .i64 0, .int .i64 0, .string ⟨#[]⟩, .slice none 0 0], 1, [.slice none 0 0]⟩ := by kernel_rfl
@[go_sem] theorem Tryd.tyd36 : tyD Tryd.prog 36 = some ⟨.struct [(0, 9, 1), (1, 3, 1), (2, 3, 1), (3, 3, 1), (4, 35, 1), (5, 35, 1)] true, 6, [.string ⟨#[]⟩, .int .i64 0, .int .i64 0, .int .i64 0, .slice none 0 0, .slice none 0 0]⟩ := by kernel_rfl
@[go_sem] theorem Tryd.tyd37 : tyD Tryd.prog 37 = some ⟨.struct [(0, 9, 1), (1, 3, 1), (2, 3, 1), (3, 3, 1), (4, 35, 1), (5, 35, 1)] true, 6, [.string ⟨#[]⟩, .int .i64 0, .int .i64 0, .int .i64 0, .slice none 0 0, .slice none 0 0]⟩ := by kernel_rfl
@[go_sem] theorem Tryd.tyd39 : tyD Tryd.prog 39 = some ⟨.slice 45 2 16 [.int .i64 0, .int .i64 0], 1, [.slice none 0 0]⟩ := by kernel_rfl
@[go_sem] theorem Tryd.tyd40 : tyD Tryd.prog 40 = some ⟨.struct [(0, 3, 1), (1, 3, 1), (2, 9, 1), (3, 39, 1)] true, 4, [.int .i64 0, .int .i64 0, .string ⟨#[]⟩, .slice none 0 0]⟩ := by kernel_rfl
@[go_sem] theorem Tryd.tyd41 : tyD Tryd.prog 41 = some ⟨.struct [(0, 3, 1), (1, 3, 1), (2, 9, 1), (3, 39, 1)] true, 4, [.int .i64 0, .int .i64 0, .string ⟨#[]⟩, .slice none 0 0]⟩ := by kernel_rfl
@[go_sem] theorem Tryd.tyd42 : tyD Tryd.prog 42 = some ⟨.struct [(0, 3, 1), (1, 9, 1), (2, 39, 1), (3, 35, 1), (4, 3, 1)] true, 5, [.int .i64 0, .string ⟨#[]⟩, .slice none 0 0, .slice none 0 0, .int .i64 0]⟩ := by kernel_rfl
@[go_sem] theorem Tryd.tyd43 : tyD Tryd.prog 43 = some ⟨.struct [(0, 3, 1), (1, 9, 1), (2, 39, 1), (3, 35, 1), (4, 3, 1)] true, 5, [.int .i64 0, .string ⟨#[]⟩, .slice none 0 0, .slice none 0 0, .int .i64 0]⟩ := by kernel_rfl
@[go_sem] theorem Tryd.tyd44 : tyD Tryd.prog 44 = some ⟨.struct [(0, 3, 1), (1, 3, 1)] true, 2, [.int .i64 0, .int .i64 0]⟩ := by kernel_rfl
@[go_sem] theorem Tryd.tyd45 : tyD Tryd.prog 45 = some ⟨.struct [(0, 3, 1), (1, 3, 1)] true, 2, [.int .i64 0, .int .i64 0]⟩ := by kernel_rfl
@[go_sem] theorem Tryd.tyd46 : tyD Tryd.prog 46 = some ⟨.struct [(0, 9, 1), (1, 3, 1)] true, 2, [.string ⟨#[]⟩, .int .i64 0]⟩ := by kernel_rfl
@[go_sem] theorem Tryd.tyd47 : tyD Tryd.prog 47 = some ⟨.struct [(0, 9, 1), (1, 3, 1)] true, 2, [.string ⟨#[]⟩, .int .i64 0]⟩ := by kernel_rfl
@[go_sem] theorem Tryd.tyd54 : tyD Tryd.prog 54 = some ⟨.slice 9 1 16 [.string ⟨#[]⟩], 1, [.slice none 0 0]⟩ := by kernel_rfl
@[go_sem] theorem Tryd.tyd74 : tyD Tryd.prog 74 = some ⟨.ptr, 1, [.pointer none]⟩ := by kernel_rfl
@[go_sem] theorem Tryd.tyd76 : tyD Tryd.prog 76 = some ⟨.ptr, 1, [.pointer none]⟩ := by kernel_rfl
@[go_sem] theorem Tryd.tyd77 : tyD Tryd.prog 77 = some ⟨.struct [(0, 9, 1), (1, 3, 1), (2, 29, 1)] false, 3, [.string ⟨#[]⟩, .int .i64 0, .nilIface]⟩ := by kernel_rfl
@[go_sem] theorem Tryd.tyd78 : tyD Tryd.prog 78 = some ⟨.struct [(0, 9, 1), (1, 3, 1), (2, 29, 1)] false, 3, [.string ⟨#[]⟩, .int .i64 0, .nilIface]⟩ := by kernel_rfl
@[go_sem] theorem Tryd.tyd99 : tyD Tryd.prog 99 = some ⟨.int .u64, 1, [.int .u64 0]⟩ := by kernel_rfl
@[go_sem] theorem Tryd.tyd100 : tyD Tryd.prog 100 = some ⟨.struct [(0, 17, 1), (1, 98, 1), (2, 99, 1)] false, 3, [.pointer none, .pointer none, .int .u64 0]⟩ := by kernel_rfl
@[go_sem] theorem Tryd.tyd101 : tyD Tryd.prog 101 = some ⟨.struct [(0, 17, 1), (1, 98, 1), (2, 99, 1)] false, 3, [.pointer none, .pointer none, .int .u64 0]⟩ := by kernel_rfl
@[go_sem] theorem Tryd.tyd103 : tyD Tryd.prog 103 = some ⟨.iface, 1, [.nilIface]⟩ := by kernel_rfl
@[go_sem] theorem Tryd.tyd104 : tyD Tryd.prog 104 = some ⟨.iface, 1, [.nilIface]⟩ := by kernel_rfl
@[go_sem] theorem Tryd.tyd106 : tyD Tryd.prog 106 = some ⟨.int .u8, 1, [.int .u8 0]⟩ := by kernel_rfl
@[go_sem] theorem Tryd.tyd117 : tyD Tryd.prog 117 = some ⟨.struct [(0, 17, 1)] false, 1, [.pointer none]⟩ := by kernel_rfl
@[go_sem] theorem Tryd.tyd118 : tyD Tryd.prog 118 = some ⟨.struct [(0, 17, 1)] false, 1, [.pointer none]⟩ := by kernel_rfl
@[go_sem] theorem Tryd.tyd119 : tyD Tryd.prog 119 = some ⟨.ptr, 1, [.pointer none]⟩ := by kernel_rfl
@[go_sem] theorem Tryd.tyd122 : tyD Tryd.prog 122 = some ⟨.iface, 1, [.nilIface]⟩ := by kernel_rfl
@[go_sem] theorem Tryd.tyd125 : tyD Tryd.prog 125 = some ⟨.iface, 1, [.nilIface]⟩ := by kernel_rfl
@[go_sem] theorem Tryd.tyd127 : tyD Tryd.prog 127 = some ⟨.iface, 1, [.nilIface]⟩ := by kernel_rfl
@[go_sem] theorem Tryd.tyd128 : tyD Tryd.prog 128 = some ⟨.slice 29 1 16 [.nilIface], 1, [.slice none 0 0]⟩ := by kernel_rfl
@[go_sem] theorem Tryd.tyd132 : tyD Tryd.prog 132 = some ⟨.int .u64, 1, [.int .u64 0]⟩ := by kernel_rfl
@[go_sem] theorem Tryd.tyd136 : tyD Tryd.prog 136 = some ⟨.iface, 1, [.nilIface]⟩ := by kernel_rfl
@[go_sem] theorem Tryd.tyd140 : tyD Tryd.prog 140 = some ⟨.int .i64, 1, [.int .i64 0]⟩ := by kernel_rfl
@[go_sem] theorem Tryd.tyd149 : tyD Tryd.prog 149 = some ⟨.int .u32, 1, [.int .u32 0]⟩ := by kernel_rfl
@[go_sem] theorem Tryd.tyd151 : tyD Tryd.prog 151 = some ⟨.int .u64, 1, [.int .u64 0]⟩ := by kernel_rfl
@[go_sem] theorem Tryd.tyd152 : tyD Tryd.prog 152 = some ⟨.int .u64, 1, [.int .u64 0]⟩ := by kernel_rfl
@[go_sem] theorem Tryd.tyd156 : tyD Tryd.prog 156 = some ⟨.ptr, 1, [.pointer none]⟩ := by kernel_rfl
@[go_sem] theorem Tryd.tyd158 : tyD Tryd.prog 158 = some ⟨.ptr, 1, [.pointer none]⟩ := by kernel_rfl
@[go_sem] theorem Tryd.tyd160 : tyD Tryd.prog 160 = some ⟨.ptr, 1, [.pointer none]⟩ := by kernel_rfl
@[go_sem] theorem Tryd.tyd162 : tyD Tryd.prog 162 = some ⟨.struct [(0, 17, 1), (1, 17, 1), (2, 17, 1), (3, 9, 1)] false, 4, [.pointer none, .pointer none, .pointer none, .string ⟨#[]⟩]⟩ := by kernel_rfl
@[go_sem] theorem Tryd.tyd163 : tyD Tryd.prog 163 = some ⟨.struct [(0, 17, 1), (1, 17, 1), (2, 17, 1), (3, 9, 1)] false, 4, [.pointer none, .pointer none, .pointer none, .string ⟨#[]⟩]⟩ := by kernel_rfl
@[go_sem] theorem Tryd.tyd164 : tyD Tryd.prog 164 = some ⟨.arr 0 16 1, 0, []⟩ := by kernel_rfl
@[go_sem] theorem Tryd.tyd165 : tyD Tryd.prog 165 = some ⟨.struct [(0, 164, 0)] false, 0, []⟩ := by kernel_rfl
@[go_sem] theorem Tryd.tyd166 : tyD Tryd.prog 166 = some ⟨.struct [(0, 164, 0)] false, 0, []⟩ := by kernel_rfl
@[go_sem] theorem Tryd.tyd169 : tyD Tryd.prog 169 = some ⟨.int .u8, 1, [.int .u8 0]⟩ := by kernel_rfl
@[go_sem] theorem Tryd.tyd171 : tyD Tryd.prog 171 = some ⟨.ptr, 1, [.pointer none]⟩ := by kernel_rfl
@[go_sem] theorem Tryd.tyd172 : tyD Tryd.prog 172 = some ⟨.int .i32, 1, [.int .i32 0]⟩ := by kernel_rfl
@[go_sem] theorem Tryd.tyd173 : tyD Tryd.prog 173 = some ⟨.int .i32, 1, [.int .i32 0]⟩ := by kernel_rfl
@[go_sem] theorem Tryd.tyd174 : tyD Tryd.prog 174 = some ⟨.struct [(0, 12, 1), (1, 12, 1), (2, 149, 1), (3, 169, 1), (4, 5, 1), (5, 5, 1), (6, 106, 1), (7, 170, 1), (8, 171, 1), (9, 172, 1), (10, 173, 1)] false, 11, [.int .u64 0, .int .u64 0, .int .u32 0, .int .u8 0, .int .u8 0, .int .u8 0, .int .u8 0, .nilFunc, .pointer none, .int .i32 0, .int .i32 0]⟩ := by kernel_rfl
@[go_sem] theorem Tryd.tyd175 : tyD Tryd.prog 175 = some ⟨.struct [(0, 12, 1), (1, 12, 1), (2, 149, 1), (3, 169, 1), (4, 5, 1), (5, 5, 1), (6, 106, 1), (7, 170, 1), (8, 171, 1), (9, 172, 1), (10, 173, 1)] false, 11, [.int .u64 0, .int .u64 0, .int .u32 0, .int .u8 0, .int .u8 0, .int .u8 0, .int .u8 0, .nilFunc, .pointer none, .int .i32 0, .int .i32 0]⟩ := by kernel_rfl
@[go_sem] theorem Tryd.tyd178 : tyD Tryd.prog 178 = some ⟨.struct [(0, 9, 1), (1, 106, 1)] false, 2, [.string ⟨#[]⟩, .int .u8 0]⟩ := by kernel_rfl
@[go_sem] theorem Tryd.tyd179 : tyD Tryd.prog 179 = some ⟨.struct [(0, 9, 1), (1, 106, 1)] false, 2, [.string ⟨#[]⟩, .int .u8 0]⟩ := by kernel_rfl
@[go_sem] theorem Tryd.tyd180 : tyD Tryd.prog 180 = some ⟨.struct [(0, 9, 1)] true, 1, [.string ⟨#[]⟩]⟩ := by kernel_rfl
@[go_sem] theorem Tryd.tyd181 : tyD Tryd.prog 181 = some ⟨.struct [(0, 9, 1)] true, 1, [.string ⟨#[]⟩]⟩ := by kernel_rfl
@[go_sem] theorem Tryd.tyd182 : tyD Tryd.prog 182 = some ⟨.ptr, 1, [.pointer none]⟩ := by kernel_rfl
@[go_sem] theorem Tryd.tyd184 : tyD Tryd.prog 184 = some ⟨.int .u16, 1, [.int .u16 0]⟩ := by kernel_rfl
@[go_sem] theorem Tryd.tyd185 : tyD Tryd.prog 185 = some ⟨.struct [(0, 172, 1), (1, 184, 1), (2, 184, 1), (3, 149, 1), (4, 149, 1)] false, 5, [.int .i32 0, .int .u16 0, .int .u16 0, .int .u32 0, .int .u32 0]⟩ := by kernel_rfl
@[go_sem] theorem Tryd.tyd186 : tyD Tryd.prog 186 = some ⟨.struct [(0, 172, 1), (1, 184, 1), (2, 184, 1), (3, 149, 1), (4, 149, 1)] false, 5, [.int .i32 0, .int .u16 0, .int .u16 0, .int .u32 0, .int .u32 0]⟩ := by kernel_rfl
@[go_sem] theorem Tryd.tyd187 : tyD Tryd.prog 187 = some ⟨.slice 190 4 16 [.int .i32 0, .int .i32 0, .int .i32 0, .int .i32 0], 1, [.slice none 0 0]⟩ := by kernel_rfl
@[go_sem] theorem Tryd.tyd188 : tyD Tryd.prog 188 = some ⟨.int .i32, 1, [.int .i32 0]⟩ := by kernel_rfl
@[go_sem] theorem Tryd.tyd189 : tyD Tryd.prog 189 = some ⟨.struct [(0, 172, 1), (1, 173, 1), (2, 188, 1), (3, 188, 1)] false, 4, [.int .i32 0, .int .i32 0, .int .i32 0, .int .i32 0]⟩ := by kernel_rfl
@[go_sem] theorem Tryd.tyd190 : tyD Tryd.prog 190 = some ⟨.struct [(0, 172, 1), (1, 173, 1), (2, 188, 1), (3, 188, 1)] false, 4, [.int .i32 0, .int .i32 0, .int .i32 0, .int .i32 0]⟩ := by kernel_rfl
@[go_sem] theorem Tryd.tyd192 : tyD Tryd.prog 192 = some ⟨.ptr, 1, [.pointer none]⟩ := by kernel_rfl
theorem Tryd.mixed : Tryd.prog.follows .mixedOrders = true := by kernel_rfl
end Go.Proofs.YtaggnpieofpphaaDoor
