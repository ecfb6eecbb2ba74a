/- What each type of the program is, as the evaluation asks it. -/
import Derived.Test.YtaonccobohiiiaaDoorProg
import Derived.Test.YtaonccobohiiiaaDoorVC
namespace Go.Proofs.YtaonccobohiiiaaDoor
open Go.RowKit
set_option maxRecDepth 100000
@[go_sem] theorem Tryd.tyd2 : tyD Tryd.prog 2 = some ⟨.int .i64, 1, [.int .i64 0]⟩ := by kernel_rfl
@[go_sem] theorem Tryd.tyd3 : tyD Tryd.prog 3 = some ⟨.int .i64, 1, [.int .i64 0]⟩ := by kernel_rfl
@[go_sem] theorem Tryd.tyd4 : tyD Tryd.prog 4 = some ⟨.bool, 1, [.bool false]⟩ := by kernel_rfl
@[go_sem] theorem Tryd.tyd5 : tyD Tryd.prog 5 = some ⟨.int .u8, 1, [.int .u8 0]⟩ := by kernel_rfl
@[go_sem] theorem Tryd.tyd6 : tyD Tryd.prog 6 = some ⟨.int .u8, 1, [.int .u8 0]⟩ := by kernel_rfl
@[go_sem] theorem Tryd.tyd7 : tyD Tryd.prog 7 = some ⟨.struct [(0, 2, 1), (1, 3, 1), (2, 4, 1), (3, 6, 1)] true, 4, [.int .i64 0, .int .i64 0, .bool false, .int .u8 0]⟩ := by kernel_rfl
@[go_sem] theorem Tryd.tyd8 : tyD Tryd.prog 8 = some ⟨.struct [(0, 2, 1), (1, 3, 1), (2, 4, 1), (3, 6, 1)] true, 4, [.int .i64 0, .int .i64 0, .bool false, .int .u8 0]⟩ := by kernel_rfl
@[go_sem] theorem Tryd.tyd9 : tyD Tryd.prog 9 = some ⟨.string, 1, [.string ⟨#[]⟩]⟩ := by kernel_rfl
@[go_sem] theorem Tryd.tyd10 : tyD Tryd.prog 10 = some ⟨.string, 1, [.string ⟨#[]⟩]⟩ := by kernel_rfl
@[go_sem] theorem Tryd.tyd11 : tyD Tryd.prog 11 = some ⟨.string, 1, [.string ⟨#[]⟩]⟩ := by kernel_rfl
@[go_sem] theorem Tryd.tyd12 : tyD Tryd.prog 12 = some ⟨.int .u64, 1, [.int .u64 0]⟩ := by kernel_rfl
@[go_sem] theorem Tryd.tyd13 : tyD Tryd.prog 13 = some ⟨.struct [(0, 9, 1), (1, 12, 1)] false, 2, [.string ⟨#[]⟩, .int .u64 0]⟩ := by kernel_rfl
@[go_sem] theorem Tryd.tyd14 : tyD Tryd.prog 14 = some ⟨.struct [(0, 9, 1), (1, 12, 1)] false, 2, [.string ⟨#[]⟩, .int .u64 0]⟩ := by kernel_rfl
@[go_sem] theorem Tryd.tyd15 : tyD Tryd.prog 15 = some ⟨.ptr, 1, [.pointer none]⟩ := by kernel_rfl
@[go_sem] theorem Tryd.tyd16 : tyD Tryd.prog 16 = some ⟨.ptr, 1, [.pointer none]⟩ := by kernel_rfl
@[go_sem] theorem Tryd.tyd17 : tyD Tryd.prog 17 = some ⟨.ptr, 1, [.pointer none]⟩ := by kernel_rfl
@[go_sem] theorem Tryd.tyd18 : tyD Tryd.prog 18 = some ⟨.struct [(0, 17, 1)] false, 1, [.pointer none]⟩ := by kernel_rfl
@[go_sem] theorem Tryd.tyd19 : tyD Tryd.prog 19 = some ⟨.struct [(0, 17, 1)] false, 1, [.pointer none]⟩ := by kernel_rfl
@[go_sem] theorem Tryd.tyd20 : tyD Tryd.prog 20 = some ⟨.iface, 1, [.nilIface]⟩ := by kernel_rfl
@[go_sem] theorem Tryd.tyd21 : tyD Tryd.prog 21 = some ⟨.int .i32, 1, [.int .i32 0]⟩ := by kernel_rfl
@[go_sem] theorem Tryd.tyd22 : tyD Tryd.prog 22 = some ⟨.slice 41 2 24 [.string ⟨#[]⟩, .int .i64 0], 1, [.slice none 0 0]⟩ := by kernel_rfl
@[go_sem] theorem Tryd.tyd23 : tyD Tryd.prog 23 = some ⟨.slice 32 6 88 [.string ⟨#[]⟩, .int .i64 0, .int .i64 0, .int .i64 0, .slice none 0 0, .slice none 0 0], 1, [.slice none 0 0]⟩ := by kernel_rfl
@[go_sem] theorem Tryd.tyd24 : tyD Tryd.prog 24 = some ⟨.slice 37 5 80 [.int .i64 0, .string ⟨#[]⟩, .slice none 0 0, .slice none 0 0, .int .i64 0], 1, [.slice none 0 0]⟩ := by kernel_rfl
@[go_sem] theorem Tryd.tyd25 : tyD Tryd.prog 25 = some ⟨.struct [(0, 9, 1), (1, 3, 1), (2, 22, 1), (3, 23, 1), (4, 24, 1)] true, 5, [.string ⟨#[]⟩, .int .i64 0, .slice none 0 0, .slice none 0 0, .slice none 0 0]⟩ := by kernel_rfl
@[go_sem] theorem Tryd.tyd26 : tyD Tryd.prog 26 = some ⟨.struct [(0, 9, 1), (1, 3, 1), (2, 22, 1), (3, 23, 1), (4, 24, 1)] true, 5, [.string ⟨#[]⟩, .int .i64 0, .slice none 0 0, .slice none 0 0, .slice none 0 0]⟩ := by kernel_rfl
@[go_sem] theorem Tryd.tyd30 : tyD Tryd.prog 30 = some ⟨.slice 35 4 56 [.int .i64 0, .int .i64 0, .string ⟨#[]⟩, .slice none 0 0], 1, [.slice none 0 0]⟩ := by kernel_rfl
@[go_sem] theorem Tryd.tyd31 : tyD Tryd.prog 31 = some ⟨.struct [(0, 9, 1), (1, 3, 1), (2, 3, 1), (3, 3, 1), (4, 30, 1), (5, 30, 1)] true, 6, [.string ⟨#[]⟩, .int .i64 0, .int .i64 0, .int .i64 0, .slice none 0 0, .slice none 0 0]⟩ := by kernel_rfl
@[go_sem] theorem Tryd.tyd32 : tyD Tryd.prog 32 = some ⟨.struct [(0, 9, 1), (1, 3, 1), (2, 3, 1), (3, 3, 1), (4, 30, 1), (5, 30, 1)] true, 6, [.string ⟨#[]⟩, .int .i64 0, .int .i64 0, .int .i64 0, .slice none 0 0, .slice none 0 0]⟩ := by kernel_rfl
@[go_sem] theorem Tryd.tyd33 : tyD Tryd.prog 33 = some ⟨.slice 39 2 16 [.int .i64 0, .int .i64 0], 1, [.slice none 0 0]⟩ := by kernel_rfl
@[go_sem] theorem Tryd.tyd34 : tyD Tryd.prog 34 = some ⟨.struct [(0, 3, 1), (1, 3, 1), (2, 9, 1), (3, 33, 1)] true, 4, [.int .i64 0, .int .i64 0, .string ⟨#[]⟩, .slice none 0 0]⟩ := by kernel_rfl
@[go_sem] theorem Tryd.tyd35 : tyD Tryd.prog 35 = some ⟨.struct [(0, 3, 1), (1, 3, 1), (2, 9, 1), (3, 33, 1)] true, 4, [.int .i64 0, .int .i64 0, .string ⟨#[]⟩, .slice none 0 0]⟩ := by kernel_rfl
@[go_sem] theorem Tryd.tyd36 : tyD Tryd.prog 36 = some ⟨.struct [(0, 3, 1), (1, 9, 1), (2, 33, 1), (3, 30, 1), (4, 3, 1)] true, 5, [.int .i64 0, .string ⟨#[]⟩, .slice none 0 0, .slice none 0 0, .int .i64 0]⟩ := by kernel_rfl
@[go_sem] theorem Tryd.tyd37 : tyD Tryd.prog 37 = some ⟨.struct [(0, 3, 1), (1, 9, 1), (2, 33, 1), (3, 30, 1), (4, 3, 1)] true, 5, [.int .i64 0, .string ⟨#[]⟩, .slice none 0 0, .slice none 0 0, .int .i64 0]⟩ := by kernel_rfl
@[go_sem] theorem Tryd.tyd38 : tyD Tryd.prog 38 = some ⟨.struct [(0, 3, 1), (1, 3, 1)] true, 2, [.int .i64 0, .int .i64 0]⟩ := by kernel_rfl
@[go_sem] theorem Tryd.tyd39 : tyD Tryd.prog 39 = some ⟨.struct [(0, 3, 1), (1, 3, 1)] true, 2, [.int .i64 0, .int .i64 0]⟩ := by kernel_rfl
@[go_sem] theorem Tryd.tyd40 : tyD Tryd.prog 40 = some ⟨.struct [(0, 9, 1), (1, 3, 1)] true, 2, [.string ⟨#[]⟩, .int .i64 0]⟩ := by kernel_rfl
@[go_sem] theorem Tryd.tyd41 : tyD Tryd.prog 41 = some ⟨.struct [(0, 9, 1), (1, 3, 1)] true, 2, [.string ⟨#[]⟩, .int .i64 0]⟩ := by kernel_rfl
@[go_sem] theorem Tryd.tyd44 : tyD Tryd.prog 44 = some ⟨.slice 9 1 16 [.string ⟨#[]⟩], 1, [.slice none 0 0]⟩ := by kernel_rfl
@[go_sem] theorem Tryd.tyd47 : tyD Tryd.prog 47 = some ⟨.iface, 1, [.nilIface]⟩ := by kernel_rfl
@[go_sem] theorem Tryd.tyd48 : tyD Tryd.prog 48 = some ⟨.iface, 1, [.nilIface]⟩ := by kernel_rfl
@[go_sem] theorem Tryd.tyd58 : tyD Tryd.prog 58 = some ⟨.map 9 3 (.int .i64 0), 1, [.map none]⟩ := by kernel_rfl
@[go_sem] theorem Tryd.tyd70 : tyD Tryd.prog 70 = some ⟨.ptr, 1, [.pointer none]⟩ := by kernel_rfl
@[go_sem] theorem Tryd.tyd72 : tyD Tryd.prog 72 = some ⟨.ptr, 1, [.pointer none]⟩ := by kernel_rfl
@[go_sem] theorem Tryd.tyd73 : tyD Tryd.prog 73 = some ⟨.struct [(0, 9, 1), (1, 3, 1), (2, 48, 1)] false, 3, [.string ⟨#[]⟩, .int .i64 0, .nilIface]⟩ := by kernel_rfl
@[go_sem] theorem Tryd.tyd74 : tyD Tryd.prog 74 = some ⟨.struct [(0, 9, 1), (1, 3, 1), (2, 48, 1)] false, 3, [.string ⟨#[]⟩, .int .i64 0, .nilIface]⟩ := by kernel_rfl
@[go_sem] theorem Tryd.tyd84 : tyD Tryd.prog 84 = some ⟨.int .u64, 1, [.int .u64 0]⟩ := by kernel_rfl
@[go_sem] theorem Tryd.tyd85 : tyD Tryd.prog 85 = some ⟨.struct [(0, 17, 1), (1, 83, 1), (2, 84, 1)] false, 3, [.pointer none, .pointer none, .int .u64 0]⟩ := by kernel_rfl
@[go_sem] theorem Tryd.tyd86 : tyD Tryd.prog 86 = some ⟨.struct [(0, 17, 1), (1, 83, 1), (2, 84, 1)] false, 3, [.pointer none, .pointer none, .int .u64 0]⟩ := by kernel_rfl
@[go_sem] theorem Tryd.tyd88 : tyD Tryd.prog 88 = some ⟨.iface, 1, [.nilIface]⟩ := by kernel_rfl
@[go_sem] theorem Tryd.tyd89 : tyD Tryd.prog 89 = some ⟨.iface, 1, [.nilIface]⟩ := by kernel_rfl
@[go_sem] theorem Tryd.tyd91 : tyD Tryd.prog 91 = some ⟨.int .u8, 1, [.int .u8 0]⟩ := by kernel_rfl
@[go_sem] theorem Tryd.tyd97 : tyD Tryd.prog 97 = some ⟨.int .u64, 1, [.int .u64 0]⟩ := by kernel_rfl
@[go_sem] theorem Tryd.tyd98 : tyD Tryd.prog 98 = some ⟨.slice 3 1 8 [.int .i64 0], 1, [.slice none 0 0]⟩ := by kernel_rfl
@[go_sem] theorem Tryd.tyd104 : tyD Tryd.prog 104 = some ⟨.struct [(0, 17, 1)] false, 1, [.pointer none]⟩ := by kernel_rfl
@[go_sem] theorem Tryd.tyd105 : tyD Tryd.prog 105 = some ⟨.struct [(0, 17, 1)] false, 1, [.pointer none]⟩ := by kernel_rfl
@[go_sem] theorem Tryd.tyd106 : tyD Tryd.prog 106 = some ⟨.ptr, 1, [.pointer none]⟩ := by kernel_rfl
@[go_sem] theorem Tryd.tyd110 : tyD Tryd.prog 110 = some ⟨.iface, 1, [.nilIface]⟩ := by kernel_rfl
@[go_sem] theorem Tryd.tyd113 : tyD Tryd.prog 113 = some ⟨.iface, 1, [.nilIface]⟩ := by kernel_rfl
@[go_sem] theorem Tryd.tyd115 : tyD Tryd.prog 115 = some ⟨.iface, 1, [.nilIface]⟩ := by kernel_rfl
@[go_sem] theorem Tryd.tyd116 : tyD Tryd.prog 116 = some ⟨.slice 48 1 16 [.nilIface], 1, [.slice none 0 0]⟩ := by kernel_rfl
@[go_sem] theorem Tryd.tyd119 : tyD Tryd.prog 119 = some ⟨.int .i64, 1, [.int .i64 0]⟩ := by kernel_rfl
@[go_sem] theorem Tryd.tyd128 : tyD Tryd.prog 128 = some ⟨.int .u32, 1, [.int .u32 0]⟩ := by kernel_rfl
@[go_sem] theorem Tryd.tyd130 : tyD Tryd.prog 130 = some ⟨.int .u64, 1, [.int .u64 0]⟩ := by kernel_rfl
@[go_sem] theorem Tryd.tyd134 : tyD Tryd.prog 134 = some ⟨.int .u64, 1, [.int .u64 0]⟩ := by kernel_rfl
@[go_sem] theorem Tryd.tyd138 : tyD Tryd.prog 138 = some ⟨.ptr, 1, [.pointer none]⟩ := by kernel_rfl
@[go_sem] theorem Tryd.tyd140 : tyD Tryd.prog 140 = some ⟨.ptr, 1, [.pointer none]⟩ := by kernel_rfl
@[go_sem] theorem Tryd.tyd143 : tyD Tryd.prog 143 = some ⟨.ptr, 1, [.pointer none]⟩ := by kernel_rfl
@[go_sem] theorem Tryd.tyd145 : tyD Tryd.prog 145 = some ⟨.struct [(0, 17, 1), (1, 17, 1), (2, 17, 1), (3, 9, 1)] false, 4, [.pointer none, .pointer none, .pointer none, .string ⟨#[]⟩]⟩ := by kernel_rfl
@[go_sem] theorem Tryd.tyd146 : tyD Tryd.prog 146 = some ⟨.struct [(0, 17, 1), (1, 17, 1), (2, 17, 1), (3, 9, 1)] false, 4, [.pointer none, .pointer none, .pointer none, .string ⟨#[]⟩]⟩ := by kernel_rfl
@[go_sem] theorem Tryd.tyd147 : tyD Tryd.prog 147 = some ⟨.arr 0 16 1, 0, []⟩ := by kernel_rfl
@[go_sem] theorem Tryd.tyd148 : tyD Tryd.prog 148 = some ⟨.struct [(0, 147, 0)] false, 0, []⟩ := by kernel_rfl
@[go_sem] theorem Tryd.tyd149 : tyD Tryd.prog 149 = some ⟨.struct [(0, 147, 0)] false, 0, []⟩ := by kernel_rfl
@[go_sem] theorem Tryd.tyd152 : tyD Tryd.prog 152 = some ⟨.int .u8, 1, [.int .u8 0]⟩ := by kernel_rfl
@[go_sem] theorem Tryd.tyd154 : tyD Tryd.prog 154 = some ⟨.ptr, 1, [.pointer none]⟩ := by kernel_rfl
@[go_sem] theorem Tryd.tyd155 : tyD Tryd.prog 155 = some ⟨.int .i32, 1, [.int .i32 0]⟩ := by kernel_rfl
@[go_sem] theorem Tryd.tyd156 : tyD Tryd.prog 156 = some ⟨.int .i32, 1, [.int .i32 0]⟩ := by kernel_rfl
@[go_sem] theorem Tryd.tyd157 : tyD Tryd.prog 157 = some ⟨.struct [(0, 12, 1), (1, 12, 1), (2, 128, 1), (3, 152, 1), (4, 5, 1), (5, 5, 1), (6, 91, 1), (7, 153, 1), (8, 154, 1), (9, 155, 1), (10, 156, 1)] false, 11, [.int .u64 0, .int .u64 0, .int .u32 0, .int .u8 0, .int .u8 0, .int .u8 0, .int .u8 0, .nilFunc, .pointer none, .int .i32 0, .int .i32 0]⟩ := by kernel_rfl
@[go_sem] theorem Tryd.tyd158 : tyD Tryd.prog 158 = some ⟨.struct [(0, 12, 1), (1, 12, 1), (2, 128, 1), (3, 152, 1), (4, 5, 1), (5, 5, 1), (6, 91, 1), (7, 153, 1), (8, 154, 1), (9, 155, 1), (10, 156, 1)] false, 11, [.int .u64 0, .int .u64 0, .int .u32 0, .int .u8 0, .int .u8 0, .int .u8 0, .int .u8 0, .nilFunc, .pointer none, .int .i32 0, .int .i32 0]⟩ := by kernel_rfl
@[go_sem] theorem Tryd.tyd161 : tyD Tryd.prog 161 = some ⟨.struct [(0, 9, 1), (1, 91, 1)] false, 2, [.string ⟨#[]⟩, .int .u8 0]⟩ := by kernel_rfl
@[go_sem] theorem Tryd.tyd162 : tyD Tryd.prog 162 = some ⟨.struct [(0, 9, 1), (1, 91, 1)] false, 2, [.string ⟨#[]⟩, .int .u8 0]⟩ := by kernel_rfl
@[go_sem] theorem Tryd.tyd163 : tyD Tryd.prog 163 = some ⟨.struct [(0, 9, 1)] true, 1, [.string ⟨#[]⟩]⟩ := by kernel_rfl
@[go_sem] theorem Tryd.tyd164 : tyD Tryd.prog 164 = some ⟨.struct [(0, 9, 1)] true, 1, [.string ⟨#[]⟩]⟩ := by kernel_rfl
@[go_sem] theorem Tryd.tyd165 : tyD Tryd.prog 165 = some ⟨.ptr, 1, [.pointer none]⟩ := by kernel_rfl
@[go_sem] theorem Tryd.tyd167 : tyD Tryd.prog 167 = some ⟨.int .u16, 1, [.int .u16 0]⟩ := by kernel_rfl
@[go_sem] theorem Tryd.tyd168 : tyD Tryd.prog 168 = some ⟨.struct [(0, 155, 1), (1, 167, 1), (2, 167, 1), (3, 128, 1), (4, 128, 1)] false, 5, [.int .i32 0, .int .u16 0, .int .u16 0, .int .u32 0, .int .u32 0]⟩ := by kernel_rfl
@[go_sem] theorem Tryd.tyd169 : tyD Tryd.prog 169 = some ⟨.struct [(0, 155, 1), (1, 167, 1), (2, 167, 1), (3, 128, 1), (4, 128, 1)] false, 5, [.int .i32 0, .int .u16 0, .int .u16 0, .int .u32 0, .int .u32 0]⟩ := by kernel_rfl
@[go_sem] theorem Tryd.tyd170 : tyD Tryd.prog 170 = some ⟨.slice 173 4 16 [.int .i32 0, .int .i32 0, .int .i32 0, .int .i32 0], 1, [.slice none 0 0]⟩ := by kernel_rfl
@[go_sem] theorem Tryd.tyd171 : tyD Tryd.prog 171 = some ⟨.int .i32, 1, [.int .i32 0]⟩ := by kernel_rfl
@[go_sem] theorem Tryd.tyd172 : tyD Tryd.prog 172 = some ⟨.struct [(0, 155, 1), (1, 156, 1), (2, 171, 1), (3, 171, 1)] false, 4, [.int .i32 0, .int .i32 0, .int .i32 0, .int .i32 0]⟩ := by kernel_rfl
@[go_sem] theorem Tryd.tyd173 : tyD Tryd.prog 173 = some ⟨.struct [(0, 155, 1), (1, 156, 1), (2, 171, 1), (3, 171, 1)] false, 4, [.int .i32 0, .int .i32 0, .int .i32 0, .int .i32 0]⟩ := by kernel_rfl
@[go_sem] theorem Tryd.tyd175 : tyD Tryd.prog 175 = some ⟨.ptr, 1, [.pointer none]⟩ := by kernel_rfl
theorem Tryd.mixed : Tryd.prog.follows .mixedOrders = true := by kernel_rfl
end Go.Proofs.YtaonccobohiiiaaDoor
