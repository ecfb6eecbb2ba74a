/- What each type of the program is, as the evaluation asks it. -/
import Derived.Test.YtbnanjcghhfcpaaDoorProg
import Derived.Test.YtbnanjcghhfcpaaDoorVC
namespace Go.Proofs.YtbnanjcghhfcpaaDoor
open Go.RowKit
set_option maxRecDepth 100000
@[go_sem] theorem Tryd.tyd2 : tyD Tryd.prog 2 = some ⟨.int .i64, 1, [.int .i64 0]⟩ := by kernel_rfl
@[go_sem] theorem Tryd.tyd3 : tyD Tryd.prog 3 = some ⟨.int .i64, 1, [.int .i64 0]⟩ := by kernel_rfl
@[go_sem] theorem Tryd.tyd4 : tyD Tryd.prog 4 = some ⟨.bool, 1, [.bool false]⟩ := by kernel_rfl
@[go_sem] theorem Tryd.tyd5 : tyD Tryd.prog 5 = some ⟨.int .u8, 1, [.int .u8 0]⟩ := by kernel_rfl
@[go_sem] theorem Tryd.tyd6 : tyD Tryd.prog 6 = some ⟨.int .u8, 1, [.int .u8 0]⟩ := by kernel_rfl
@[go_sem] theorem Tryd.tyd7 : tyD Tryd.prog 7 = some ⟨.struct [(0, 2, 1), (1, 3, 1), (2, 4, 1), (3, 6, 1)] true, 4, [.int .i64 0, .int .i64 0, .bool false, .int .u8 0]⟩ := by kernel_rfl
@[go_sem] theorem Tryd.tyd8 : tyD Tryd.prog 8 = some ⟨.struct [(0, 2, 1), (1, 3, 1), (2, 4, 1), (3, 6, 1)] true, 4, [.int .i64 0, .int .i64 0, .bool false, .int .u8 0]⟩ := by kernel_rfl
@[go_sem] theorem Tryd.tyd9 : tyD Tryd.prog 9 = some ⟨.string, 1, [.string ⟨#[]⟩]⟩ := by kernel_rfl
@[go_sem] theorem Tryd.tyd10 : tyD Tryd.prog 10 = some ⟨.string, 1, [.string ⟨#[]⟩]⟩ := by kernel_rfl
@[go_sem] theorem Tryd.tyd11 : tyD Tryd.prog 11 = some ⟨.string, 1, [.string ⟨#[]⟩]⟩ := by kernel_rfl
@[go_sem] theorem Tryd.tyd12 : tyD Tryd.prog 12 = some ⟨.int .u64, 1, [.int .u64 0]⟩ := by kernel_rfl
@[go_sem] theorem Tryd.tyd13 : tyD Tryd.prog 13 = some ⟨.struct [(0, 9, 1), (1, 12, 1)] false, 2, [.string ⟨#[]⟩, .int .u64 0]⟩ := by kernel_rfl
@[go_sem] theorem Tryd.tyd14 : tyD Tryd.prog 14 = some ⟨.struct [(0, 9, 1), (1, 12, 1)] false, 2, [.string ⟨#[]⟩, .int .u64 0]⟩ := by kernel_rfl
@[go_sem] theorem Tryd.tyd15 : tyD Tryd.prog 15 = some ⟨.ptr, 1, [.pointer none]⟩ := by kernel_rfl
@[go_sem] theorem Tryd.tyd16 : tyD Tryd.prog 16 = some ⟨.ptr, 1, [.pointer none]⟩ := by kernel_rfl
@[go_sem] theorem Tryd.tyd17 : tyD Tryd.prog 17 = some ⟨.ptr, 1, [.pointer none]⟩ := by kernel_rfl
@[go_sem] theorem Tryd.tyd18 : tyD Tryd.prog 18 = some ⟨.struct [(0, 17, 1)] false, 1, [.pointer none]⟩ := by kernel_rfl
@[go_sem] theorem Tryd.tyd19 : tyD Tryd.prog 19 = some ⟨.struct [(0, 17, 1)] false, 1, [.pointer none]⟩ := by kernel_rfl
@[go_sem] theorem Tryd.tyd20 : tyD Tryd.prog 20 = some ⟨.iface, 1, [.nilIface]⟩ := by kernel_rfl
@[go_sem] theorem Tryd.tyd21 : tyD Tryd.prog 21 = some ⟨.int .i32, 1, [.int .i32 0]⟩ := by kernel_rfl
@[go_sem] theorem Tryd.tyd22 : tyD Tryd.prog 22 = some ⟨.struct [(0, 3, 1), (1, 3, 1), (2, 9, 1)] true, 3, [.int .i64 0, .int .i64 0, .string ⟨#[]⟩]⟩ := by kernel_rfl
@[go_sem] theorem Tryd.tyd23 : tyD Tryd.prog 23 = some ⟨.struct [(0, 3, 1), (1, 3, 1), (2, 9, 1)] true, 3, [.int .i64 0, .int .i64 0, .string ⟨#[]⟩]⟩ := by kernel_rfl
@[go_sem] theorem Tryd.tyd26 : tyD Tryd.prog 26 = some ⟨.iface, 1, [.nilIface]⟩ := by kernel_rfl
@[go_sem] theorem Tryd.tyd27 : tyD Tryd.prog 27 = some ⟨.iface, 1, [.nilIface]⟩ := by kernel_rfl
@[go_sem] theorem Tryd.tyd32 : tyD Tryd.prog 32 = some ⟨.slice 3 1 8 [.int .i64 0], 1, [.slice none 0 0]⟩ := by kernel_rfl
@[go_sem] theorem Tryd.tyd33 : tyD Tryd.prog 33 = some ⟨.slice 40 2 32 [.int .i64 0, .slice none 0 0], 1, [.slice none 0 0]⟩ := by kernel_rfl
@[go_sem] theorem Tryd.tyd34 : tyD Tryd.prog 34 = some ⟨.slice 70 2 24 [.string ⟨#[]⟩, .int .i64 0], 1, [.slice none 0 0]⟩ := by kernel_rfl
@[go_sem] theorem Tryd.tyd35 : tyD Tryd.prog 35 = some ⟨.struct [(0, 32, 1), (1, 32, 1), (2, 33, 1), (3, 34, 1), (4, 4, 1)] true, 5, [.slice none 0 0, .slice none 0 0, .slice none 0 0, .slice none 0 0, .bool false]⟩ := by kernel_rfl
@[go_sem] theorem Tryd.tyd36 : tyD Tryd.prog 36 = some ⟨.struct [(0, 32, 1), (1, 32, 1), (2, 33, 1), (3, 34, 1), (4, 4, 1)] true, 5, [.slice none 0 0, .slice none 0 0, .slice none 0 0, .slice none 0 0, .bool false]⟩ := by kernel_rfl
@[go_sem] theorem Tryd.tyd37 : tyD Tryd.prog 37 = some ⟨.struct [(0, 3, 1), (1, 3, 1), (2, 3, 1), (3, 36, 5)] true, 8, [.int .i64 0, .int .i64 0, .int .i64 0, .slice none 0 0, .slice none 0 0, .slice none 0 0, .slice none 0 0, .bool false]⟩ := by kernel_rfl
@[go_sem] theorem Tryd.tyd38 : tyD Tryd.prog 38 = some ⟨.struct [(0, 3, 1), (1, 3, 1), (2, 3, 1), (3, 36, 5)] true, 8, [.int .i64 0, .int .i64 0, .int .i64 0, .slice none 0 0, .slice none 0 0, .slice none 0 0, .slice none 0 0, .bool false]⟩ := by kernel_rfl
@[go_sem] theorem Tryd.tyd39 : tyD Tryd.prog 39 = some ⟨.struct [(0, 3, 1), (1, 32, 1)] true, 2, [.int .i64 0, .slice none 0 0]⟩ := by kernel_rfl
@[go_sem] theorem Tryd.tyd40 : tyD Tryd.prog 40 = some ⟨.struct [(0, 3, 1), (1, 32, 1)] true, 2, [.int .i64 0, .slice none 0 0]⟩ := by kernel_rfl
@[go_sem] theorem Tryd.tyd41 : tyD Tryd.prog 41 = some ⟨.slice 72 2 32 [.string ⟨#[]⟩, .string ⟨#[]⟩], 1, [.slice none 0 0]⟩ := by kernel_rfl
@[go_sem] theorem Tryd.tyd44 : tyD Tryd.prog 44 = some ⟨.struct [(0, 3, 1), (1, 3, 1), (2, 3, 1), (3, 36, 5)] true, 8, [.int .i64 0, .int .i64 0, .int .i64 0, .slice none 0 0, .slice none 0 0, .slice none 0 0, .slice none 0 0, .bool false]⟩ := by kernel_rfl
@[go_sem] theorem Tryd.tyd53 : tyD Tryd.prog 53 = some ⟨.ptr, 1, [.pointer none]⟩ := by kernel_rfl
@[go_sem] theorem Tryd.tyd62 : tyD Tryd.prog 62 = some ⟨.slice 5 1 1 [.int .u8 0], 1, [.slice none 0 0]⟩ := by kernel_rfl
@[go_sem] theorem Tryd.tyd65 : tyD Tryd.prog 65 = some ⟨.struct [(0, 3, 1), (1, 3, 1), (2, 3, 1)] true, 3, [.int .i64 0, .int .i64 0, .int .i64 0]⟩ := by kernel_rfl
@[go_sem] theorem Tryd.tyd66 : tyD Tryd.prog 66 = some ⟨.struct [(0, 3, 1), (1, 3, 1), (2, 3, 1)] true, 3, [.int .i64 0, .int .i64 0, .int .i64 0]⟩ := by kernel_rfl
@[go_sem] theorem Tryd.tyd69 : tyD Tryd.prog 69 = some ⟨.struct [(0, 9, 1), (1, 3, 1)] true, 2, [.string ⟨#[]⟩, .int .i64 0]⟩ := by kernel_rfl
@[go_sem] theorem Tryd.tyd70 : tyD Tryd.prog 70 = some ⟨.struct [(0, 9, 1), (1, 3, 1)] true, 2, [.string ⟨#[]⟩, .int .i64 0]⟩ := by kernel_rfl
@[go_sem] theorem Tryd.tyd71 : tyD Tryd.prog 71 = some ⟨.struct [(0, 9, 1), (1, 9, 1)] true, 2, [.string ⟨#[]⟩, .string ⟨#[]⟩]⟩ := by kernel_rfl
@[go_sem] theorem Tryd.tyd72 : tyD Tryd.prog 72 = some ⟨.struct [(0, 9, 1), (1, 9, 1)] true, 2, [.string ⟨#[]⟩, .string ⟨#[]⟩]⟩ := by kernel_rfl
@[go_sem] theorem Tryd.tyd82 : tyD Tryd.prog 82 = some ⟨.ptr, 1, [.pointer none]⟩ := by kernel_rfl
@[go_sem] theorem Tryd.tyd83 : tyD Tryd.prog 83 = some ⟨.struct [(0, 9, 1), (1, 3, 1), (2, 27, 1)] false, 3, [.string ⟨#[]⟩, .int .i64 0, .nilIface]⟩ := by kernel_rfl
@[go_sem] theorem Tryd.tyd84 : tyD Tryd.prog 84 = some ⟨.struct [(0, 9, 1), (1, 3, 1), (2, 27, 1)] false, 3, [.string ⟨#[]⟩, .int .i64 0, .nilIface]⟩ := by kernel_rfl
@[go_sem] theorem Tryd.tyd85 : tyD Tryd.prog 85 = some ⟨.map 91 3 (.int .i64 0), 1, [.map none]⟩ := by kernel_rfl
@[go_sem] theorem Tryd.tyd86 : tyD Tryd.prog 86 = some ⟨.slice 23 3 32 [.int .i64 0, .int .i64 0, .string ⟨#[]⟩], 1, [.slice none 0 0]⟩ := by kernel_rfl
@[go_sem] theorem Tryd.tyd87 : tyD Tryd.prog 87 = some ⟨.struct [(0, 86, 1), (1, 85, 1)] true, 2, [.slice none 0 0, .map none]⟩ := by kernel_rfl
@[go_sem] theorem Tryd.tyd88 : tyD Tryd.prog 88 = some ⟨.struct [(0, 86, 1), (1, 85, 1)] true, 2, [.slice none 0 0, .map none]⟩ := by kernel_rfl
@[go_sem] theorem Tryd.tyd90 : tyD Tryd.prog 90 = some ⟨.struct [(0, 3, 1), (1, 9, 1)] true, 2, [.int .i64 0, .string ⟨#[]⟩]⟩ := by kernel_rfl
@[go_sem] theorem Tryd.tyd91 : tyD Tryd.prog 91 = some ⟨.struct [(0, 3, 1), (1, 9, 1)] true, 2, [.int .i64 0, .string ⟨#[]⟩]⟩ := by kernel_rfl
@[go_sem] theorem Tryd.tyd96 : tyD Tryd.prog 96 = some ⟨.struct [(0, 3, 1), (1, 3, 1)] true, 2, [.int .i64 0, .int .i64 0]⟩ := by kernel_rfl
@[go_sem] theorem Tryd.tyd97 : tyD Tryd.prog 97 = some ⟨.struct [(0, 3, 1), (1, 3, 1)] true, 2, [.int .i64 0, .int .i64 0]⟩ := by kernel_rfl
@[go_sem] theorem Tryd.tyd99 : tyD Tryd.prog 99 = some ⟨.arr 3 97 2, 6, [.int .i64 0, .int .i64 0, .int .i64 0, .int .i64 0, .int .i64 0, .int .i64 0]⟩ := by kernel_rfl
@[go_sem] theorem Tryd.tyd101 : tyD Tryd.prog 101 = some ⟨.int .u64, 1, [.int .u64 0]⟩ := by kernel_rfl
@[go_sem] theorem Tryd.tyd106 : tyD Tryd.prog 106 = some ⟨.int .u64, 1, [.int .u64 0]⟩ := by kernel_rfl
@[go_sem] theorem Tryd.tyd108 : tyD Tryd.prog 108 = some ⟨.iface, 1, [.nilIface]⟩ := by kernel_rfl
@[go_sem] theorem Tryd.tyd109 : tyD Tryd.prog 109 = some ⟨.iface, 1, [.nilIface]⟩ := by kernel_rfl
@[go_sem] theorem Tryd.tyd113 : tyD Tryd.prog 113 = some ⟨.slice 97 2 16 [.int .i64 0, .int .i64 0], 1, [.slice none 0 0]⟩ := by kernel_rfl
@[go_sem] theorem Tryd.tyd116 : tyD Tryd.prog 116 = some ⟨.int .i64, 1, [.int .i64 0]⟩ := by kernel_rfl
@[go_sem] theorem Tryd.tyd123 : tyD Tryd.prog 123 = some ⟨.int .u32, 1, [.int .u32 0]⟩ := by kernel_rfl
@[go_sem] theorem Tryd.tyd125 : tyD Tryd.prog 125 = some ⟨.struct [(0, 17, 1)] false, 1, [.pointer none]⟩ := by kernel_rfl
@[go_sem] theorem Tryd.tyd126 : tyD Tryd.prog 126 = some ⟨.struct [(0, 17, 1)] false, 1, [.pointer none]⟩ := by kernel_rfl
@[go_sem] theorem Tryd.tyd127 : tyD Tryd.prog 127 = some ⟨.ptr, 1, [.pointer none]⟩ := by kernel_rfl
@[go_sem] theorem Tryd.tyd128 : tyD Tryd.prog 128 = some ⟨.iface, 1, [.nilIface]⟩ := by kernel_rfl
@[go_sem] theorem Tryd.tyd131 : tyD Tryd.prog 131 = some ⟨.iface, 1, [.nilIface]⟩ := by kernel_rfl
@[go_sem] theorem Tryd.tyd133 : tyD Tryd.prog 133 = some ⟨.iface, 1, [.nilIface]⟩ := by kernel_rfl
@[go_sem] theorem Tryd.tyd134 : tyD Tryd.prog 134 = some ⟨.slice 27 1 16 [.nilIface], 1, [.slice none 0 0]⟩ := by kernel_rfl
@[go_sem] theorem Tryd.tyd136 : tyD Tryd.prog 136 = some ⟨.int .u64, 1, [.int .u64 0]⟩ := by kernel_rfl
@[go_sem] theorem Tryd.tyd140 : tyD Tryd.prog 140 = some ⟨.ptr, 1, [.pointer none]⟩ := by kernel_rfl
@[go_sem] theorem Tryd.tyd142 : tyD Tryd.prog 142 = some ⟨.ptr, 1, [.pointer none]⟩ := by kernel_rfl
@[go_sem] theorem Tryd.tyd145 : tyD Tryd.prog 145 = some ⟨.ptr, 1, [.pointer none]⟩ := by kernel_rfl
@[go_sem] theorem Tryd.tyd146 : tyD Tryd.prog 146 = some ⟨.struct [(0, 17, 1), (1, 17, 1), (2, 17, 1), (3, 9, 1)] false, 4, [.pointer none, .pointer none, .pointer none, .string ⟨#[]⟩]⟩ := by kernel_rfl
@[go_sem] theorem Tryd.tyd147 : tyD Tryd.prog 147 = some ⟨.struct [(0, 17, 1), (1, 17, 1), (2, 17, 1), (3, 9, 1)] false, 4, [.pointer none, .pointer none, .pointer none, .string ⟨#[]⟩]⟩ := by kernel_rfl
@[go_sem] theorem Tryd.tyd148 : tyD Tryd.prog 148 = some ⟨.arr 0 16 1, 0, []⟩ := by kernel_rfl
@[go_sem] theorem Tryd.tyd149 : tyD Tryd.prog 149 = some ⟨.struct [(0, 148, 0)] false, 0, []⟩ := by kernel_rfl
@[go_sem] theorem Tryd.tyd150 : tyD Tryd.prog 150 = some ⟨.struct [(0, 148, 0)] false, 0, []⟩ := by kernel_rfl
@[go_sem] theorem Tryd.tyd151 : tyD Tryd.prog 151 = some ⟨.int .u8, 1, [.int .u8 0]⟩ := by kernel_rfl
@[go_sem] theorem Tryd.tyd152 : tyD Tryd.prog 152 = some ⟨.int .u8, 1, [.int .u8 0]⟩ := by kernel_rfl
@[go_sem] theorem Tryd.tyd154 : tyD Tryd.prog 154 = some ⟨.ptr, 1, [.pointer none]⟩ := by kernel_rfl
@[go_sem] theorem Tryd.tyd155 : tyD Tryd.prog 155 = some ⟨.int .i32, 1, [.int .i32 0]⟩ := by kernel_rfl
@[go_sem] theorem Tryd.tyd156 : tyD Tryd.prog 156 = some ⟨.int .i32, 1, [.int .i32 0]⟩ := by kernel_rfl
@[go_sem] theorem Tryd.tyd157 : tyD Tryd.prog 157 = some ⟨.struct [(0, 12, 1), (1, 12, 1), (2, 123, 1), (3, 151, 1), (4, 5, 1), (5, 5, 1), (6, 152, 1), (7, 153, 1), (8, 154, 1), (9, 155, 1), (10, 156, 1)] false, 11, [.int .u64 0, .int .u64 0, .int .u32 0, .int .u8 0, .int .u8 0, .int .u8 0, .int .u8 0, .nilFunc, .pointer none, .int .i32 0, .int .i32 0]⟩ := by kernel_rfl
@[go_sem] theorem Tryd.tyd158 : tyD Tryd.prog 158 = some ⟨.struct [(0, 12, 1), (1, 12, 1), (2, 123, 1), (3, 151, 1), (4, 5, 1), (5, 5, 1), (6, 152, 1), (7, 153, 1), (8, 154, 1), (9, 155, 1), (10, 156, 1)] false, 11, [.int .u64 0, .int .u64 0, .int .u32 0, .int .u8 0, .int .u8 0, .int .u8 0, .int .u8 0, .nilFunc, .pointer none, .int .i32 0, .int .i32 0]⟩ := by kernel_rfl
@[go_sem] theorem Tryd.tyd165 : tyD Tryd.prog 165 = some ⟨.struct [(0, 9, 1), (1, 152, 1)] false, 2, [.string ⟨#[]⟩, .int .u8 0]⟩ := by kernel_rfl
@[go_sem] theorem Tryd.tyd166 : tyD Tryd.prog 166 = some ⟨.struct [(0, 9, 1), (1, 152, 1)] false, 2, [.string ⟨#[]⟩, .int .u8 0]⟩ := by kernel_rfl
@[go_sem] theorem Tryd.tyd167 : tyD Tryd.prog 167 = some ⟨.struct [(0, 9, 1)] true, 1, [.string ⟨#[]⟩]⟩ := by kernel_rfl
@[go_sem] theorem Tryd.tyd168 : tyD Tryd.prog 168 = some ⟨.struct [(0, 9, 1)] true, 1, [.string ⟨#[]⟩]⟩ := by kernel_rfl
@[go_sem] theorem Tryd.tyd170 : tyD Tryd.prog 170 = some ⟨.ptr, 1, [.pointer none]⟩ := by kernel_rfl
@[go_sem] theorem Tryd.tyd172 : tyD Tryd.prog 172 = some ⟨.int .u16, 1, [.int .u16 0]⟩ := by kernel_rfl
@[go_sem] theorem Tryd.tyd173 : tyD Tryd.prog 173 = some ⟨.struct [(0, 155, 1), (1, 172, 1), (2, 172, 1), (3, 123, 1), (4, 123, 1)] false, 5, [.int .i32 0, .int .u16 0, .int .u16 0, .int .u32 0, .int .u32 0]⟩ := by kernel_rfl
@[go_sem] theorem Tryd.tyd174 : tyD Tryd.prog 174 = some ⟨.struct [(0, 155, 1), (1, 172, 1), (2, 172, 1), (3, 123, 1), (4, 123, 1)] false, 5, [.int .i32 0, .int .u16 0, .int .u16 0, .int .u32 0, .int .u32 0]⟩ := by kernel_rfl
@[go_sem] theorem Tryd.tyd175 : tyD Tryd.prog 175 = some ⟨.slice 178 4 16 [.int .i32 0, .int .i32 0, .int .i32 0, .int .i32 0], 1, [.slice none 0 0]⟩ := by kernel_rfl
@[go_sem] theorem Tryd.tyd176 : tyD Tryd.prog 176 = some ⟨.int .i32, 1, [.int .i32 0]⟩ := by kernel_rfl
@[go_sem] theorem Tryd.tyd177 : tyD Tryd.prog 177 = some ⟨.struct [(0, 155, 1), (1, 156, 1), (2, 176, 1), (3, 176, 1)] false, 4, [.int .i32 0, .int .i32 0, .int .i32 0, .int .i32 0]⟩ := by kernel_rfl
@[go_sem] theorem Tryd.tyd178 : tyD Tryd.prog 178 = some ⟨.struct [(0, 155, 1), (1, 156, 1), (2, 176, 1), (3, 176, 1)] false, 4, [.int .i32 0, .int .i32 0, .int .i32 0, .int .i32 0]⟩ := by kernel_rfl
theorem Tryd.mixed : Tryd.prog.follows .mixedOrders = true := by kernel_rfl
end Go.Proofs.YtbnanjcghhfcpaaDoor
