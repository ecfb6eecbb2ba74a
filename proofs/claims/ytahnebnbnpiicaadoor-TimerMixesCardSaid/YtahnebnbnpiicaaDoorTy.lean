/- What each type of the program is, as the evaluation asks it. -/
import Derived.Test.YtahnebnbnpiicaaDoorProg
import Derived.Test.YtahnebnbnpiicaaDoorVC
namespace Go.Proofs.YtahnebnbnpiicaaDoor
open Go.RowKit
set_option maxRecDepth 100000
@[go_sem] theorem Tryd.tyd2 : tyD Tryd.prog 2 = some ⟨.int .i64, 1, [.int .i64 0]⟩ := by kernel_rfl
@[go_sem] theorem Tryd.tyd3 : tyD Tryd.prog 3 = some ⟨.int .i64, 1, [.int .i64 0]⟩ := by kernel_rfl
@[go_sem] theorem Tryd.tyd4 : tyD Tryd.prog 4 = some ⟨.bool, 1, [.bool false]⟩ := by kernel_rfl
@[go_sem] theorem Tryd.tyd5 : tyD Tryd.prog 5 = some ⟨.int .u8, 1, [.int .u8 0]⟩ := by kernel_rfl
@[go_sem] theorem Tryd.tyd6 : tyD Tryd.prog 6 = some ⟨.int .u8, 1, [.int .u8 0]⟩ := by kernel_rfl
@[go_sem] theorem Tryd.tyd7 : tyD Tryd.prog 7 = some ⟨.struct [(0, 2, 1), (1, 3, 1), (2, 4, 1), (3, 6, 1)] true, 4, [.int .i64 0, .int .i64 0, .bool false, .int .u8 0]⟩ := by kernel_rfl
@[go_sem] theorem Tryd.tyd8 : tyD Tryd.prog 8 = some ⟨.struct [(0, 2, 1), (1, 3, 1), (2, 4, 1), (3, 6, 1)] true, 4, [.int .i64 0, .int .i64 0, .bool false, .int .u8 0]⟩ := by kernel_rfl
@[go_sem] theorem Tryd.tyd9 : tyD Tryd.prog 9 = some ⟨.string, 1, [.string ⟨#[]⟩]⟩ := by kernel_rfl
@[go_sem] theorem Tryd.tyd10 : tyD Tryd.prog 10 = some ⟨.string, 1, [.string ⟨#[]⟩]⟩ := by kernel_rfl
@[go_sem] theorem Tryd.tyd11 : tyD Tryd.prog 11 = some ⟨.string, 1, [.string ⟨#[]⟩]⟩ := by kernel_rfl
@[go_sem] theorem Tryd.tyd12 : tyD Tryd.prog 12 = some ⟨.int .u64, 1, [.int .u64 0]⟩ := by kernel_rfl
@[go_sem] theorem Tryd.tyd13 : tyD Tryd.prog 13 = some ⟨.struct [(0, 9, 1), (1, 12, 1)] false, 2, [.string ⟨#[]⟩, .int .u64 0]⟩ := by kernel_rfl
@[go_sem] theorem Tryd.tyd14 : tyD Tryd.prog 14 = some ⟨.struct [(0, 9, 1), (1, 12, 1)] false, 2, [.string ⟨#[]⟩, .int .u64 0]⟩ := by kernel_rfl
@[go_sem] theorem Tryd.tyd15 : tyD Tryd.prog 15 = some ⟨.ptr, 1, [.pointer none]⟩ := by kernel_rfl
@[go_sem] theorem Tryd.tyd16 : tyD Tryd.prog 16 = some ⟨.ptr, 1, [.pointer none]⟩ := by kernel_rfl
@[go_sem] theorem Tryd.tyd17 : tyD Tryd.prog 17 = some ⟨.ptr, 1, [.pointer none]⟩ := by kernel_rfl
@[go_sem] theorem Tryd.tyd18 : tyD Tryd.prog 18 = some ⟨.struct [(0, 17, 1)] false, 1, [.pointer none]⟩ := by kernel_rfl
@[go_sem] theorem Tryd.tyd19 : tyD Tryd.prog 19 = some ⟨.struct [(0, 17, 1)] false, 1, [.pointer none]⟩ := by kernel_rfl
@[go_sem] theorem Tryd.tyd20 : tyD Tryd.prog 20 = some ⟨.iface, 1, [.nilIface]⟩ := by kernel_rfl
@[go_sem] theorem Tryd.tyd21 : tyD Tryd.prog 21 = some ⟨.int .i32, 1, [.int .i32 0]⟩ := by kernel_rfl
@[go_sem] theorem Tryd.tyd22 : tyD Tryd.prog 22 = some ⟨.slice 32 3 32 [.int .i64 0, .int .i64 0, .string ⟨#[]⟩], 1, [.slice none 0 0]⟩ := by kernel_rfl
@[go_sem] theorem Tryd.tyd23 : tyD Tryd.prog 23 = some ⟨.ptr, 1, [.pointer none]⟩ := by kernel_rfl
@[go_sem] theorem Tryd.tyd27 : tyD Tryd.prog 27 = some ⟨.iface, 1, [.nilIface]⟩ := by kernel_rfl
@[go_sem] theorem Tryd.tyd28 : tyD Tryd.prog 28 = some ⟨.iface, 1, [.nilIface]⟩ := by kernel_rfl
@[go_sem] theorem Tryd.tyd31 : tyD Tryd.prog 31 = some ⟨.struct [(0, 3, 1), (1, 3, 1), (2, 9, 1)] true, 3, [.int .i64 0, .int .i64 0, .string ⟨#[]⟩]⟩ := by kernel_rfl
@[go_sem] theorem Tryd.tyd32 : tyD Tryd.prog 32 = some ⟨.struct [(0, 3, 1), (1, 3, 1), (2, 9, 1)] true, 3, [.int .i64 0, .int .i64 0, .string ⟨#[]⟩]⟩ := by kernel_rfl
@[go_sem] theorem Tryd.tyd39 : tyD Tryd.prog 39 = some ⟨.map 46 3 (.int .i64 0), 1, [.map none]⟩ := by kernel_rfl
@[go_sem] theorem Tryd.tyd40 : tyD Tryd.prog 40 = some ⟨.struct [(0, 22, 1), (1, 39, 1)] true, 2, [.slice none 0 0, .map none]⟩ := by kernel_rfl
@[go_sem] theorem Tryd.tyd41 : tyD Tryd.prog 41 = some ⟨.struct [(0, 22, 1), (1, 39, 1)] true, 2, [.slice none 0 0, .map none]⟩ := by kernel_rfl
@[go_sem] theorem Tryd.tyd45 : tyD Tryd.prog 45 = some ⟨.struct [(0, 3, 1), (1, 9, 1)] true, 2, [.int .i64 0, .string ⟨#[]⟩]⟩ := by kernel_rfl
@[go_sem] theorem Tryd.tyd46 : tyD Tryd.prog 46 = some ⟨.struct [(0, 3, 1), (1, 9, 1)] true, 2, [.int .i64 0, .string ⟨#[]⟩]⟩ := by kernel_rfl
@[go_sem] theorem Tryd.tyd59 : tyD Tryd.prog 59 = some ⟨.ptr, 1, [.pointer none]⟩ := by kernel_rfl
@[go_sem] theorem Tryd.tyd60 : tyD Tryd.prog 60 = some ⟨.struct [(0, 9, 1), (1, 3, 1), (2, 28, 1)] false, 3, [.string ⟨#[]⟩, .int .i64 0, .nilIface]⟩ := by kernel_rfl
@[go_sem] theorem Tryd.tyd61 : tyD Tryd.prog 61 = some ⟨.struct [(0, 9, 1), (1, 3, 1), (2, 28, 1)] false, 3, [.string ⟨#[]⟩, .int .i64 0, .nilIface]⟩ := by kernel_rfl
@[go_sem] theorem Tryd.tyd71 : tyD Tryd.prog 71 = some ⟨.int .u64, 1, [.int .u64 0]⟩ := by kernel_rfl
@[go_sem] theorem Tryd.tyd73 : tyD Tryd.prog 73 = some ⟨.int .i64, 1, [.int .i64 0]⟩ := by kernel_rfl
@[go_sem] theorem Tryd.tyd80 : tyD Tryd.prog 80 = some ⟨.int .u32, 1, [.int .u32 0]⟩ := by kernel_rfl
@[go_sem] theorem Tryd.tyd82 : tyD Tryd.prog 82 = some ⟨.int .u64, 1, [.int .u64 0]⟩ := by kernel_rfl
@[go_sem] theorem Tryd.tyd83 : tyD Tryd.prog 83 = some ⟨.int .u64, 1, [.int .u64 0]⟩ := by kernel_rfl
@[go_sem] theorem Tryd.tyd87 : tyD Tryd.prog 87 = some ⟨.ptr, 1, [.pointer none]⟩ := by kernel_rfl
@[go_sem] theorem Tryd.tyd89 : tyD Tryd.prog 89 = some ⟨.ptr, 1, [.pointer none]⟩ := by kernel_rfl
@[go_sem] theorem Tryd.tyd92 : tyD Tryd.prog 92 = some ⟨.ptr, 1, [.pointer none]⟩ := by kernel_rfl
@[go_sem] theorem Tryd.tyd94 : tyD Tryd.prog 94 = some ⟨.struct [(0, 17, 1), (1, 17, 1), (2, 17, 1), (3, 9, 1)] false, 4, [.pointer none, .pointer none, .pointer none, .string ⟨#[]⟩]⟩ := by kernel_rfl
@[go_sem] theorem Tryd.tyd95 : tyD Tryd.prog 95 = some ⟨.struct [(0, 17, 1), (1, 17, 1), (2, 17, 1), (3, 9, 1)] false, 4, [.pointer none, .pointer none, .pointer none, .string ⟨#[]⟩]⟩ := by kernel_rfl
@[go_sem] theorem Tryd.tyd96 : tyD Tryd.prog 96 = some ⟨.arr 0 16 1, 0, []⟩ := by kernel_rfl
@[go_sem] theorem Tryd.tyd97 : tyD Tryd.prog 97 = some ⟨.struct [(0, 96, 0)] false, 0, []⟩ := by kernel_rfl
@[go_sem] theorem Tryd.tyd98 : tyD Tryd.prog 98 = some ⟨.struct [(0, 96, 0)] false, 0, []⟩ := by kernel_rfl
@[go_sem] theorem Tryd.tyd99 : tyD Tryd.prog 99 = some ⟨.int .u8, 1, [.int .u8 0]⟩ := by kernel_rfl
@[go_sem] theorem Tryd.tyd100 : tyD Tryd.prog 100 = some ⟨.int .u8, 1, [.int .u8 0]⟩ := by kernel_rfl
@[go_sem] theorem Tryd.tyd102 : tyD Tryd.prog 102 = some ⟨.ptr, 1, [.pointer none]⟩ := by kernel_rfl
@[go_sem] theorem Tryd.tyd103 : tyD Tryd.prog 103 = some ⟨.int .i32, 1, [.int .i32 0]⟩ := by kernel_rfl
@[go_sem] theorem Tryd.tyd104 : tyD Tryd.prog 104 = some ⟨.int .i32, 1, [.int .i32 0]⟩ := by kernel_rfl
@[go_sem] theorem Tryd.tyd105 : tyD Tryd.prog 105 = some ⟨.struct [(0, 12, 1), (1, 12, 1), (2, 80, 1), (3, 99, 1), (4, 5, 1), (5, 5, 1), (6, 100, 1), (7, 101, 1), (8, 102, 1), (9, 103, 1), (10, 104, 1)] false, 11, [.int .u64 0, .int .u64 0, .int .u32 0, .int .u8 0, .int .u8 0, .int .u8 0, .int .u8 0, .nilFunc, .pointer none, .int .i32 0, .int .i32 0]⟩ := by kernel_rfl
@[go_sem] theorem Tryd.tyd106 : tyD Tryd.prog 106 = some ⟨.struct [(0, 12, 1), (1, 12, 1), (2, 80, 1), (3, 99, 1), (4, 5, 1), (5, 5, 1), (6, 100, 1), (7, 101, 1), (8, 102, 1), (9, 103, 1), (10, 104, 1)] false, 11, [.int .u64 0, .int .u64 0, .int .u32 0, .int .u8 0, .int .u8 0, .int .u8 0, .int .u8 0, .nilFunc, .pointer none, .int .i32 0, .int .i32 0]⟩ := by kernel_rfl
@[go_sem] theorem Tryd.tyd107 : tyD Tryd.prog 107 = some ⟨.struct [(0, 9, 1)] true, 1, [.string ⟨#[]⟩]⟩ := by kernel_rfl
@[go_sem] theorem Tryd.tyd108 : tyD Tryd.prog 108 = some ⟨.struct [(0, 9, 1)] true, 1, [.string ⟨#[]⟩]⟩ := by kernel_rfl
theorem Tryd.mixed : Tryd.prog.follows .mixedOrders = true := by kernel_rfl
end Go.Proofs.YtahnebnbnpiicaaDoor
