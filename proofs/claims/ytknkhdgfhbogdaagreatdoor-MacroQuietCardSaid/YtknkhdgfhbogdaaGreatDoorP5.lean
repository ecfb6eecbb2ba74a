/- The facts of evaluation. No program is named here. -/
import Derived.Test.YtknkhdgfhbogdaaGreatDoorProg
import Derived.Test.YtknkhdgfhbogdaaGreatDoorP4
import Derived.Lib.SmallJoins
import Derived.Stop.Asserts
set_option maxRecDepth 100000
set_option maxHeartbeats 1000000
set_option linter.unusedSimpArgs false
set_option linter.defProp false
namespace Go.Proofs.YtknkhdgfhbogdaaGreatDoor
open Go.Proofs.Tryz
section
open Go.RowKit
@[go_sem] theorem Tryz.tyds:ew prog 2=some ⟨.int .i64,1,[.int .i64 0]⟩/\
  ew prog 3=some ⟨.int .i64,1,[.int .i64 0]⟩/\
  ew prog 4=some ⟨.bool,1,[.bool false]⟩/\
  ew prog 5=some ⟨.int .u8,1,[.int .u8 0]⟩/\
  ew prog 6=some ⟨.int .u8,1,[.int .u8 0]⟩/\
  ew prog 7=some ⟨.struct [(0,2,1),(1,3,1),(2,4,1),(3,6,1)] true,4,[.int .i64 0, .int .i64 0, .bool false, .int .u8 0]⟩/\
  ew prog 8=some ⟨.struct [(0,2,1),(1,3,1),(2,4,1),(3,6,1)] true,4,[.int .i64 0, .int .i64 0, .bool false, .int .u8 0]⟩/\
  ew prog 9=some ⟨.string,1,[.string ⟨#[]⟩]⟩/\
  ew prog 10=some ⟨.string,1,[.string ⟨#[]⟩]⟩/\
  ew prog 11=some ⟨.string,1,[.string ⟨#[]⟩]⟩/\
  ew prog 12=some ⟨.int .u64,1,[.int .u64 0]⟩/\
  ew prog 13=some ⟨.struct [(0,9,1),(1,12,1)] false,2,[.string ⟨#[]⟩, .int .u64 0]⟩/\
  ew prog 14=some ⟨.struct [(0,9,1),(1,12,1)] false,2,[.string ⟨#[]⟩, .int .u64 0]⟩/\
  ew prog 15=some ⟨.ptr,1,[.pointer none]⟩/\
  ew prog 16=some ⟨.ptr,1,[.pointer none]⟩/\
  ew prog 17=some ⟨.ptr,1,[.pointer none]⟩/\
  ew prog 18=some ⟨.struct [(0,17,1)] false,1,[.pointer none]⟩/\
  ew prog 19=some ⟨.struct [(0,17,1)] false,1,[.pointer none]⟩/\
  ew prog 20=some ⟨.iface,1,[.nilIface]⟩/\
  ew prog 21=some ⟨.int .i32,1,[.int .i32 0]⟩/\
  ew prog 22=some ⟨.slice 143 2 24 [.string ⟨#[]⟩, .int .i64 0],1,[.slice none 0 0]⟩/\
  ew prog 23=some ⟨.slice 62 6 88 [.string ⟨#[]⟩, .int .i64 0, .int .i64 0, .int .i64 0, .slice none 0 0, .slice none 0 0],1,[.slice none 0 0]⟩/\
  ew prog 24=some ⟨.slice 53 5 80 [.int .i64 0, .string ⟨#[]⟩, .slice none 0 0, .slice none 0 0, .int .i64 0],1,[.slice none 0 0]⟩/\
  ew prog 25=some ⟨.struct [(0,9,1),(1,3,1),(2,22,1),(3,23,1),(4,24,1)] true,5,[.string ⟨#[]⟩, .int .i64 0, .slice none 0 0, .slice none 0 0, .slice none 0 0]⟩/\
  ew prog 26=some ⟨.struct [(0,9,1),(1,3,1),(2,22,1),(3,23,1),(4,24,1)] true,5,[.string ⟨#[]⟩, .int .i64 0, .slice none 0 0, .slice none 0 0, .slice none 0 0]⟩/\
  ew prog 27=some ⟨.slice 3 1 8 [.int .i64 0],1,[.slice none 0 0]⟩/\
  ew prog 28=some ⟨.slice 122 2 32 [.int .i64 0, .slice none 0 0],1,[.slice none 0 0]⟩/\
  ew prog 29=some ⟨.slice 85 2 24 [.string ⟨#[]⟩, .int .i64 0],1,[.slice none 0 0]⟩/\
  ew prog 30=some ⟨.struct [(0,27,1),(1,27,1),(2,28,1),(3,29,1),(4,4,1)] true,5,[.slice none 0 0, .slice none 0 0, .slice none 0 0, .slice none 0 0, .bool false]⟩/\
  ew prog 31=some ⟨.struct [(0,27,1),(1,27,1),(2,28,1),(3,29,1),(4,4,1)] true,5,[.slice none 0 0, .slice none 0 0, .slice none 0 0, .slice none 0 0, .bool false]⟩/\
  ew prog 32=some ⟨.struct [(0,9,1),(1,3,1)] true,2,[.string ⟨#[]⟩, .int .i64 0]⟩/\
  ew prog 33=some ⟨.struct [(0,9,1),(1,3,1)] true,2,[.string ⟨#[]⟩, .int .i64 0]⟩/\
  ew prog 34=some ⟨.struct [(0,26,5),(5,31,5),(10,33,2),(12,3,1),(13,3,1)] true,14,[.string ⟨#[]⟩, .int .i64 0, .slice none 0 0, .slice none 0 0, .slice none 0 0, .slice none 0 0, .slice none 0 0, .slice none 0 0, .slice none 0 0, .bool false, .string ⟨#[]⟩, .int .i64 0, .int .i64 0, .int .i64 0]⟩/\
  ew prog 35=some ⟨.struct [(0,26,5),(5,31,5),(10,33,2),(12,3,1),(13,3,1)] true,14,[.string ⟨#[]⟩, .int .i64 0, .slice none 0 0, .slice none 0 0, .slice none 0 0, .slice none 0 0, .slice none 0 0, .slice none 0 0, .slice none 0 0, .bool false, .string ⟨#[]⟩, .int .i64 0, .int .i64 0, .int .i64 0]⟩/\
  ew prog 36=some ⟨.ptr,1,[.pointer none]⟩/\
  ew prog 41=some ⟨.struct [(0,31,5),(5,27,1),(6,3,1),(7,3,1),(8,3,1)] true,9,[.slice none 0 0, .slice none 0 0, .slice none 0 0, .slice none 0 0, .bool false, .slice none 0 0, .int .i64 0, .int .i64 0, .int .i64 0]⟩/\
  ew prog 42=some ⟨.struct [(0,31,5),(5,27,1),(6,3,1),(7,3,1),(8,3,1)] true,9,[.slice none 0 0, .slice none 0 0, .slice none 0 0, .slice none 0 0, .bool false, .slice none 0 0, .int .i64 0, .int .i64 0, .int .i64 0]⟩/\
  ew prog 44=some ⟨.struct [(0,27,1),(1,3,1),(2,4,1)] true,3,[.slice none 0 0, .int .i64 0, .bool false]⟩/\
  ew prog 45=some ⟨.struct [(0,27,1),(1,3,1),(2,4,1)] true,3,[.slice none 0 0, .int .i64 0, .bool false]⟩/\
  ew prog 46=some ⟨.iface,1,[.nilIface]⟩/\
  ew prog 47=some ⟨.iface,1,[.nilIface]⟩/\
  ew prog 50=some ⟨.slice 65 2 16 [.int .i64 0, .int .i64 0],1,[.slice none 0 0]⟩/\
  ew prog 51=some ⟨.slice 67 4 56 [.int .i64 0, .int .i64 0, .string ⟨#[]⟩, .slice none 0 0],1,[.slice none 0 0]⟩/\
  ew prog 52=some ⟨.struct [(0,3,1),(1,9,1),(2,50,1),(3,51,1),(4,3,1)] true,5,[.int .i64 0, .string ⟨#[]⟩, .slice none 0 0, .slice none 0 0, .int .i64 0]⟩/\
  ew prog 53=some ⟨.struct [(0,3,1),(1,9,1),(2,50,1),(3,51,1),(4,3,1)] true,5,[.int .i64 0, .string ⟨#[]⟩, .slice none 0 0, .slice none 0 0, .int .i64 0]⟩/\
  ew prog 61=some ⟨.struct [(0,9,1),(1,3,1),(2,3,1),(3,3,1),(4,51,1),(5,51,1)] true,6,[.string ⟨#[]⟩, .int .i64 0, .int .i64 0, .int .i64 0, .slice none 0 0, .slice none 0 0]⟩/\
  ew prog 62=some ⟨.struct [(0,9,1),(1,3,1),(2,3,1),(3,3,1),(4,51,1),(5,51,1)] true,6,[.string ⟨#[]⟩, .int .i64 0, .int .i64 0, .int .i64 0, .slice none 0 0, .slice none 0 0]⟩/\
  ew prog 64=some ⟨.struct [(0,3,1),(1,3,1)] true,2,[.int .i64 0, .int .i64 0]⟩/\
  ew prog 65=some ⟨.struct [(0,3,1),(1,3,1)] true,2,[.int .i64 0, .int .i64 0]⟩/\
  ew prog 66=some ⟨.struct [(0,3,1),(1,3,1),(2,9,1),(3,50,1)] true,4,[.int .i64 0, .int .i64 0, .string ⟨#[]⟩, .slice none 0 0]⟩/\
  ew prog 67=some ⟨.struct [(0,3,1),(1,3,1),(2,9,1),(3,50,1)] true,4,[.int .i64 0, .int .i64 0, .string ⟨#[]⟩, .slice none 0 0]⟩/\
  ew prog 71=some ⟨.slice 33 2 24 [.string ⟨#[]⟩, .int .i64 0],1,[.slice none 0 0]⟩/\
  ew prog 72=some ⟨.struct [(0,71,1),(1,3,1)] true,2,[.slice none 0 0, .int .i64 0]⟩/\
  ew prog 73=some ⟨.struct [(0,71,1),(1,3,1)] true,2,[.slice none 0 0, .int .i64 0]⟩/\
  ew prog 76=some ⟨.ptr,1,[.pointer none]⟩/\
  ew prog 78=some ⟨.struct [(0,36,1),(1,31,5),(6,71,1),(7,45,3),(10,3,1),(11,3,1),(12,3,1)] true,13,[.pointer none, .slice none 0 0, .slice none 0 0, .slice none 0 0, .slice none 0 0, .bool false, .slice none 0 0, .slice none 0 0, .int .i64 0, .bool false, .int .i64 0, .int .i64 0, .int .i64 0]⟩/\
  ew prog 79=some ⟨.struct [(0,36,1),(1,31,5),(6,71,1),(7,45,3),(10,3,1),(11,3,1),(12,3,1)] true,13,[.pointer none, .slice none 0 0, .slice none 0 0, .slice none 0 0, .slice none 0 0, .bool false, .slice none 0 0, .slice none 0 0, .int .i64 0, .bool false, .int .i64 0, .int .i64 0, .int .i64 0]⟩/\
  ew prog 84=some ⟨.struct [(0,9,1),(1,3,1)] true,2,[.string ⟨#[]⟩, .int .i64 0]⟩/\
  ew prog 85=some ⟨.struct [(0,9,1),(1,3,1)] true,2,[.string ⟨#[]⟩, .int .i64 0]⟩/\
  ew prog 88=some ⟨.ptr,1,[.pointer none]⟩/\
  ew prog 93=some ⟨.slice 9 1 16 [.string ⟨#[]⟩],1,[.slice none 0 0]⟩/\
  ew prog 95=some ⟨.map 101 27 (.slice none 0 0),1,[.map none]⟩/\
  ew prog 96=some ⟨.slice 27 1 24 [.slice none 0 0],1,[.slice none 0 0]⟩/\
  ew prog 97=some ⟨.struct [(0,26,5),(5,88,1),(6,93,1),(7,95,1),(8,96,1)] true,9,[.string ⟨#[]⟩, .int .i64 0, .slice none 0 0, .slice none 0 0, .slice none 0 0, .pointer none, .slice none 0 0, .map none, .slice none 0 0]⟩/\
  ew prog 98=some ⟨.struct [(0,26,5),(5,88,1),(6,93,1),(7,95,1),(8,96,1)] true,9,[.string ⟨#[]⟩, .int .i64 0, .slice none 0 0, .slice none 0 0, .slice none 0 0, .pointer none, .slice none 0 0, .map none, .slice none 0 0]⟩/\
  ew prog 100=some ⟨.struct [(0,3,1),(1,3,1)] true,2,[.int .i64 0, .int .i64 0]⟩/\
  ew prog 101=some ⟨.struct [(0,3,1),(1,3,1)] true,2,[.int .i64 0, .int .i64 0]⟩/\
  ew prog 108=some ⟨.slice 4 1 1 [.bool false],1,[.slice none 0 0]⟩/\
  ew prog 109=some ⟨.struct [(0,27,1),(1,3,1),(2,108,1)] true,3,[.slice none 0 0, .int .i64 0, .slice none 0 0]⟩/\
  ew prog 110=some ⟨.struct [(0,27,1),(1,3,1),(2,108,1)] true,3,[.slice none 0 0, .int .i64 0, .slice none 0 0]⟩/\
  ew prog 112=some ⟨.struct [(0,27,1),(1,71,1)] true,2,[.slice none 0 0, .slice none 0 0]⟩/\
  ew prog 113=some ⟨.struct [(0,27,1),(1,71,1)] true,2,[.slice none 0 0, .slice none 0 0]⟩/\
  ew prog 121=some ⟨.struct [(0,3,1),(1,27,1)] true,2,[.int .i64 0, .slice none 0 0]⟩/\
  ew prog 122=some ⟨.struct [(0,3,1),(1,27,1)] true,2,[.int .i64 0, .slice none 0 0]⟩/\
  ew prog 131=some ⟨.slice 133 1 4 [.int .u32 0],1,[.slice none 0 0]⟩/\
  ew prog 132=some ⟨.int .u32,1,[.int .u32 0]⟩/\
  ew prog 133=some ⟨.int .u32,1,[.int .u32 0]⟩/\
  ew prog 134=some ⟨.struct [(0,27,1),(1,27,1),(2,131,1),(3,131,1),(4,27,1),(5,27,1),(6,133,1)] true,7,[.slice none 0 0, .slice none 0 0, .slice none 0 0, .slice none 0 0, .slice none 0 0, .slice none 0 0, .int .u32 0]⟩/\
  ew prog 135=some ⟨.struct [(0,27,1),(1,27,1),(2,131,1),(3,131,1),(4,27,1),(5,27,1),(6,133,1)] true,7,[.slice none 0 0, .slice none 0 0, .slice none 0 0, .slice none 0 0, .slice none 0 0, .slice none 0 0, .int .u32 0]⟩/\
  ew prog 138=some ⟨.ptr,1,[.pointer none]⟩/\
  ew prog 139=some ⟨.struct [(0,9,1),(1,3,1),(2,47,1)] false,3,[.string ⟨#[]⟩, .int .i64 0, .nilIface]⟩/\
  ew prog 140=some ⟨.struct [(0,9,1),(1,3,1),(2,47,1)] false,3,[.string ⟨#[]⟩, .int .i64 0, .nilIface]⟩/\
  ew prog 142=some ⟨.struct [(0,9,1),(1,3,1)] true,2,[.string ⟨#[]⟩, .int .i64 0]⟩/\
  ew prog 143=some ⟨.struct [(0,9,1),(1,3,1)] true,2,[.string ⟨#[]⟩, .int .i64 0]⟩/\
  ew prog 154=some ⟨.ptr,1,[.pointer none]⟩/\
  ew prog 156=some ⟨.struct [(0,31,5),(5,113,2),(7,36,1),(8,26,5),(13,3,1),(14,3,1)] true,15,[.slice none 0 0, .slice none 0 0, .slice none 0 0, .slice none 0 0, .bool false, .slice none 0 0, .slice none 0 0, .pointer none, .string ⟨#[]⟩, .int .i64 0, .slice none 0 0, .slice none 0 0, .slice none 0 0, .int .i64 0, .int .i64 0]⟩/\
  ew prog 157=some ⟨.struct [(0,31,5),(5,113,2),(7,36,1),(8,26,5),(13,3,1),(14,3,1)] true,15,[.slice none 0 0, .slice none 0 0, .slice none 0 0, .slice none 0 0, .bool false, .slice none 0 0, .slice none 0 0, .pointer none, .string ⟨#[]⟩, .int .i64 0, .slice none 0 0, .slice none 0 0, .slice none 0 0, .int .i64 0, .int .i64 0]⟩/\
  ew prog 164=some ⟨.struct [(0,31,5),(5,27,1),(6,71,1),(7,3,1),(8,3,1),(9,3,1),(10,3,1)] true,11,[.slice none 0 0, .slice none 0 0, .slice none 0 0, .slice none 0 0, .bool false, .slice none 0 0, .slice none 0 0, .int .i64 0, .int .i64 0, .int .i64 0, .int .i64 0]⟩/\
  ew prog 165=some ⟨.struct [(0,31,5),(5,27,1),(6,71,1),(7,3,1),(8,3,1),(9,3,1),(10,3,1)] true,11,[.slice none 0 0, .slice none 0 0, .slice none 0 0, .slice none 0 0, .bool false, .slice none 0 0, .slice none 0 0, .int .i64 0, .int .i64 0, .int .i64 0, .int .i64 0]⟩/\
  ew prog 187=some ⟨.int .u64,1,[.int .u64 0]⟩/\
  ew prog 218=some ⟨.arr 32 5 1,32,[.int .u8 0, .int .u8 0, .int .u8 0, .int .u8 0, .int .u8 0, .int .u8 0, .int .u8 0, .int .u8 0, .int .u8 0, .int .u8 0, .int .u8 0, .int .u8 0, .int .u8 0, .int .u8 0, .int .u8 0, .int .u8 0, .int .u8 0, .int .u8 0, .int .u8 0, .int .u8 0, .int .u8 0, .int .u8 0, .int .u8 0, .int .u8 0, .int .u8 0, .int .u8 0, .int .u8 0, .int .u8 0, .int .u8 0, .int .u8 0, .int .u8 0, .int .u8 0]⟩/\
  ew prog 220=some ⟨.int .i64,1,[.int .i64 0]⟩/\
  ew prog 227=some ⟨.int .u64,1,[.int .u64 0]⟩/\
  ew prog 245=some ⟨.struct [(0,27,1),(1,3,1),(2,108,1)] true,3,[.slice none 0 0, .int .i64 0, .slice none 0 0]⟩/\
  ew prog 256=some ⟨.int .u64,1,[.int .u64 0]⟩/\
  ew prog 260=some ⟨.ptr,1,[.pointer none]⟩/\
  ew prog 280=some ⟨.ptr,1,[.pointer none]⟩/\
  ew prog 290=some ⟨.map 3 3 (.int .i64 0),1,[.map none]⟩/\
  ew prog 324=some ⟨.ptr,1,[.pointer none]⟩/\
  ew prog 326=some ⟨.struct [(0,17,1),(1,17,1),(2,17,1),(3,9,1)] false,4,[.pointer none, .pointer none, .pointer none, .string ⟨#[]⟩]⟩/\
  ew prog 327=some ⟨.struct [(0,17,1),(1,17,1),(2,17,1),(3,9,1)] false,4,[.pointer none, .pointer none, .pointer none, .string ⟨#[]⟩]⟩/\
  ew prog 328=some ⟨.arr 0 16 1,0,[]⟩/\
  ew prog 329=some ⟨.struct [(0,328,0)] false,0,[]⟩/\
  ew prog 330=some ⟨.struct [(0,328,0)] false,0,[]⟩/\
  ew prog 331=some ⟨.int .u8,1,[.int .u8 0]⟩/\
  ew prog 332=some ⟨.int .u8,1,[.int .u8 0]⟩/\
  ew prog 334=some ⟨.ptr,1,[.pointer none]⟩/\
  ew prog 335=some ⟨.int .i32,1,[.int .i32 0]⟩/\
  ew prog 336=some ⟨.int .i32,1,[.int .i32 0]⟩/\
  ew prog 337=some ⟨.struct [(0,12,1),(1,12,1),(2,132,1),(3,331,1),(4,5,1),(5,5,1),(6,332,1),(7,333,1),(8,334,1),(9,335,1),(10,336,1)] false,11,[.int .u64 0, .int .u64 0, .int .u32 0, .int .u8 0, .int .u8 0, .int .u8 0, .int .u8 0, .nilFunc, .pointer none, .int .i32 0, .int .i32 0]⟩/\
  ew prog 338=some ⟨.struct [(0,12,1),(1,12,1),(2,132,1),(3,331,1),(4,5,1),(5,5,1),(6,332,1),(7,333,1),(8,334,1),(9,335,1),(10,336,1)] false,11,[.int .u64 0, .int .u64 0, .int .u32 0, .int .u8 0, .int .u8 0, .int .u8 0, .int .u8 0, .nilFunc, .pointer none, .int .i32 0, .int .i32 0]⟩/\
  ew prog 339=some ⟨.struct [(0,9,1)] true,1,[.string ⟨#[]⟩]⟩/\
  ew prog 340=some ⟨.struct [(0,9,1)] true,1,[.string ⟨#[]⟩]⟩:=by
  repeat' apply And.intro
  all_goals kernel_rfl
def mixed:prog.follows .mixedOrders=true:=by kernel_rfl
def dj.nilRow{x:o1}{s:St}{a:Act}{w:World}{m:k6}(h:dj x s a w m)(r t:Nat)(e:TypeId)(sz:Nat)(z:0<sz)(E:s.f t= .lit (.slice none 0 0)):
 dj x ((s.renew r ⟨sz,[],e,true⟩ false).put (some t) (.row r (s.vs r+1))) a w ⟨m.S,mc m.ρ r (.slice none 0 0)⟩:=by
 have l:=h.renew r ⟨sz,[],e,true⟩ false (.slice none 0 0) m.S (N9 _ _) (fun b o d=>⟨d, .rfl⟩) (fun b o d=> .inl d) (fun k f I u g q=>⟨rfl,by simp[Value.ownBlock],fun o d=>d⟩)
  (.inl ⟨z,fun i H y=>by simp at y,⟨[],by simp only[aw];exact Ov _ _ _ _,by simp,fun i j c D=>by simp[bs]at D⟩,(fun y=>by simp[St.renew,aw]at y),(fun g q=>by simp[aw,Value.ownBlock]at q),(fun _ g q=>by simp[aw,Value.ownBlock]at q)⟩) (fun b _=>⟨rfl,fun _ d=>d,by simp[Value.ownBlock]⟩)
 refine { l with ZU:=l.ZU,ZR:=l.ZR,slot:=fun p=> ?_,rows:=fun G n u=> ?_ }
 ·have A:RL w ⟨m.S,mc m.ρ r (.slice none 0 0)⟩ (s.renew r ⟨sz,[],e,true⟩ false) (a.tmps.getD p undef) (mc (s.renew r ⟨sz,[],e,true⟩ false).f t (.row r (s.vs r+1)) p):=by
   by_cases B:p=t
   ·subst B;rw[aw];have v:=h.slot p;rw[E]at v;have v:=v.lit_;rw[v];exact .row r (s.vs r+1) rfl (by simp[St.renew,aw]) fun _ n _=>by simp[aw]
   rw[cD _ _ _ B];exact l.slot p
  exact RL.put A (some t) _
 exact(l.rows G n u).mono (s':=(s.renew r ⟨sz,[],e,true⟩ false).put (some t) (.row r (s.vs r+1))) (fun b o C=>⟨C, .rfl⟩) (fun _=>Lr _) (fun r f _ u=>⟨f,u,rfl,rfl⟩) rfl (fun _ _=>rfl) rfl (fun _ _ _ d=>d)
section
variable {P:Program} {env:b6} {nt:Nat} {Q:Exit->St->Prop} {s:St}
theorem am{c:Code}(r t:Nat)(e:TypeId)(sz:Nat)(h:fk P env nt c Q ((s.renew r ⟨sz,[],e,true⟩ false).put (some t) (.row r (s.vs r+1))))(hsz:0<sz:=by decide)(ht:Is (s.f t) (.lit (.slice none 0 0)):=by simp only[go_sem,reduceIte, ↓reduceIte,Nat.reduceEqDiff,reduceCtorEq];exact iR):fk P env nt c Q s:=
 fun ro x he hn a w _ hS=>h ro x he hn a w _ (hS.nilRow r t e sz hsz ht)
theorem fX.own_nil(e:TypeId)(sz:Nat)(b:0<sz):fX (.lit (.slice none 0 0)) (.own e sz []):=fun S w d v a=>by
 have l:v= .slice none 0 0:=by
  have a:RV S w v (.lit (.slice none 0 0)):=a;cases a;rfl
 subst l;exact⟨[],Ov _ _ _ _,b,⟨by simp,by simp,fun i e h=>by simp at h,fun i j c f=>by simp[bs]at f⟩,fun g k=>by simp[Value.ownBlock]at k⟩
end
end
section
open Go.RowKit
abbrev I(n:Int):AV:= .lit (.int .i64 n)
abbrev U(n:Int):AV:= .lit (.int .u64 n)
abbrev B(b:Bool):AV:= .lit (.bool b)
abbrev Sg(s:List UInt8):AV:= .lit (.string ⟨s.toArray⟩)
abbrev ct:AV:= .lit (.slice none 0 0)
end
section
open Go.RowKit Go.ChangeShapes Go.WideShapes Go.Deep
def De{a:Type}(size:Nat)(R:List Value->a->Prop)(xs:List Value)(l:List a):Prop:=
 xs.length=l.length*size/\ ∀i (h:i<l.length),R ((xs.drop (i*size)).take size) l[i]
def eU{b:Type}(w:World)(B size:Nat)(R:List Value->b->Prop)(v:Value)(l:List b):Prop:=
 ∃A c a,v= .slice A l.length c/\l.length<=c/\l.length<=maxLen/\iS w B size A l.length a/\De size R a l
def Qy{a:Type}{size:Nat}{R:List Value->a->Prop}{xs:List Value}{l:List a}(h:De size R xs l)(i:Nat)(hi:i<l.length):((xs.drop (i*size)).take size).length=size:=by
 have c:=h.1;have b:(i+1)*size<=l.length*size:=M3 _ (by omega);rw[ND,OH]at b;simp;omega
def eU.elem{g:Type}{w:World}{B size:Nat}{R:List Value->g->Prop}{A:Option Addr}{n c:Nat}{l:List g}(h:eU w B size R (.slice A n c) l)(k:Nat)(f:k<l.length):
 ∃b off cs,A=some ⟨b,off,none⟩/\b<B/\R cs l[k]/\cs.length=size/\ ∀j u,cs[j]? =some u->w.cell? ⟨b,off+k*size+j,none⟩=some u:=by
 obtain⟨p,q,r,e,_,_,o,a⟩:=h;cases e;obtain⟨b,off,rfl,i,m⟩:=o.2 (by omega);refine⟨b,off,_,rfl,i,a.2 k f,Qy a k f,fun j u d=> ?_⟩;rw[Ot];apply m;rw[MV]at d;split at d
 ·rw[Ms]at d;exact d
 cases d
def eU.form{a:Type}{w:World}{B size:Nat}{R:List Value->a->Prop}{v:Value}{l:List a}(h:eU w B size R v l): ∃A c,v= .slice A l.length c/\l.length<=c/\l.length<=maxLen:=by
 obtain⟨A,c,f,e,b,d,_⟩:=h;exact⟨A,c,e,b,d⟩
def eU.moved{j:Type}{w g:World}{B size:Nat}{R d:List Value->j->Prop}{v:Value}{l:List j}(h:eU w B size R v l)(q: ∀b off,b<B->g.cell? ⟨b,off,none⟩=w.cell? ⟨b,off,none⟩)(o: ∀cs a,a∈l->R cs a->d cs a):eU g B size d v l:=by
 obtain⟨A,c,r,e,k,m,n,f⟩:=h;exact⟨A,c,r,e,k,m,n.moved q,f.1,fun i p=>o _ _ (N4 _) (f.2 i p)⟩
def eU.wider{g:Type}{w:World}{B b size:Nat}{R d:List Value->g->Prop}{v:Value}{l:List g}(h:eU w B size R v l)(n:B<=b)(o: ∀cs a,a∈l->R cs a->d cs a):eU w b size d v l:=by
 obtain⟨A,c,q,e,j,k,m,f⟩:=h;exact⟨A,c,q,e,j,k,m.wider n,f.1,fun i p=>o _ _ (N4 _) (f.2 i p)⟩
def n9{a:Type}(f:Nat->List a)(size:Nat): ∀n,(∀i,i<n->(f i).length=size)->((List.range n).flatMap f).length=n*size
 |0,_=>by simp
 | n+1,h=>by
   rw[Nn,N8,Ll,n9 f size n (fun i b=>h i (by omega)),ND];simp[h n (by omega)]
def jR{d:Type}(f:Nat->List d)(size:Nat): ∀n,(∀i,i<n->(f i).length=size)-> ∀i,i<n->(((List.range n).flatMap f).drop (i*size)).take size=f i
 |0,_,i,a=>by omega
 | n+1,h,i,a=>by
   have b:=n9 f size n (fun i a=>h i (by omega));rw[Nn,N8];by_cases e:i=n
   ·subst e;rw[<-b,List.drop_left];simp[<-h i (by omega)]
   have c:(i+1)*size<=n*size:=M3 _ (by omega);rw[ND,OH]at c;rw[List.drop_append_of_le_length (by omega),NX (by rw[NP,b];omega)];exact jR f size n (fun i a=>h i (by omega)) i (by omega)
def EE{c:Type}{n:Nat}{p:Nat->c->Prop}(h: ∀i,i<n-> ∃a,p i a): ∃l:List c,l.length=n/\ ∀i (hi:i<l.length),p i l[i]:=by
 induction n with
 |zero=>exact⟨[],rfl,fun i hi=>by simp at hi⟩
 | succ n g=>
   obtain⟨l,b,f⟩:=g (fun i hi=>h i (by omega));obtain⟨a,d⟩:=h n (by omega);refine⟨l++[a],by simp[b],fun i hi=> ?_⟩;by_cases e:i<l.length
   ·rw[List.getElem_append_left e];exact f i e
   have:i=l.length:=by simp at hi;omega
   subst this;simp;rw[b];exact d
section
variable {H:Type} {enc:TypeId×Value->H} {P:Program} {w:World} {base:Nat} {spare:Nat->Bool} {held:Bool}
theorem Rt{α:Type}{t e:TypeId}{size fuel:Nat}{R:List Value->α->Prop}{cs:List Value}{x:DataW H×List MemPlace}(ht:P.underlying t=some (.slice e))(Y:P.cellsOf e=size)(k:0<size)
 (Z: ∀(m:Nat)(cs:List Value)(y:DataW H×List MemPlace),DataW.trod enc P w base spare held m e cs=some y-> ∃a,R cs a)
 (h:DataW.trod enc P w base spare held fuel t cs=some x): ∃v l,cs=[v]/\eU w w.heap.size size R v l:=by
 rcases open_slice ht h with⟨rfl,_⟩|⟨a,c,K,m,n,D,Q,rfl,hb,hl,hm,M,_,U⟩
 ·exact⟨_,[],rfl,none,0,[],rfl,Lr _,Lx _,iS.empty _ _ _ _,by simp,fun i q=>by simp at q⟩
 have hlm:c<=m:=by rw[M];split<;>omega
 rw[Y]at U
 have C: ∀i,∃r:List Value,i<c->w.cells? base (a.add (i*size)) size=some r/\DataW.trod enc P w base spare held n e r=some (D i,Q i):=fun i=>by
  by_cases q:i<c
  ·obtain⟨r,W,X⟩:=U i (by omega);exact⟨r,fun _=>⟨W,X⟩⟩
  exact⟨[],fun h=>absurd h q⟩
 let f:Nat->List Value:=fun i=>(C i).choose
 have I: ∀i,i<c->w.cells? base (a.add (i*size)) size=some (f i)/\DataW.trod enc P w base spare held n e (f i)=some (D i,Q i):=fun i q=>(C i).choose_spec q;have g: ∀i,i<c->(f i).length=size:=fun i q=>(O6 (I i q).1).2.1;obtain⟨l,z,L⟩:=EE (n:=c) (p:=fun i a=>R (f i) a) fun i q=>Z _ _ _ (I i q).2;refine⟨_,l,rfl,some a,K,(List.range c).flatMap f,by rw[z],by omega,by omega,⟨by rw[z,n9 f size c g],fun J=> ?_⟩,by rw[z,n9 f size c g],fun i q=> ?_⟩
 ·rw[z]at J;have V:=O6 (I 0 J).1;have d:=V.2.2 0 k
  have G:a.spot=none:=by
   rw[OP]at d;have:(f 0)[0]? =some ((f 0)[0]'(by rw[g 0 J];exact k)):=Lc _;rw[this]at d;have e:(a.add 0).add 0=a:=rfl;rw[e]at d;unfold World.cell? at d;cases hs:a.spot with
   |none=>rfl
   | some s=>
     rw[hs]at d;split at d<;>simp at d
  obtain⟨b,B,sp⟩:=a;simp only at G;subst G
  have o: ∀j u,((List.range c).flatMap f)[j]? =some u->w.cell? ⟨b,B+j,none⟩=some u:=by
   intro j u N
   have hj:j<c*size:=by
    rcases OO j (c*size) with h|h
    ·exact h
    rw[Lu (by rw[n9 f size c g];exact h)]at N;cases N
   have S:j/size<c:=O4 (by rw[OC];exact hj);have T:j%size<size:=PD _ k;have A:=jR f size c g (j/size) S;have e:j=j/size*size+j%size:=by rw[OC];exact(Nat.div_add_mod j size).symm
   have E:(f (j/size))[j%size]? =some u:=by
    rw[<-A,MV,Lj T,Ms, <-e];exact N
   have:=(O6 (I _ S).1).2.2 (j%size) T;rw[E,add_plain,add_plain,Ot, <-e]at this;exact this
  refine⟨b,B,rfl,?_,o⟩;have O:((List.range c).flatMap f)[0]? =some (((List.range c).flatMap f)[0]'(by rw[n9 f size c g];exact Nat.mul_pos J k)):=Lc _;exact P1 w ⟨b,B+0,none⟩ (o 0 _ O)
 rw[jR f size c g i (by omega)];exact L i q
end
/-! Elements of one cell -/
def LL{b:Type}(f:b->Value)(cs:List Value)(a:b):Prop:=cs=[f a]
def He{b:Type}{f:b->Value}{l:List b}{xs:List Value}(h:De 1 (LL f) xs l):xs=l.map f:=by
 apply List.ext_getElem
 ·simpa using h.1
 intro i c d;have e:i<l.length:=by simpa using d
 have:=h.2 i e;unfold LL at this;rw[PG]at this;have a:((xs.drop i).take 1)[0]? =some (f l[i]):=by rw[this];rfl
 rw[MV,Lj (by omega),Ms,OA,Lc c]at a;simpa using a
def eU.one{b:Type}{w:World}{B:Nat}{f:b->Value}{v:Value}{l:List b}(h:eU w B 1 (LL f) v l): ∃A c,v= .slice A l.length c/\l.length<=c/\l.length<=maxLen/\iS w B 1 A l.length (l.map f):=by
 obtain⟨A,c,j,e,d,g,a,i⟩:=h;rw[He i]at a;exact⟨A,c,e,d,g,a⟩
section
variable {H:Type} {enc:TypeId×Value->H} {P:Program} {w:World} {base:Nat} {spare:Nat->Bool} {held:Bool}
end
end
section
open Go.RowKit
def Qx(S:Nat->Nat->Prop)(w:World):List Value->List AV->Prop
 |[],[]=>True
 |v::b,c::a=>(v.oneCell'=true/\RV S w v c)/\Qx S w b a
 |_,_=>False
def Sl(S:Nat->Nat->Prop)(w:World):List Value->List AV->Prop
 |[],[]=>True
 |v::b,c::a=>RV S w v c/\Sl S w b a
 |_,_=>False
section
variable {S:Nat->Nat->Prop} {w:World}
theorem Qx.at_: ∀ {vs:List Value}{cs:List AV},Qx S w vs cs->vs.length=cs.length/\ ∀(i:Nat)(v:Value)(c:AV),vs[i]? =some v->cs[i]? =some c->v.oneCell'=true/\RV S w v c
 |[],[],_=>⟨rfl,fun i v c h _=>by simp at h⟩
 | v::vs,c::cs,⟨h,g⟩=>by
   obtain⟨e,f⟩:=Qx.at_ g;refine⟨by simp[e],fun i u d b a=> ?_⟩;cases i with
   | zero=>
     simp only[M9,Le]at b a;subst b a;exact h
   |succ i=>exact f i u d (by simpa using b) (by simpa using a)
 |[],_::_,h=>h.elim
 |_::_,[],h=>h.elim
theorem Sl.at_: ∀ {vs:List Value}{cs:List AV},Sl S w vs cs->vs.length=cs.length/\ ∀(i:Nat)(v:Value)(c:AV),vs[i]? =some v->cs[i]? =some c->RV S w v c
 |[],[],_=>⟨rfl,fun i v c h _=>by simp at h⟩
 | v::vs,c::cs,⟨h,g⟩=>by
   obtain⟨e,f⟩:=Sl.at_ g;refine⟨by simp[e],fun i u d b a=> ?_⟩;cases i with
   | zero=>
     simp only[M9,Le]at b a;subst b a;exact h
   |succ i=>exact f i u d (by simpa using b) (by simpa using a)
 |[],_::_,h=>h.elim
 |_::_,[],h=>h.elim
theorem Qx.agg{vs:List Value}{cs:List AV}(h:Qx S w vs cs):RV S w (.agg vs.toArray) (.agg cs):=by
 obtain⟨d,b⟩:=h.at_;refine .agg vs cs d (fun v a=> ?_) fun i v c a e=>(b i v c a e).2;obtain⟨i,f,rfl⟩:=NC a;exact(b i _ _ (Lc f) (Lc (by omega))).1
theorem RV.lit_inv{v u:Value}(h:RV S w v (.lit u)):v=u:=by
 cases h;rfl
end
def ED{y:Type}{w:World}{B size:Nat}{R:List Value->y->Prop}{v:Value}{l:List y}(enc:y->List AV)(J: ∀a,(enc a).length=size)(h:eU w B size R v l)
 (E: ∀cs a,a∈l->R cs a-> ∀(j:Nat)(u:Value)(c:AV),cs[j]? =some u->(enc a)[j]? =some c->u.oneCell'=true/\RV (fun b _=>b<B) w u c):RV (fun b _=>b<B) w v (.seq size (l.map enc)):=by
 obtain⟨A,c,n,rfl,o,K,I,g⟩:=h
 have q: ∀(i:Nat)(e:List AV),(l.map enc)[i]? =some e->e.length=size:=fun i e m=>by
  rw[Lo]at m;cases D:l[i]? with
  |none=>rw[D]at m;cases m
  |some a=>rw[D]at m;cases m;exact J a
 have r: ∀(i j:Nat)(c:AV),bs (l.map enc) i j=some c-> ∃u,n[i*size+j]? =some u/\u.oneCell'=true/\RV (fun b _=>b<B) w u c:=fun i j c f=>by
  have d:=eH q f;rw[ME]at d
  have H:(enc (l[i]'d.1))[j]? =some c:=by
   unfold bs at f;rw[Lo,Lc d.1]at f;exact f
  have C:=Qy g i d.1;have p:((n.drop (i*size)).take size)[j]? =some (((n.drop (i*size)).take size)[j]'(by omega)):=Lc _;refine⟨_,?_,E _ _ (N4 d.1) (g.2 i d.1) j _ c p H⟩;rw[<-p,MV,Lj d.2,Ms]
 by_cases z:l=[]
 ·subst z;exact .seq A 0 c size [] 0 0 (fun _ _=>undef) rfl (Lx _) (fun h=>by omega) (fun i e m=>by simp at m) (fun i j c o=>by simp[bs]at o) (fun i j c o=>by simp[bs]at o)
 obtain⟨b,x,rfl,G,k⟩:=I.2 (NG.2 z);refine .seq _ _ c size _ b x (fun i j=>n.getD (i*size+j) undef) (by simp) o (fun _=>rfl) q (fun i j c f=> ?_) fun i j c f=> ?_
 ·obtain⟨u,s,t,_⟩:=r i j c f;have:n.getD (i*size+j) undef=u:=by simp[List.getD,s]
  rw[this];exact⟨G,k _ u s,t⟩
 obtain⟨u,s,_,t⟩:=r i j c f;have:n.getD (i*size+j) undef=u:=by simp[List.getD,s]
 rw[this];exact t
end
section
open Go.RowKit Go.Stop
def Re(w:World)(a:Addr):Prop:= ∃(b:Array Value) (c:TypeId),w.heap[a.block]? =some (.cells b c (0,0))
def Qn(w:World)(g:Nat)(a:Addr):Prop:=w.cell? ⟨g,0,none⟩=some (.iface 324 (.pointer (some a)))/\Re w a
def l7(w:World)(a:Addr):Nat->Value->Prop
 |0,E=>E= .iface 324 (.pointer (some a))/\Re w a
 |n+1,E=> ∃(c d:Nat) (b:Value),E= .iface 138 (.pointer (some ⟨c,d,none⟩))/\w.cell? ⟨c,d+2,none⟩=some b/\l7 w a n b
def Re.lt{w:World}{a:Addr}(h:Re w a):a.block<w.heap.size:=by
 obtain⟨c,d,h⟩:=h;by_cases b:a.block<w.heap.size
 ·exact b
 rw[OX (by omega)]at h;cases h
def Re.below{w b:World}{a:Addr}(h:Re w a)(d:Below w.heap.size w b):Re b a:=by
 have:=h.lt;obtain⟨c,e,h⟩:=h;exact⟨c,e,(d.block _ this).trans h⟩
def mJ{w:World}{b o:Nat}{v:Value}(h:w.cell? ⟨b,o,none⟩=some v):b<w.heap.size:=P1 w ⟨b,o,none⟩ h
def sw{w a:World}{b o:Nat}{v:Value}(h:w.cell? ⟨b,o,none⟩=some v)(c:Below w.heap.size w a):a.cell? ⟨b,o,none⟩=some v:=
 (c.cell (p:=⟨b,o,none⟩) (mJ h)).trans h
def Qn.below{w c:World}{g:Nat}{a:Addr}(h:Qn w g a)(b:Below w.heap.size w c):Qn c g a:=⟨sw h.1 b,h.2.below b⟩
def l7.below{w c:World}{a:Addr}(b:Below w.heap.size w c): ∀ {n:Nat}{E:Value},l7 w a n E->l7 c a n E
 |0,_,h=>⟨h.1,h.2.below b⟩
 |_+1,_,⟨i,j,d,e,f,g⟩=>⟨i,j,d,e,sw f b,l7.below b g⟩
def l7.form{w:World}{a:Addr}{n:Nat}{E:Value}(h:l7 w a n E): ∃t v,E= .iface t v:=by
 cases n with
 |zero=>exact⟨_,_,h.1⟩
 |succ n=>exact⟨_,_,h.choose_spec.choose_spec.choose_spec.1⟩
def l7.new{w:World}{g:Nat}{a:Addr}(h:Qn w g a)(s:ByteArray)(p:Int):
 l7 (w.alloc (.cells #[.string s, .int .i64 p, .iface 324 (.pointer (some a))] 140)) a 1 (.iface 138 (.pointer (some ⟨w.heap.size,0,none⟩))):=
 ⟨_,0,_,rfl,(g8.new w 140 _).cell 2,rfl,h.2.below ((N9 _ _).alloc (Lr _) _)⟩
def l7.wrap{w:World}{a:Addr}{n:Nat}{E:Value}(h:l7 w a n E)(s:ByteArray)(p:Int):
 l7 (w.alloc (.cells #[.string s, .int .i64 p,E] 140)) a (n+1) (.iface 138 (.pointer (some ⟨w.heap.size,0,none⟩))):=
 ⟨_,0,_,rfl,(g8.new w 140 _).cell 2,h.below ((N9 _ _).alloc (Lr _) _)⟩
/-! Closed facts -/
end
section
open Go.RowKit
attribute [local go_sem_proc ↓] reduceIte
attribute [local go_sem_proc] reduceCtorEq Nat.reduceBEq Nat.reduceAdd Nat.reduceSub Nat.reduceEqDiff Nat.reduceLT Nat.reduceLeDiff Nat.reduceMul Int.reduceToNat Int.reduceBEq Int.reduceBNe Int.reduceEq Int.reduceLT Int.reduceLE
attribute [local go_sem] E3 uv BF qM ya mB qh mF List.isEmpty_cons Array.isEmpty_iff sf wX nS qL mD iJ eN wY jU lA fv j8 yV cK qr j3 Rd.map AV.bare AV.bare.bareL AV.ofVal ag gS iy cP bp IT bB ba E0 wZ EZ BI JJ BG mE E2 BA BH EY sj BD E1 BB nU BE nT BC si JI w5 JG JH Cl Cm Iz JB EP JA EM EN EO D2 yO yI xg D5 LG xy LJ val iE dx seen AV.plain AV.soft JT kf Rd.run AV.asCells lm KK um Rd.row Rd.bind Out.app dd tb.app St.renew St.setRow St.show St.put St.init mc oo ux HD qy cY uw jK yc gA gB ou ot sv oq iY j9 ut eR mC jB eE fz cX eF hP cS dt m9 wc Value.oneCell' List.getD_cons_zero List.getD_cons_succ List.getD_nil List.length_cons List.length_nil List.map_cons List.map_nil List.nil_append List.cons_append List.all_cons List.all_nil List.getElem?_cons_zero List.getElem?_cons_succ List.set_cons_zero List.set_cons_succ List.take_succ_cons List.take_zero List.drop_succ_cons List.drop_zero List.take_nil List.drop_nil List.replicate_succ List.replicate_zero Bool.and_true Bool.true_and Bool.and_self and_self true_and and_true Nat.zero_add Nat.add_zero Option.some.injEq Nat.zero_lt_succ Bool.not_true Bool.not_false ne_eq not_true_eq_false not_false_eq_true Option.map_some Option.map_none List.toList_toArray head mj ao List.length_map Int.toNat_natCast Int.natCast_nonneg List.getElem?_map decide_true decide_false Bool.false_eq_true if_true if_false Bool.or_self Bool.or_true Bool.true_or Bool.false_or Bool.or_false Bool.and_false Bool.false_and List.flatten_cons List.flatten_nil List.append_nil L1 or_self or_false false_or or_true true_or and_false false_and List.length_append List.isEmpty_nil bne_self_eq_false beq_self_eq_true aC Io By tU Int.cast_ofNat_Int gt_iff_lt ge_iff_le
attribute [local go_sem <-] List.map_drop List.map_take
/-! Weaker values -/
def DS.iface{t:TypeId}{b c:AV}(h:DS b c):DS (.iface t b) (.iface t c):=fun S w v a=>by
 cases a with
 |iface _ v _ a=>exact .iface t v c (h S w v a)
def DS.ref1{cs' cs:List AV}{off:Nat}(h:u3 cs' cs):DS (.ref cs.length [cs'] 0 off) (.ref cs.length [cs] 0 off):=fun S w v r=>by
 cases r with
 | ref x s i off b o u t p q=>
   have f: ∀(i j:Nat)(c:AV),bs [cs] i j=some c-> ∃d,bs [cs'] i j=some d/\DS d c:=fun i j c a=>by
    cases i with
    | zero=>
      have m:cs[j]? =some c:=a;have g:j<cs'.length:=by rw[h.1];exact(Ld.1 m).1
      exact⟨cs'[j],Lc g,h.2 j _ c (Lc g) m⟩
    |succ i=>simp[bs]at a
   refine .ref _ [cs] 0 off b o u (fun i e l=>by
    cases i with
    |zero=>simp at l;rw[<-l]
    |succ i=>simp at l) (fun i j c a=> ?_) fun i j c a=> ?_
   ·obtain⟨d,k,_⟩:=f i j c a;exact p i j d k
   obtain⟨d,k,n⟩:=f i j c a;exact n S w _ (q i j d k)
abbrev cf(a:Addr):AV:= .lit (.iface 324 (.pointer (some a)))
abbrev fc(p:Int)(e:AV):AV:= .iface 138 (.ref 3 [[.any,I p,e]] 0 0)
abbrev h8:AV:= .lit .nilIface
def IP(s p:AV)(q:Int)(a:p=I q)(e:AV):fX (.iface 138 (.ref 3 [[s,p,e]] 0 0)) (fc q e):=by
 subst a;exact .of (.iface (.ref1 (cs:=[.any,I q,e]) (.cons (.any _) (.refl _)))) (fun _ _ _ h=>by cases h) (fun _ _ _ h=>by cases h)
def iH{env:b6}{g:Nat}{c:AV}(h:env g=some c)(f:Nat->AV):gt env f (.global g)= .ref 1 [[c]] 0 0:=by simp only[gt,h]
def bh(env:b6)(s:List UInt8)(a:Addr):b7 prog env 45 [Sg s,cf a] (fc (-1) (cf a)):=by
 refine mI func45 rfl call45 (by rw[ntmps45];simp) ?_;rw[ntmps45,results45];repeat (first|refine oO rfl (by simp only[go_sem];exact⟨rfl,rfl⟩) ?_|refine gR ?_|refine gO ?_|refine oZ (kP ?_)|refine oZ ?_|refine oS ?_|refine gT ?_|refine gD mixed ?_|refine oB ?_|refine oK ?_|(refine oX ?_;simp only[bB,ba, ↓reduceIte,Nat.reduceEqDiff,reduceCtorEq]))
 (refine aM ?_;refine⟨_,(by show (ag _ _ _).run _=some _;simp only[go_sem];rfl),?_⟩)
 exact IP _ _ _ rfl _
/-! fault.Code -/
def KB{P:Program}{env:b6}{f:FuncId}{cs:List AV}{u:Value}(a: ∀(args:Array Value)(w:World),(callFunc f args).run P w= .ok (.enter f args) w)
 (h: ∀(w:World)(S:Nat->Nat->Prop)(vs:List Value),tI env S w->vs.length=cs.length->(∀(i:Nat)(v:Value)(c:AV),vs[i]? =some v->cs[i]? =some c->RV S w v c)->Calls P f vs.toArray w fun e k=>e= .returned u/\Below w.heap.size w k):b7 P env f cs (.lit u):=by
 refine⟨a,fun w S vs g l m=>(h w S vs g l m).mono ?_⟩;rintro e k ⟨rfl,j⟩;exact⟨u,rfl,j,S,fun _ _ h=>h,fun _ _ h=> .inl h,fun b o d=>NS (g.low b o d) j.size, .lit _⟩
end
section
open Go.RowKit
attribute [go_sem_proc ↓] reduceIte
attribute [go_sem_proc] reduceCtorEq Nat.reduceBEq Nat.reduceAdd Nat.reduceSub Nat.reduceEqDiff Nat.reduceLT Nat.reduceLeDiff Nat.reduceMul Int.reduceToNat Int.reduceBEq Int.reduceBNe Int.reduceEq Int.reduceLT Int.reduceLE
attribute [go_sem] E3 uv BF qM ya mB qh mF List.isEmpty_cons Array.isEmpty_iff sf wX nS qL mD iJ eN wY jU lA fv j8 yV cK qr j3 Rd.map AV.bare AV.bare.bareL AV.ofVal ag gS iy cP bp IT bB ba E0 wZ EZ BI JJ BG mE E2 BA BH EY sj BD E1 BB nU BE nT BC si JI w5 JG JH Cl Cm Iz JB EP JA EM EN EO D2 yO yI xg D5 LG xy LJ val iE dx seen AV.plain AV.soft JT kf Rd.run AV.asCells lm KK um Rd.row Rd.bind Out.app dd tb.app St.renew St.setRow St.show St.put St.init mc oo ux HD qy cY uw jK yc gA gB ou ot sv oq iY j9 ut eR mC jB eE fz cX eF hP cS dt m9 wc Value.oneCell' List.getD_cons_zero List.getD_cons_succ List.getD_nil List.length_cons List.length_nil List.map_cons List.map_nil List.nil_append List.cons_append List.all_cons List.all_nil List.getElem?_cons_zero List.getElem?_cons_succ List.set_cons_zero List.set_cons_succ List.take_succ_cons List.take_zero List.drop_succ_cons List.drop_zero List.take_nil List.drop_nil List.replicate_succ List.replicate_zero Bool.and_true Bool.true_and Bool.and_self and_self true_and and_true Nat.zero_add Nat.add_zero Option.some.injEq Nat.zero_lt_succ Bool.not_true Bool.not_false ne_eq not_true_eq_false not_false_eq_true Option.map_some Option.map_none List.toList_toArray head mj ao List.length_map Int.toNat_natCast Int.natCast_nonneg List.getElem?_map decide_true decide_false Bool.false_eq_true if_true if_false Bool.or_self Bool.or_true Bool.true_or Bool.false_or Bool.or_false Bool.and_false Bool.false_and List.flatten_cons List.flatten_nil List.append_nil L1 or_self or_false false_or or_true true_or and_false false_and List.length_append List.isEmpty_nil bne_self_eq_false beq_self_eq_true aC Io By tU Int.cast_ofNat_Int gt_iff_lt ge_iff_le
attribute [go_sem <-] List.map_drop List.map_take
end
end Go.Proofs.YtknkhdgfhbogdaaGreatDoor
