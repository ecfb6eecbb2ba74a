/- The facts of evaluation. No program is named here. -/
import Derived.Test.YtfcdkaolcdglmaaGreatDoorProg
import Derived.Test.YtfcdkaolcdglmaaGreatDoorP4
import Derived.Lib.SmallJoins
import Derived.Stop.Asserts
set_option maxRecDepth 100000
set_option maxHeartbeats 1000000
set_option linter.unusedSimpArgs false
set_option linter.defProp false
namespace Go.Proofs.YtfcdkaolcdglmaaGreatDoor
open Go.Proofs.Tryz
section
open Go.RowKit
@[go_sem] theorem Tryz.tyds:eg prog 2=some ⟨.int .i64,1,[.int .i64 0]⟩/\
  eg prog 3=some ⟨.int .i64,1,[.int .i64 0]⟩/\
  eg prog 4=some ⟨.bool,1,[.bool false]⟩/\
  eg prog 5=some ⟨.int .u8,1,[.int .u8 0]⟩/\
  eg prog 6=some ⟨.int .u8,1,[.int .u8 0]⟩/\
  eg prog 7=some ⟨.struct [(0,2,1),(1,3,1),(2,4,1),(3,6,1)] true,4,[.int .i64 0, .int .i64 0, .bool false, .int .u8 0]⟩/\
  eg prog 8=some ⟨.struct [(0,2,1),(1,3,1),(2,4,1),(3,6,1)] true,4,[.int .i64 0, .int .i64 0, .bool false, .int .u8 0]⟩/\
  eg prog 9=some ⟨.string,1,[.string ⟨#[]⟩]⟩/\
  eg prog 10=some ⟨.string,1,[.string ⟨#[]⟩]⟩/\
  eg prog 11=some ⟨.string,1,[.string ⟨#[]⟩]⟩/\
  eg prog 12=some ⟨.int .u64,1,[.int .u64 0]⟩/\
  eg prog 13=some ⟨.struct [(0,9,1),(1,12,1)] false,2,[.string ⟨#[]⟩, .int .u64 0]⟩/\
  eg prog 14=some ⟨.struct [(0,9,1),(1,12,1)] false,2,[.string ⟨#[]⟩, .int .u64 0]⟩/\
  eg prog 15=some ⟨.ptr,1,[.pointer none]⟩/\
  eg prog 16=some ⟨.ptr,1,[.pointer none]⟩/\
  eg prog 17=some ⟨.ptr,1,[.pointer none]⟩/\
  eg prog 18=some ⟨.struct [(0,17,1)] false,1,[.pointer none]⟩/\
  eg prog 19=some ⟨.struct [(0,17,1)] false,1,[.pointer none]⟩/\
  eg prog 20=some ⟨.iface,1,[.nilIface]⟩/\
  eg prog 21=some ⟨.int .i32,1,[.int .i32 0]⟩/\
  eg prog 22=some ⟨.slice 125 2 24 [.string ⟨#[]⟩, .int .i64 0],1,[.slice none 0 0]⟩/\
  eg prog 23=some ⟨.slice 109 6 88 [.string ⟨#[]⟩, .int .i64 0, .int .i64 0, .int .i64 0, .slice none 0 0, .slice none 0 0],1,[.slice none 0 0]⟩/\
  eg prog 24=some ⟨.slice 70 5 80 [.int .i64 0, .string ⟨#[]⟩, .slice none 0 0, .slice none 0 0, .int .i64 0],1,[.slice none 0 0]⟩/\
  eg prog 25=some ⟨.struct [(0,9,1),(1,3,1),(2,22,1),(3,23,1),(4,24,1)] true,5,[.string ⟨#[]⟩, .int .i64 0, .slice none 0 0, .slice none 0 0, .slice none 0 0]⟩/\
  eg prog 26=some ⟨.struct [(0,9,1),(1,3,1),(2,22,1),(3,23,1),(4,24,1)] true,5,[.string ⟨#[]⟩, .int .i64 0, .slice none 0 0, .slice none 0 0, .slice none 0 0]⟩/\
  eg prog 27=some ⟨.slice 81 2 24 [.string ⟨#[]⟩, .int .i64 0],1,[.slice none 0 0]⟩/\
  eg prog 30=some ⟨.ptr,1,[.pointer none]⟩/\
  eg prog 31=some ⟨.iface,1,[.nilIface]⟩/\
  eg prog 32=some ⟨.iface,1,[.nilIface]⟩/\
  eg prog 35=some ⟨.slice 3 1 8 [.int .i64 0],1,[.slice none 0 0]⟩/\
  eg prog 36=some ⟨.slice 93 2 32 [.int .i64 0, .slice none 0 0],1,[.slice none 0 0]⟩/\
  eg prog 37=some ⟨.slice 95 2 24 [.string ⟨#[]⟩, .int .i64 0],1,[.slice none 0 0]⟩/\
  eg prog 38=some ⟨.struct [(0,35,1),(1,35,1),(2,36,1),(3,37,1),(4,4,1)] true,5,[.slice none 0 0, .slice none 0 0, .slice none 0 0, .slice none 0 0, .bool false]⟩/\
  eg prog 39=some ⟨.struct [(0,35,1),(1,35,1),(2,36,1),(3,37,1),(4,4,1)] true,5,[.slice none 0 0, .slice none 0 0, .slice none 0 0, .slice none 0 0, .bool false]⟩/\
  eg prog 40=some ⟨.slice 77 3 40 [.slice none 0 0, .int .i64 0, .bool false],1,[.slice none 0 0]⟩/\
  eg prog 43=some ⟨.struct [(0,3,1),(1,3,1),(2,3,1),(3,39,5)] true,8,[.int .i64 0, .int .i64 0, .int .i64 0, .slice none 0 0, .slice none 0 0, .slice none 0 0, .slice none 0 0, .bool false]⟩/\
  eg prog 44=some ⟨.struct [(0,3,1),(1,3,1),(2,3,1),(3,39,5)] true,8,[.int .i64 0, .int .i64 0, .int .i64 0, .slice none 0 0, .slice none 0 0, .slice none 0 0, .slice none 0 0, .bool false]⟩/\
  eg prog 45=some ⟨.slice 5 1 1 [.int .u8 0],1,[.slice none 0 0]⟩/\
  eg prog 56=some ⟨.ptr,1,[.pointer none]⟩/\
  eg prog 61=some ⟨.slice 9 1 16 [.string ⟨#[]⟩],1,[.slice none 0 0]⟩/\
  eg prog 63=some ⟨.map 73 35 (.slice none 0 0),1,[.map none]⟩/\
  eg prog 64=some ⟨.slice 35 1 24 [.slice none 0 0],1,[.slice none 0 0]⟩/\
  eg prog 65=some ⟨.struct [(0,26,5),(5,56,1),(6,61,1),(7,63,1),(8,64,1)] true,9,[.string ⟨#[]⟩, .int .i64 0, .slice none 0 0, .slice none 0 0, .slice none 0 0, .pointer none, .slice none 0 0, .map none, .slice none 0 0]⟩/\
  eg prog 66=some ⟨.struct [(0,26,5),(5,56,1),(6,61,1),(7,63,1),(8,64,1)] true,9,[.string ⟨#[]⟩, .int .i64 0, .slice none 0 0, .slice none 0 0, .slice none 0 0, .pointer none, .slice none 0 0, .map none, .slice none 0 0]⟩/\
  eg prog 67=some ⟨.slice 129 2 16 [.int .i64 0, .int .i64 0],1,[.slice none 0 0]⟩/\
  eg prog 68=some ⟨.slice 181 4 56 [.int .i64 0, .int .i64 0, .string ⟨#[]⟩, .slice none 0 0],1,[.slice none 0 0]⟩/\
  eg prog 69=some ⟨.struct [(0,3,1),(1,9,1),(2,67,1),(3,68,1),(4,3,1)] true,5,[.int .i64 0, .string ⟨#[]⟩, .slice none 0 0, .slice none 0 0, .int .i64 0]⟩/\
  eg prog 70=some ⟨.struct [(0,3,1),(1,9,1),(2,67,1),(3,68,1),(4,3,1)] true,5,[.int .i64 0, .string ⟨#[]⟩, .slice none 0 0, .slice none 0 0, .int .i64 0]⟩/\
  eg prog 72=some ⟨.struct [(0,3,1),(1,3,1)] true,2,[.int .i64 0, .int .i64 0]⟩/\
  eg prog 73=some ⟨.struct [(0,3,1),(1,3,1)] true,2,[.int .i64 0, .int .i64 0]⟩/\
  eg prog 76=some ⟨.struct [(0,35,1),(1,3,1),(2,4,1)] true,3,[.slice none 0 0, .int .i64 0, .bool false]⟩/\
  eg prog 77=some ⟨.struct [(0,35,1),(1,3,1),(2,4,1)] true,3,[.slice none 0 0, .int .i64 0, .bool false]⟩/\
  eg prog 80=some ⟨.struct [(0,9,1),(1,3,1)] true,2,[.string ⟨#[]⟩, .int .i64 0]⟩/\
  eg prog 81=some ⟨.struct [(0,9,1),(1,3,1)] true,2,[.string ⟨#[]⟩, .int .i64 0]⟩/\
  eg prog 84=some ⟨.ptr,1,[.pointer none]⟩/\
  eg prog 85=some ⟨.struct [(0,45,1),(1,32,1)] false,2,[.slice none 0 0, .nilIface]⟩/\
  eg prog 86=some ⟨.struct [(0,45,1),(1,32,1)] false,2,[.slice none 0 0, .nilIface]⟩/\
  eg prog 88=some ⟨.arr 2 3 1,2,[.int .i64 0, .int .i64 0]⟩/\
  eg prog 92=some ⟨.struct [(0,3,1),(1,35,1)] true,2,[.int .i64 0, .slice none 0 0]⟩/\
  eg prog 93=some ⟨.struct [(0,3,1),(1,35,1)] true,2,[.int .i64 0, .slice none 0 0]⟩/\
  eg prog 94=some ⟨.struct [(0,9,1),(1,3,1)] true,2,[.string ⟨#[]⟩, .int .i64 0]⟩/\
  eg prog 95=some ⟨.struct [(0,9,1),(1,3,1)] true,2,[.string ⟨#[]⟩, .int .i64 0]⟩/\
  eg prog 97=some ⟨.ptr,1,[.pointer none]⟩/\
  eg prog 98=some ⟨.struct [(0,45,1),(1,3,1),(2,4,1)] true,3,[.slice none 0 0, .int .i64 0, .bool false]⟩/\
  eg prog 99=some ⟨.struct [(0,45,1),(1,3,1),(2,4,1)] true,3,[.slice none 0 0, .int .i64 0, .bool false]⟩/\
  eg prog 100=some ⟨.struct [(0,99,3)] true,3,[.slice none 0 0, .int .i64 0, .bool false]⟩/\
  eg prog 101=some ⟨.struct [(0,99,3)] true,3,[.slice none 0 0, .int .i64 0, .bool false]⟩/\
  eg prog 108=some ⟨.struct [(0,9,1),(1,3,1),(2,3,1),(3,3,1),(4,68,1),(5,68,1)] true,6,[.string ⟨#[]⟩, .int .i64 0, .int .i64 0, .int .i64 0, .slice none 0 0, .slice none 0 0]⟩/\
  eg prog 109=some ⟨.struct [(0,9,1),(1,3,1),(2,3,1),(3,3,1),(4,68,1),(5,68,1)] true,6,[.string ⟨#[]⟩, .int .i64 0, .int .i64 0, .int .i64 0, .slice none 0 0, .slice none 0 0]⟩/\
  eg prog 113=some ⟨.slice 115 1 4 [.int .u32 0],1,[.slice none 0 0]⟩/\
  eg prog 114=some ⟨.int .u32,1,[.int .u32 0]⟩/\
  eg prog 115=some ⟨.int .u32,1,[.int .u32 0]⟩/\
  eg prog 116=some ⟨.struct [(0,35,1),(1,35,1),(2,113,1),(3,113,1),(4,35,1),(5,35,1),(6,115,1)] true,7,[.slice none 0 0, .slice none 0 0, .slice none 0 0, .slice none 0 0, .slice none 0 0, .slice none 0 0, .int .u32 0]⟩/\
  eg prog 117=some ⟨.struct [(0,35,1),(1,35,1),(2,113,1),(3,113,1),(4,35,1),(5,35,1),(6,115,1)] true,7,[.slice none 0 0, .slice none 0 0, .slice none 0 0, .slice none 0 0, .slice none 0 0, .slice none 0 0, .int .u32 0]⟩/\
  eg prog 120=some ⟨.ptr,1,[.pointer none]⟩/\
  eg prog 121=some ⟨.struct [(0,9,1),(1,3,1),(2,32,1)] false,3,[.string ⟨#[]⟩, .int .i64 0, .nilIface]⟩/\
  eg prog 122=some ⟨.struct [(0,9,1),(1,3,1),(2,32,1)] false,3,[.string ⟨#[]⟩, .int .i64 0, .nilIface]⟩/\
  eg prog 124=some ⟨.struct [(0,9,1),(1,3,1)] true,2,[.string ⟨#[]⟩, .int .i64 0]⟩/\
  eg prog 125=some ⟨.struct [(0,9,1),(1,3,1)] true,2,[.string ⟨#[]⟩, .int .i64 0]⟩/\
  eg prog 128=some ⟨.struct [(0,3,1),(1,3,1)] true,2,[.int .i64 0, .int .i64 0]⟩/\
  eg prog 129=some ⟨.struct [(0,3,1),(1,3,1)] true,2,[.int .i64 0, .int .i64 0]⟩/\
  eg prog 137=some ⟨.struct [(0,35,1),(1,27,1)] true,2,[.slice none 0 0, .slice none 0 0]⟩/\
  eg prog 138=some ⟨.struct [(0,35,1),(1,27,1)] true,2,[.slice none 0 0, .slice none 0 0]⟩/\
  eg prog 141=some ⟨.ptr,1,[.pointer none]⟩/\
  eg prog 142=some ⟨.struct [(0,30,1),(1,39,5),(6,27,1),(7,77,3),(10,3,1),(11,3,1),(12,3,1)] true,13,[.pointer none, .slice none 0 0, .slice none 0 0, .slice none 0 0, .slice none 0 0, .bool false, .slice none 0 0, .slice none 0 0, .int .i64 0, .bool false, .int .i64 0, .int .i64 0, .int .i64 0]⟩/\
  eg prog 143=some ⟨.struct [(0,30,1),(1,39,5),(6,27,1),(7,77,3),(10,3,1),(11,3,1),(12,3,1)] true,13,[.pointer none, .slice none 0 0, .slice none 0 0, .slice none 0 0, .slice none 0 0, .bool false, .slice none 0 0, .slice none 0 0, .int .i64 0, .bool false, .int .i64 0, .int .i64 0, .int .i64 0]⟩/\
  eg prog 154=some ⟨.slice 88 2 16 [.int .i64 0, .int .i64 0],1,[.slice none 0 0]⟩/\
  eg prog 156=some ⟨.int .u64,1,[.int .u64 0]⟩/\
  eg prog 158=some ⟨.ptr,1,[.pointer none]⟩/\
  eg prog 180=some ⟨.struct [(0,3,1),(1,3,1),(2,9,1),(3,67,1)] true,4,[.int .i64 0, .int .i64 0, .string ⟨#[]⟩, .slice none 0 0]⟩/\
  eg prog 181=some ⟨.struct [(0,3,1),(1,3,1),(2,9,1),(3,67,1)] true,4,[.int .i64 0, .int .i64 0, .string ⟨#[]⟩, .slice none 0 0]⟩/\
  eg prog 184=some ⟨.int .u64,1,[.int .u64 0]⟩/\
  eg prog 187=some ⟨.ptr,1,[.pointer none]⟩/\
  eg prog 188=some ⟨.struct [(0,39,5),(5,138,2),(7,30,1),(8,26,5),(13,3,1),(14,3,1)] true,15,[.slice none 0 0, .slice none 0 0, .slice none 0 0, .slice none 0 0, .bool false, .slice none 0 0, .slice none 0 0, .pointer none, .string ⟨#[]⟩, .int .i64 0, .slice none 0 0, .slice none 0 0, .slice none 0 0, .int .i64 0, .int .i64 0]⟩/\
  eg prog 189=some ⟨.struct [(0,39,5),(5,138,2),(7,30,1),(8,26,5),(13,3,1),(14,3,1)] true,15,[.slice none 0 0, .slice none 0 0, .slice none 0 0, .slice none 0 0, .bool false, .slice none 0 0, .slice none 0 0, .pointer none, .string ⟨#[]⟩, .int .i64 0, .slice none 0 0, .slice none 0 0, .slice none 0 0, .int .i64 0, .int .i64 0]⟩/\
  eg prog 199=some ⟨.slice 4 1 1 [.bool false],1,[.slice none 0 0]⟩/\
  eg prog 208=some ⟨.arr 32 5 1,32,[.int .u8 0, .int .u8 0, .int .u8 0, .int .u8 0, .int .u8 0, .int .u8 0, .int .u8 0, .int .u8 0, .int .u8 0, .int .u8 0, .int .u8 0, .int .u8 0, .int .u8 0, .int .u8 0, .int .u8 0, .int .u8 0, .int .u8 0, .int .u8 0, .int .u8 0, .int .u8 0, .int .u8 0, .int .u8 0, .int .u8 0, .int .u8 0, .int .u8 0, .int .u8 0, .int .u8 0, .int .u8 0, .int .u8 0, .int .u8 0, .int .u8 0, .int .u8 0]⟩/\
  eg prog 210=some ⟨.int .i64,1,[.int .i64 0]⟩/\
  eg prog 229=some ⟨.int .u64,1,[.int .u64 0]⟩/\
  eg prog 233=some ⟨.ptr,1,[.pointer none]⟩/\
  eg prog 246=some ⟨.ptr,1,[.pointer none]⟩/\
  eg prog 251=some ⟨.struct [(0,35,1),(1,3,1),(2,199,1)] true,3,[.slice none 0 0, .int .i64 0, .slice none 0 0]⟩/\
  eg prog 252=some ⟨.struct [(0,35,1),(1,3,1),(2,199,1)] true,3,[.slice none 0 0, .int .i64 0, .slice none 0 0]⟩/\
  eg prog 261=some ⟨.map 3 3 (.int .i64 0),1,[.map none]⟩/\
  eg prog 307=some ⟨.ptr,1,[.pointer none]⟩/\
  eg prog 308=some ⟨.struct [(0,17,1),(1,17,1),(2,17,1),(3,9,1)] false,4,[.pointer none, .pointer none, .pointer none, .string ⟨#[]⟩]⟩/\
  eg prog 309=some ⟨.struct [(0,17,1),(1,17,1),(2,17,1),(3,9,1)] false,4,[.pointer none, .pointer none, .pointer none, .string ⟨#[]⟩]⟩/\
  eg prog 310=some ⟨.arr 0 16 1,0,[]⟩/\
  eg prog 311=some ⟨.struct [(0,310,0)] false,0,[]⟩/\
  eg prog 312=some ⟨.struct [(0,310,0)] false,0,[]⟩/\
  eg prog 313=some ⟨.int .u8,1,[.int .u8 0]⟩/\
  eg prog 314=some ⟨.int .u8,1,[.int .u8 0]⟩/\
  eg prog 316=some ⟨.ptr,1,[.pointer none]⟩/\
  eg prog 317=some ⟨.int .i32,1,[.int .i32 0]⟩/\
  eg prog 318=some ⟨.int .i32,1,[.int .i32 0]⟩/\
  eg prog 319=some ⟨.struct [(0,12,1),(1,12,1),(2,114,1),(3,313,1),(4,5,1),(5,5,1),(6,314,1),(7,315,1),(8,316,1),(9,317,1),(10,318,1)] false,11,[.int .u64 0, .int .u64 0, .int .u32 0, .int .u8 0, .int .u8 0, .int .u8 0, .int .u8 0, .nilFunc, .pointer none, .int .i32 0, .int .i32 0]⟩/\
  eg prog 320=some ⟨.struct [(0,12,1),(1,12,1),(2,114,1),(3,313,1),(4,5,1),(5,5,1),(6,314,1),(7,315,1),(8,316,1),(9,317,1),(10,318,1)] false,11,[.int .u64 0, .int .u64 0, .int .u32 0, .int .u8 0, .int .u8 0, .int .u8 0, .int .u8 0, .nilFunc, .pointer none, .int .i32 0, .int .i32 0]⟩/\
  eg prog 321=some ⟨.struct [(0,9,1)] true,1,[.string ⟨#[]⟩]⟩/\
  eg prog 322=some ⟨.struct [(0,9,1)] true,1,[.string ⟨#[]⟩]⟩:=by
  repeat' apply And.intro
  all_goals kernel_rfl
def mixed:prog.follows .mixedOrders=true:=by kernel_rfl
def dk.nilRow{x:rk}{s:St}{a:Act}{w:World}{m:k9}(h:dk x s a w m)(r t:Nat)(e:TypeId)(sz:Nat)(y:0<sz)(D:s.f t= .lit (.slice none 0 0)):
 dk x ((s.renew r ⟨sz,[],e,true⟩ false).put (some t) (.row r (s.vs r+1))) a w ⟨m.S,na m.ρ r (.slice none 0 0)⟩:=by
 have l:=h.renew r ⟨sz,[],e,true⟩ false (.slice none 0 0) m.S (Oy _ _) (fun b o d=>⟨d, .rfl⟩) (fun b o d=> .inl d) (fun k f H q g p=>⟨rfl,by simp[Value.ownBlock],fun o d=>d⟩)
  (.inl ⟨y,fun i G v=>by simp at v,⟨[],by simp only[aE];exact Pr _ _ _ _,by simp,fun i j c C=>by simp[bt]at C⟩,(fun v=>by simp[St.renew,aE]at v),(fun g p=>by simp[aE,Value.ownBlock]at p),(fun _ g p=>by simp[aE,Value.ownBlock]at p)⟩) (fun b _=>⟨rfl,fun _ d=>d,by simp[Value.ownBlock]⟩)
 refine { l with ZT:=l.ZT,ZP:=l.ZP,slot:=fun n=> ?_,rows:=fun E row q=> ?_ }
 ·have z:RL w ⟨m.S,na m.ρ r (.slice none 0 0)⟩ (s.renew r ⟨sz,[],e,true⟩ false) (a.tmps.getD n undef) (na (s.renew r ⟨sz,[],e,true⟩ false).f t (.row r (s.vs r+1)) n):=by
   by_cases A:n=t
   ·subst A;rw[aE];have u:=h.slot n;rw[D]at u;have u:=u.lit_;rw[u];exact .row r (s.vs r+1) rfl (by simp[St.renew,aE]) fun _ row _=>by simp[aE]
   rw[ct _ _ _ A];exact l.slot n
  exact RL.put z (some t) _
 exact(l.rows E row q).mono (s':=(s.renew r ⟨sz,[],e,true⟩ false).put (some t) (.row r (s.vs r+1))) (fun b o B=>⟨B, .rfl⟩) (fun _=>OO _) (fun r f _ q=>⟨f,q,rfl,rfl⟩) rfl (fun _ _=>rfl) rfl (fun _ _ _ d=>d)
section
variable {P:Program} {env:b7} {nt:Nat} {Q:Exit->St->Prop} {s:St}
theorem am{c:Code}(r t:Nat)(e:TypeId)(sz:Nat)(h:gu P env nt c Q ((s.renew r ⟨sz,[],e,true⟩ false).put (some t) (.row r (s.vs r+1))))(hsz:0<sz:=by decide)(ht:Is (s.f t) (.lit (.slice none 0 0)):=by simp only[go_sem,reduceIte, ↓reduceIte,Nat.reduceEqDiff,reduceCtorEq];exact iR):gu P env nt c Q s:=
 fun ro x he hn a w _ hS=>h ro x he hn a w _ (hS.nilRow r t e sz hsz ht)
theorem i8.own_nil(e:TypeId)(sz:Nat)(b:0<sz):i8 (.lit (.slice none 0 0)) (.own e sz []):=fun S w d v a=>by
 have l:v= .slice none 0 0:=by
  have a:RV S w v (.lit (.slice none 0 0)):=a;cases a;rfl
 subst l;exact⟨[],Pr _ _ _ _,b,⟨by simp,by simp,fun i e h=>by simp at h,fun i j c f=>by simp[bt]at f⟩,fun g k=>by simp[Value.ownBlock]at k⟩
end
end
section
open Go.RowKit
abbrev I(n:Int):AV:= .lit (.int .i64 n)
abbrev U(n:Int):AV:= .lit (.int .u64 n)
abbrev B(b:Bool):AV:= .lit (.bool b)
abbrev Sg(s:List UInt8):AV:= .lit (.string ⟨s.toArray⟩)
abbrev Bs(l:List UInt8):AV:= .seq 1 (l.map Vy)
abbrev gb:AV:= .lit (.slice none 0 0)
end
section
open Go.RowKit Go.ChangeShapes Go.WideShapes Go.Deep
def eY{a:Type}(size:Nat)(R:List Value->a->Prop)(xs:List Value)(l:List a):Prop:=
 xs.length=l.length*size/\ ∀i (h:i<l.length),R ((xs.drop (i*size)).take size) l[i]
def aV{b:Type}(w:World)(B size:Nat)(R:List Value->b->Prop)(v:Value)(l:List b):Prop:=
 ∃A c a,v= .slice A l.length c/\l.length<=c/\l.length<=maxLen/\c0 w B size A l.length a/\eY size R a l
def U2{a:Type}{size:Nat}{R:List Value->a->Prop}{xs:List Value}{l:List a}(h:eY size R xs l)(i:Nat)(hi:i<l.length):((xs.drop (i*size)).take size).length=size:=by
 have c:=h.1;have b:(i+1)*size<=l.length*size:=Oz _ (by omega);rw[P7,Q7]at b;simp;omega
def aV.elem{g:Type}{w:World}{B size:Nat}{R:List Value->g->Prop}{A:Option Addr}{n c:Nat}{l:List g}(h:aV w B size R (.slice A n c) l)(k:Nat)(f:k<l.length):
 ∃b off cs,A=some ⟨b,off,none⟩/\b<B/\R cs l[k]/\cs.length=size/\ ∀j u,cs[j]? =some u->w.cell? ⟨b,off+k*size+j,none⟩=some u:=by
 obtain⟨p,q,r,e,_,_,o,a⟩:=h;cases e;obtain⟨b,off,rfl,i,m⟩:=o.2 (by omega);refine⟨b,off,_,rfl,i,a.2 k f,U2 a k f,fun j u d=> ?_⟩;rw[QY];apply m;rw[Om]at d;split at d
 ·rw[PY]at d;exact d
 cases d
def aV.form{a:Type}{w:World}{B size:Nat}{R:List Value->a->Prop}{v:Value}{l:List a}(h:aV w B size R v l): ∃A c,v= .slice A l.length c/\l.length<=c/\l.length<=maxLen:=by
 obtain⟨A,c,f,e,b,d,_⟩:=h;exact⟨A,c,e,b,d⟩
def aV.moved{g:Type}{w w':World}{B size:Nat}{R d:List Value->g->Prop}{v:Value}{l:List g}(h:aV w B size R v l)(p: ∀b off,b<B->w'.cell? ⟨b,off,none⟩=w.cell? ⟨b,off,none⟩)(n: ∀cs a,a∈l->R cs a->d cs a):aV w' B size d v l:=by
 obtain⟨A,c,q,e,j,k,m,f⟩:=h;exact⟨A,c,q,e,j,k,m.moved p,f.1,fun i o=>n _ _ (PV _) (f.2 i o)⟩
def aV.wider{f:Type}{w:World}{B B' size:Nat}{R b:List Value->f->Prop}{v:Value}{l:List f}(h:aV w B size R v l)(m:B<=B')(n: ∀cs a,a∈l->R cs a->b cs a):aV w B' size b v l:=by
 obtain⟨A,c,p,e,g,j,k,d⟩:=h;exact⟨A,c,p,e,g,j,k.wider m,d.1,fun i o=>n _ _ (PV _) (d.2 i o)⟩
def sT{a:Type}(f:Nat->List a)(size:Nat): ∀n,(∀i,i<n->(f i).length=size)->((List.range n).flatMap f).length=n*size
 |0,_=>by simp
 | n+1,h=>by
   rw[Qe,QC,ON,sT f size n (fun i b=>h i (by omega)),P7];simp[h n (by omega)]
def j7{d:Type}(f:Nat->List d)(size:Nat): ∀n,(∀i,i<n->(f i).length=size)-> ∀i,i<n->(((List.range n).flatMap f).drop (i*size)).take size=f i
 |0,_,i,a=>by omega
 | n+1,h,i,a=>by
   have b:=sT f size n (fun i a=>h i (by omega));rw[Qe,QC];by_cases e:i=n
   ·subst e;rw[<-b,List.drop_left];simp[<-h i (by omega)]
   have c:(i+1)*size<=n*size:=Oz _ (by omega);rw[P7,Q7]at c;rw[List.drop_append_of_le_length (by omega),Px (by rw[QF,b];omega)];exact j7 f size n (fun i a=>h i (by omega)) i (by omega)
def Lx{c:Type}{n:Nat}{p:Nat->c->Prop}(h: ∀i,i<n-> ∃a,p i a): ∃l:List c,l.length=n/\ ∀i (hi:i<l.length),p i l[i]:=by
 induction n with
 |zero=>exact⟨[],rfl,fun i hi=>by simp at hi⟩
 | succ n g=>
   obtain⟨l,b,f⟩:=g (fun i hi=>h i (by omega));obtain⟨a,d⟩:=h n (by omega);refine⟨l++[a],by simp[b],fun i hi=> ?_⟩;by_cases e:i<l.length
   ·rw[List.getElem_append_left e];exact f i e
   have:i=l.length:=by simp at hi;omega
   subst this;simp;rw[b];exact d
section
variable {H:Type} {enc:TypeId×Value->H} {P:Program} {w:World} {base:Nat} {spare:Nat->Bool} {held:Bool}
theorem Vp{α:Type}{t e:TypeId}{size fuel:Nat}{R:List Value->α->Prop}{cs:List Value}{x:DataW H×List MemPlace}(ht:P.underlying t=some (.slice e))(X:P.cellsOf e=size)(k:0<size)
 (Y: ∀(m:Nat)(cs:List Value)(y:DataW H×List MemPlace),DataW.trod enc P w base spare held m e cs=some y-> ∃a,R cs a)
 (h:DataW.trod enc P w base spare held fuel t cs=some x): ∃v l,cs=[v]/\aV w w.heap.size size R v l:=by
 rcases open_slice ht h with⟨rfl,_⟩|⟨a,c,J,m,n,D,O,rfl,hb,hl,hm,L,_,T⟩
 ·exact⟨_,[],rfl,none,0,[],rfl,OO _,O6 _,c0.empty _ _ _ _,by simp,fun i q=>by simp at q⟩
 have hlm:c<=m:=by rw[L];split<;>omega
 rw[X]at T
 have B: ∀i,∃r:List Value,i<c->w.cells? base (a.add (i*size)) size=some r/\DataW.trod enc P w base spare held n e r=some (D i,O i):=fun i=>by
  by_cases q:i<c
  ·obtain⟨r,V,W⟩:=T i (by omega);exact⟨r,fun _=>⟨V,W⟩⟩
  exact⟨[],fun h=>absurd h q⟩
 let f:Nat->List Value:=fun i=>(B i).choose
 have G: ∀i,i<c->w.cells? base (a.add (i*size)) size=some (f i)/\DataW.trod enc P w base spare held n e (f i)=some (D i,O i):=fun i q=>(B i).choose_spec q;have g: ∀i,i<c->(f i).length=size:=fun i q=>(TJ (G i q).1).2.1;obtain⟨l,z,K⟩:=Lx (n:=c) (p:=fun i a=>R (f i) a) fun i q=>Y _ _ _ (G i q).2;refine⟨_,l,rfl,some a,J,(List.range c).flatMap f,by rw[z],by omega,by omega,⟨by rw[z,sT f size c g],fun I=> ?_⟩,by rw[z,sT f size c g],fun i q=> ?_⟩
 ·rw[z]at I;have U:=TJ (G 0 I).1;have d:=U.2.2 0 k
  have E:a.spot=none:=by
   rw[Qp]at d;have:(f 0)[0]? =some ((f 0)[0]'(by rw[g 0 I];exact k)):=OE _;rw[this]at d;have e:(a.add 0).add 0=a:=rfl;rw[e]at d;unfold World.cell? at d;cases hs:a.spot with
   |none=>rfl
   | some s=>
     rw[hs]at d;split at d<;>simp at d
  obtain⟨b,off,sp⟩:=a;simp only at E;subst E
  have o: ∀j u,((List.range c).flatMap f)[j]? =some u->w.cell? ⟨b,off+j,none⟩=some u:=by
   intro j u M
   have Z:j<c*size:=by
    rcases QN j (c*size) with h|h
    ·exact h
    rw[OT (by rw[sT f size c g];exact h)]at M;cases M
   have Q:j/size<c:=RH (by rw[QU];exact Z);have S:j%size<size:=Rt _ k;have A:=j7 f size c g (j/size) Q;have e:j=j/size*size+j%size:=by rw[QU];exact(Nat.div_add_mod j size).symm
   have C:(f (j/size))[j%size]? =some u:=by
    rw[<-A,Om,OL S,PY, <-e];exact M
   have:=(TJ (G _ Q).1).2.2 (j%size) S;rw[C,add_plain,add_plain,QY, <-e]at this;exact this
  refine⟨b,off,rfl,?_,o⟩;have N:((List.range c).flatMap f)[0]? =some (((List.range c).flatMap f)[0]'(by rw[sT f size c g];exact Nat.mul_pos I k)):=OE _;exact World.block_lt_of_cell? w ⟨b,off+0,none⟩ (o 0 _ N)
 rw[j7 f size c g i (by omega)];exact K i q
end
/-! Elements of one cell -/
def Ii{b:Type}(f:b->Value)(cs:List Value)(a:b):Prop:=cs=[f a]
def PB{a:Type}(f:a->Value)(l:List a):eY 1 (Ii f) (l.map f) l:=by
 refine⟨by simp,fun i d=> ?_⟩;rw[RJ];apply List.ext_getElem
 ·simp;omega
 intro j c b;have:j=0:=by simpa using b
 subst this;simp
def JS{b:Type}{f:b->Value}{l:List b}{xs:List Value}(h:eY 1 (Ii f) xs l):xs=l.map f:=by
 apply List.ext_getElem
 ·simpa using h.1
 intro i c d;have e:i<l.length:=by simpa using d
 have:=h.2 i e;unfold Ii at this;rw[RJ]at this;have a:((xs.drop i).take 1)[0]? =some (f l[i]):=by rw[this];rfl
 rw[Om,OL (by omega),PY,QT,OE c]at a;simpa using a
def aV.one{b:Type}{w:World}{B:Nat}{f:b->Value}{v:Value}{l:List b}(h:aV w B 1 (Ii f) v l): ∃A c,v= .slice A l.length c/\l.length<=c/\l.length<=maxLen/\c0 w B 1 A l.length (l.map f):=by
 obtain⟨A,c,j,e,d,g,a,i⟩:=h;rw[JS i]at a;exact⟨A,c,e,d,g,a⟩
def aV.of_one{b:Type}{w:World}{B:Nat}{f:b->Value}{l:List b}{A:Option Addr}{n c:Nat}(g:l.length=n)(a:n<=c)(d:c<=maxLen)(e:c0 w B 1 A n (l.map f)):aV w B 1 (Ii f) (.slice A n c) l:=by
 subst g;exact⟨A,c,_,rfl,a,O3 a d,e,PB f l⟩
abbrev Um:List Value->Int->Prop:=Ii (Value.int .i64)
abbrev Vd:List Value->UInt8->Prop:=Ii fun b=> .int .u8 (b.toNat:Int)
section
variable {H:Type} {enc:TypeId×Value->H} {P:Program} {w:World} {base:Nat} {spare:Nat->Bool} {held:Bool}
end
end
section
open Go.RowKit
def UW(S:Nat->Nat->Prop)(w:World):List Value->List AV->Prop
 |[],[]=>True
 |v::b,c::a=>(v.oneCell'=true/\RV S w v c)/\UW S w b a
 |_,_=>False
def VX(S:Nat->Nat->Prop)(w:World):List Value->List AV->Prop
 |[],[]=>True
 |v::b,c::a=>RV S w v c/\VX S w b a
 |_,_=>False
section
variable {S:Nat->Nat->Prop} {w:World}
theorem UW.at_: ∀ {vs:List Value}{cs:List AV},UW S w vs cs->vs.length=cs.length/\ ∀(i:Nat)(v:Value)(c:AV),vs[i]? =some v->cs[i]? =some c->v.oneCell'=true/\RV S w v c
 |[],[],_=>⟨rfl,fun i v c h _=>by simp at h⟩
 | v::vs,c::cs,⟨h,g⟩=>by
   obtain⟨e,f⟩:=UW.at_ g;refine⟨by simp[e],fun i u d b a=> ?_⟩;cases i with
   | zero=>
     simp only[PK,OH]at b a;subst b a;exact h
   |succ i=>exact f i u d (by simpa using b) (by simpa using a)
 |[],_::_,h=>h.elim
 |_::_,[],h=>h.elim
theorem VX.at_: ∀ {vs:List Value}{cs:List AV},VX S w vs cs->vs.length=cs.length/\ ∀(i:Nat)(v:Value)(c:AV),vs[i]? =some v->cs[i]? =some c->RV S w v c
 |[],[],_=>⟨rfl,fun i v c h _=>by simp at h⟩
 | v::vs,c::cs,⟨h,g⟩=>by
   obtain⟨e,f⟩:=VX.at_ g;refine⟨by simp[e],fun i u d b a=> ?_⟩;cases i with
   | zero=>
     simp only[PK,OH]at b a;subst b a;exact h
   |succ i=>exact f i u d (by simpa using b) (by simpa using a)
 |[],_::_,h=>h.elim
 |_::_,[],h=>h.elim
theorem UW.agg{vs:List Value}{cs:List AV}(h:UW S w vs cs):RV S w (.agg vs.toArray) (.agg cs):=by
 obtain⟨d,b⟩:=h.at_;refine .agg vs cs d (fun v a=> ?_) fun i v c a e=>(b i v c a e).2;obtain⟨i,f,rfl⟩:=Pe a;exact(b i _ _ (OE f) (OE (by omega))).1
theorem RV.agg_inv{v:Value}{cs:List AV}(h:RV S w v (.agg cs)): ∃vs:List Value,v= .agg vs.toArray/\vs.length=cs.length/\ ∀(i:Nat)(u:Value)(c:AV),vs[i]? =some u->cs[i]? =some c->u.oneCell'=true/\RV S w u c:=by
 cases h with
 |agg vs _ h d e=>exact⟨vs,rfl,h,fun i u c b a=>⟨d u (OM b),e i u c b a⟩⟩
theorem RV.lit_inv{v u:Value}(h:RV S w v (.lit u)):v=u:=by
 cases h;rfl
end
def uM{z:Type}{S:Nat->Nat->Prop}{w:World}{B size:Nat}{R:List Value->z->Prop}{v:Value}{l:List z}(enc:z->List AV)(L: ∀a,(enc a).length=size)(h:aV w B size R v l)
 (H: ∀b off n c,v= .slice (some ⟨b,off,none⟩) n c->b<B-> ∀o,S b o)
 (G: ∀cs a,a∈l->R cs a-> ∀(j:Nat)(u:Value)(c:AV),cs[j]? =some u->(enc a)[j]? =some c->u.oneCell'=true/\RV S w u c):RV S w v (.seq size (l.map enc)):=by
 obtain⟨A,c,p,rfl,q,M,K,g⟩:=h
 have s: ∀(i:Nat)(e:List AV),(l.map enc)[i]? =some e->e.length=size:=fun i e m=>by
  rw[OS]at m;cases E:l[i]? with
  |none=>rw[E]at m;cases m
  |some a=>rw[E]at m;cases m;exact L a
 have t: ∀(i j:Nat)(c:AV),bt (l.map enc) i j=some c-> ∃u,p[i*size+j]? =some u/\u.oneCell'=true/\RV S w u c:=fun i j c f=>by
  have d:=eL s f;rw[O4]at d
  have J:(enc (l[i]'d.1))[j]? =some c:=by
   unfold bt at f;rw[OS,OE d.1]at f;exact f
  have D:=U2 g i d.1;have r:((p.drop (i*size)).take size)[j]? =some (((p.drop (i*size)).take size)[j]'(by omega)):=OE _;refine⟨_,?_,G _ _ (PV d.1) (g.2 i d.1) j _ c r J⟩;rw[<-r,Om,OL d.2,PY]
 by_cases C:l=[]
 ·subst C;exact .seq A 0 c size [] 0 0 (fun _ _=>undef) rfl (O6 _) (fun h=>by omega) (fun i e m=>by simp at m) (fun i j c q=>by simp[bt]at q) (fun i j c q=>by simp[bt]at q)
 obtain⟨b,off,rfl,I,k⟩:=K.2 (QD.2 C);refine .seq _ _ c size _ b off (fun i j=>p.getD (i*size+j) undef) (by simp) q (fun _=>rfl) s (fun i j c f=> ?_) fun i j c f=> ?_
 ·obtain⟨u,x,y,_⟩:=t i j c f;have:p.getD (i*size+j) undef=u:=by simp[List.getD,x]
  rw[this];exact⟨H b off _ _ rfl I _,k _ u x,y⟩
 obtain⟨u,x,_,y⟩:=t i j c f;have:p.getD (i*size+j) undef=u:=by simp[List.getD,x]
 rw[this];exact y
def Lw{d:Type}{w:World}{B size:Nat}{R:List Value->d->Prop}{v:Value}{l:List d}(enc:d->List AV)(g: ∀a,(enc a).length=size)(h:aV w B size R v l)
 (e: ∀cs a,a∈l->R cs a-> ∀(j:Nat)(u:Value)(c:AV),cs[j]? =some u->(enc a)[j]? =some c->u.oneCell'=true/\RV (fun b _=>b<B) w u c):RV (fun b _=>b<B) w v (.seq size (l.map enc)):=
 uM enc g h (fun _ _ _ _ _ f _=>f) e
def Ut{E:Type}{w:World}{B size:Nat}{R:List Value->E->Prop}{v:Value}{l:List E}(enc:E->List AV)(J: ∀a,(enc a).length=size)(I:0<size)(y:l.length<=maxLen)(h:RV (fun b _=>b<B) w v (.seq size (l.map enc)))
 (L: ∀a (cs:List Value),a∈l->cs.length=size->(∀(j:Nat)(u:Value)(c:AV),cs[j]? =some u->(enc a)[j]? =some c->RV (fun b _=>b<B) w u c)->R cs a):aV w B size R v l:=by
 cases h with
 | seq A n z Q P b o u H t K O G N=>
   rw[O4]at H;subst H
   have cell: ∀(i j:Nat)(e:i<l.length)(g:j<size),bt (l.map enc) i j=some ((enc l[i])[j]'(by rw[J];exact g)):=fun i j e g=>by
    unfold bt;rw[OS,OE e];exact OE _
   obtain⟨f,C⟩: ∃f:Nat->List Value,f=fun i=>(List.range size).map (u i):=⟨_,rfl⟩;have d: ∀i,(f i).length=size:=fun i=>by rw[C];simp
   refine⟨A,z,(List.range l.length).flatMap f,rfl,t,y,⟨sT f size _ fun i _=>d i,fun k=>⟨b,o,K k,?_,?_⟩⟩,sT f size _ fun i _=>d i,fun i e=> ?_⟩
   ·exact(G 0 0 _ (cell 0 0 k I)).1
   ·intro j x p
    have D:j<l.length*size:=by
     have:=(OG.1 p).1;rw[sT f size _ fun i _=>d i]at this;exact this
    have e:j/size<l.length:=RH (by rw[QU];exact D);have m:j%size<size:=Rt _ I;have g:j/size*size+j%size=j:=R8 j size;have M:=j7 f size _ (fun i _=>d i) (j/size) e
    have q:(f (j/size))[j%size]? =some x:=by
     rw[<-M,Om,OL m,PY,g];exact p
    have r:x=u (j/size) (j%size):=by
     rw[C]at q;simp[m]at q;exact q.symm
    have:=(G _ _ _ (cell _ _ e m)).2.1;rw[g]at this;rw[r];exact this
   rw[j7 f size _ (fun i _=>d i) i e];refine L _ _ (PV e) (d i) fun j x c p s=> ?_;have g:j<size:=by have:=(OG.1 p).1;rw[d]at this;exact this
   have r:x=u i j:=by
    rw[C]at p;simp[g]at p;exact p.symm
   rw[r];refine N i j c ?_;rw[cell i j e g];rw[OE (by rw[J];exact g)]at s;exact s
end
section
open Go.RowKit Go.Stop
def U7(w:World)(a:Addr):Prop:= ∃(b:Array Value) (c:TypeId),w.heap[a.block]? =some (.cells b c (0,0))
def p'(w:World)(g:Nat)(a:Addr):Prop:=w.cell? ⟨g,0,none⟩=some (.iface 307 (.pointer (some a)))/\U7 w a
def cz(w:World)(a:Addr):Nat->Value->Prop
 |0,E=>E= .iface 307 (.pointer (some a))/\U7 w a
 |n+1,E=> ∃(c d:Nat) (b:Value),E= .iface 120 (.pointer (some ⟨c,d,none⟩))/\w.cell? ⟨c,d+2,none⟩=some b/\cz w a n b
def U7.lt{w:World}{a:Addr}(h:U7 w a):a.block<w.heap.size:=by
 obtain⟨c,d,h⟩:=h;by_cases b:a.block<w.heap.size
 ·exact b
 rw[Qh (by omega)]at h;cases h
def U7.below{w w':World}{a:Addr}(h:U7 w a)(c:Below w.heap.size w w'):U7 w' a:=by
 have:=h.lt;obtain⟨b,d,h⟩:=h;exact⟨b,d,(c.block _ this).trans h⟩
def mT{w:World}{b o:Nat}{v:Value}(h:w.cell? ⟨b,o,none⟩=some v):b<w.heap.size:=World.block_lt_of_cell? w ⟨b,o,none⟩ h
def hH{w w':World}{b o:Nat}{v:Value}(h:w.cell? ⟨b,o,none⟩=some v)(a:Below w.heap.size w w'):w'.cell? ⟨b,o,none⟩=some v:=
 (a.cell (p:=⟨b,o,none⟩) (mT h)).trans h
def p'.below{w w':World}{g:Nat}{a:Addr}(h:p' w g a)(b:Below w.heap.size w w'):p' w' g a:=⟨hH h.1 b,h.2.below b⟩
def cz.below{w w':World}{a:Addr}(b:Below w.heap.size w w'): ∀ {n:Nat}{E:Value},cz w a n E->cz w' a n E
 |0,_,h=>⟨h.1,h.2.below b⟩
 |_+1,_,⟨g,i,c,d,e,f⟩=>⟨g,i,c,d,hH e b,cz.below b f⟩
def cz.form{w:World}{a:Addr}{n:Nat}{E:Value}(h:cz w a n E): ∃t v,E= .iface t v:=by
 cases n with
 |zero=>exact⟨_,_,h.1⟩
 |succ n=>exact⟨_,_,h.choose_spec.choose_spec.choose_spec.1⟩
def cz.new{w:World}{g:Nat}{a:Addr}(h:p' w g a)(s:ByteArray)(p:Int):
 cz (w.alloc (.cells #[.string s, .int .i64 p, .iface 307 (.pointer (some a))] 122)) a 1 (.iface 120 (.pointer (some ⟨w.heap.size,0,none⟩))):=
 ⟨_,0,_,rfl,(cU.new w 122 _).cell 2,rfl,h.2.below ((Oy _ _).alloc (OO _) _)⟩
def cz.wrap{w:World}{a:Addr}{n:Nat}{E:Value}(h:cz w a n E)(s:ByteArray)(p:Int):
 cz (w.alloc (.cells #[.string s, .int .i64 p,E] 122)) a (n+1) (.iface 120 (.pointer (some ⟨w.heap.size,0,none⟩))):=
 ⟨_,0,_,rfl,(cU.new w 122 _).cell 2,h.below ((Oy _ _).alloc (OO _) _)⟩
def cz.stored{w:World}{a:Addr}{b:Nat}{E:Value}(h:cz w a 1 E)(d:E= .iface 120 (.pointer (some ⟨b,0,none⟩))){p:Addr}(l:p.block≠b)(c:p.block≠a.block)(u:Value):cz (w.setCell p u) a 1 E:=by
 obtain⟨m,n,f,e,j,i,g,o,k⟩:=h;rw[d]at e;cases e;refine⟨b,0,f,d,?_,i,g,o,(SK w p u _ (Py c)).trans k⟩;rw[QL w p ⟨b,0+2,none⟩ u (fun e=>l (by rw[e]))];exact j
/-! Closed facts -/
end
section
open Go.RowKit
attribute [local go_sem_proc ↓] reduceIte
attribute [local go_sem_proc] reduceCtorEq Nat.reduceBEq Nat.reduceAdd Nat.reduceSub Nat.reduceEqDiff Nat.reduceLT Nat.reduceLeDiff Nat.reduceMul Int.reduceToNat Int.reduceBEq Int.reduceBNe Int.reduceEq Int.reduceLT Int.reduceLE
attribute [local go_sem] FW vG Bv qp zH mL rP mP List.isEmpty_cons Array.isEmpty_iff tO wt oI qo mN iJ eS wu ja lS fq jm yx cH tR ji Rd.map AV.bare AV.bare.bareL AV.ofVal au gM jB dK cn Tz bR bf FT wv FR CB LG Bw mO FV Bp Bz FQ tQ Bt FU Bq oM Bu oJ Br tP LF ww LD LE Dd De Kv Kx FK Kw FH FI FJ EN yn yg yA ER N9 yV Nc val iH eB seen AV.plain AV.soft Ub kk Rd.run AV.asCells mA Ue DS Rd.row Rd.bind Out.app dd CT.app St.renew St.setRow St.show St.put St.init na pQ vI Ia rX cT vH jS zM fv gA pT pS An pR iW jo vE eV mM jD eI fz cS eJ g4 cO ef o3 Es Value.oneCell' List.getD_cons_zero List.getD_cons_succ List.getD_nil List.length_cons List.length_nil List.map_cons List.map_nil List.nil_append List.cons_append List.all_cons List.all_nil List.getElem?_cons_zero List.getElem?_cons_succ List.set_cons_zero List.set_cons_succ List.take_succ_cons List.take_zero List.drop_succ_cons List.drop_zero List.take_nil List.drop_nil List.replicate_succ List.replicate_zero Bool.and_true Bool.true_and Bool.and_self and_self true_and and_true Nat.zero_add Nat.add_zero Option.some.injEq Nat.zero_lt_succ Bool.not_true Bool.not_false ne_eq not_true_eq_false not_false_eq_true Option.map_some Option.map_none List.toList_toArray head nJ an List.length_map Int.toNat_natCast Int.natCast_nonneg List.getElem?_map decide_true decide_false Bool.false_eq_true if_true if_false Bool.or_self Bool.or_true Bool.true_or Bool.false_or Bool.or_false Bool.and_false Bool.false_and List.flatten_cons List.flatten_nil List.append_nil Ns or_self or_false false_or or_true true_or and_false false_and List.length_append List.isEmpty_nil bne_self_eq_false beq_self_eq_true aG Kk N' DQ Int.cast_ofNat_Int gt_iff_lt ge_iff_le
attribute [local go_sem <-] List.map_drop List.map_take
/-! Weaker values -/
def Tu.iface{t:TypeId}{b c:AV}(h:Tu b c):Tu (.iface t b) (.iface t c):=fun S w v a=>by
 cases a with
 |iface _ v _ a=>exact .iface t v c (h S w v a)
def Tu.ref1{d cs:List AV}{off:Nat}(h:JT d cs):Tu (.ref cs.length [d] 0 off) (.ref cs.length [cs] 0 off):=fun S w v s=>by
 cases s with
 | ref y t i off b o u x q r=>
   have g: ∀(i j:Nat)(c:AV),bt [cs] i j=some c-> ∃f,bt [d] i j=some f/\Tu f c:=fun i j c a=>by
    cases i with
    | zero=>
      have n:cs[j]? =some c:=a;have k:j<d.length:=by rw[h.1];exact(OG.1 n).1
      exact⟨d[j],OE k,h.2 j _ c (OE k) n⟩
    |succ i=>simp[bt]at a
   refine .ref _ [cs] 0 off b o u (fun i e m=>by
    cases i with
    |zero=>simp at m;rw[<-m]
    |succ i=>simp at m) (fun i j c a=> ?_) fun i j c a=> ?_
   ·obtain⟨f,l,_⟩:=g i j c a;exact q i j f l
   obtain⟨f,l,p⟩:=g i j c a;exact p S w _ (r i j f l)
abbrev b6(a:Addr):AV:= .lit (.iface 307 (.pointer (some a)))
abbrev dj(p:Int)(e:AV):AV:= .iface 120 (.ref 3 [[.any,I p,e]] 0 0)
abbrev gc:AV:= .lit .nilIface
def KA(s p:AV)(q:Int)(a:p=I q)(e:AV):i8 (.iface 120 (.ref 3 [[s,p,e]] 0 0)) (dj q e):=by
 subst a;exact .of (.iface (.ref1 (cs:=[.any,I q,e]) (.cons (.any _) (.refl _)))) (fun _ _ _ h=>by cases h) (fun _ _ _ h=>by cases h)
def gS{env:b7}{g:Nat}{c:AV}(h:env g=some c)(f:Nat->AV):gt env f (.global g)= .ref 1 [[c]] 0 0:=by simp only[gt,h]
def bW(env:b7)(s:List UInt8)(a:Addr):cy prog env 29 [Sg s,b6 a] (dj (-1) (b6 a)):=by
 refine mS func29 rfl call29 (by rw[ntmps29];simp) ?_;rw[ntmps29,results29];repeat (first|refine oO rfl (by simp only[go_sem];exact⟨rfl,rfl⟩) ?_|refine gR ?_|refine gO ?_|refine oZ (ki ?_)|refine oZ ?_|refine oS ?_|refine gT ?_|refine gD mixed ?_|refine oB ?_|refine oK ?_|(refine oX ?_;simp only[bR,bf, ↓reduceIte,Nat.reduceEqDiff,reduceCtorEq]))
 (refine aO ?_;refine⟨_,(by show (au _ _ _).run _=some _;simp only[go_sem];rfl),?_⟩)
 exact KA _ _ _ rfl _
/-! fault.Code -/
def F7{P:Program}{env:b7}{f:FuncId}{cs:List AV}{u:Value}(a: ∀(args:Array Value)(w:World),(callFunc f args).run P w= .ok (.enter f args) w)
 (h: ∀(w:World)(S:Nat->Nat->Prop)(vs:List Value),zE env S w->vs.length=cs.length->(∀(i:Nat)(v:Value)(c:AV),vs[i]? =some v->cs[i]? =some c->RV S w v c)->Calls P f vs.toArray w fun e w'=>e= .returned u/\Below w.heap.size w w'):cy P env f cs (.lit u):=by
 refine⟨a,fun w S vs g k l=>(h w S vs g k l).mono ?_⟩;rintro e w' ⟨rfl,j⟩;exact⟨u,rfl,j,S,fun _ _ h=>h,fun _ _ h=> .inl h,fun b o d=>PX (g.low b o d) j.size, .lit _⟩
end
section
open Go.RowKit
attribute [go_sem_proc ↓] reduceIte
attribute [go_sem_proc] reduceCtorEq Nat.reduceBEq Nat.reduceAdd Nat.reduceSub Nat.reduceEqDiff Nat.reduceLT Nat.reduceLeDiff Nat.reduceMul Int.reduceToNat Int.reduceBEq Int.reduceBNe Int.reduceEq Int.reduceLT Int.reduceLE
attribute [go_sem] FW vG Bv qp zH mL rP mP List.isEmpty_cons Array.isEmpty_iff tO wt oI qo mN iJ eS wu ja lS fq jm yx cH tR ji Rd.map AV.bare AV.bare.bareL AV.ofVal au gM jB dK cn Tz bR bf FT wv FR CB LG Bw mO FV Bp Bz FQ tQ Bt FU Bq oM Bu oJ Br tP LF ww LD LE Dd De Kv Kx FK Kw FH FI FJ EN yn yg yA ER N9 yV Nc val iH eB seen AV.plain AV.soft Ub kk Rd.run AV.asCells mA Ue DS Rd.row Rd.bind Out.app dd CT.app St.renew St.setRow St.show St.put St.init na pQ vI Ia rX cT vH jS zM fv gA pT pS An pR iW jo vE eV mM jD eI fz cS eJ g4 cO ef o3 Es Value.oneCell' List.getD_cons_zero List.getD_cons_succ List.getD_nil List.length_cons List.length_nil List.map_cons List.map_nil List.nil_append List.cons_append List.all_cons List.all_nil List.getElem?_cons_zero List.getElem?_cons_succ List.set_cons_zero List.set_cons_succ List.take_succ_cons List.take_zero List.drop_succ_cons List.drop_zero List.take_nil List.drop_nil List.replicate_succ List.replicate_zero Bool.and_true Bool.true_and Bool.and_self and_self true_and and_true Nat.zero_add Nat.add_zero Option.some.injEq Nat.zero_lt_succ Bool.not_true Bool.not_false ne_eq not_true_eq_false not_false_eq_true Option.map_some Option.map_none List.toList_toArray head nJ an List.length_map Int.toNat_natCast Int.natCast_nonneg List.getElem?_map decide_true decide_false Bool.false_eq_true if_true if_false Bool.or_self Bool.or_true Bool.true_or Bool.false_or Bool.or_false Bool.and_false Bool.false_and List.flatten_cons List.flatten_nil List.append_nil Ns or_self or_false false_or or_true true_or and_false false_and List.length_append List.isEmpty_nil bne_self_eq_false beq_self_eq_true aG Kk N' DQ Int.cast_ofNat_Int gt_iff_lt ge_iff_le
attribute [go_sem <-] List.map_drop List.map_take
end
end Go.Proofs.YtfcdkaolcdglmaaGreatDoor
