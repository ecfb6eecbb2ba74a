/- Contracts of the program's checks of a state's parent and shape: by the walk without memory. -/
import Derived.Test.YtfhkmjbjafeckaaGreatDoorP11
import Derived.Test.YtfhkmjbjafeckaaGreatDoorP6
set_option maxRecDepth 100000
set_option maxHeartbeats 8000000
set_option linter.unusedSimpArgs false
set_option linter.defProp false
namespace Go.Proofs.YtfhkmjbjafeckaaGreatDoor
open Go.Proofs.Tryz
section
open Go.RowKit Go.Extern.Stop Go.Stop Go.Extern
def Tryz.asvalueOf27(t:Addr)(w:World):(ReflectliteValue.unpack (.iface 155 (.pointer (some t)))).run prog w
 = .ok (.agg #[.pointer (some ⟨11,155,none⟩), .pointer (some ⟨w.heap.size,0,none⟩), .int .u64 150]) (w.alloc (.cells #[.pointer (some t)] 155)):=by kernel_rfl
def Tryz.astype27(a:Addr)(w:World):(ReflectliteValue.methodAny (ReflectliteValue.valueError "reflectlite.Value.Type" 0) (fun t _ _ _=>ReflectliteType.toType t) #[.agg #[.pointer (some ⟨11,155,none⟩), .pointer (some a), .int .u64 150]]).run prog w
 = .ok (.iface 237 (.agg #[.pointer (some ⟨11,155,none⟩)])) w:=by kernel_rfl
def Tryz.asmethodKind(h:Value)(w:World):(Go.method 500 237 (.agg #[h]) "Kind").run prog w= .ok (345,h) w:=by kernel_rfl
def Tryz.askind27(w:World):((ReflectliteType.abiMethod fun t=>(fun a:Nat=>Value.int IntKind.u8 (a:Int))<$>Rtype.kind t) #[.pointer (some ⟨11,155,none⟩)]).run prog w= .ok (.int .u8 22) w:=by kernel_rfl
def Tryz.askind25(w:World):((ReflectliteType.abiMethod fun t=>(fun a:Nat=>Value.int IntKind.u8 (a:Int))<$>Rtype.kind t) #[.pointer (some ⟨11,134,none⟩)]).run prog w= .ok (.int .u8 22) w:=by kernel_rfl
def Un(z:Sem Value)(f:TypeId->Addr->Nat->Nat->Sem Value)(v:Value):
 ReflectliteValue.method z f #[v]=(do match <-ReflectliteValue.parts v with|none=>z|some (t,a,b)=>f t a b (b%32)):=rfl
def Tryz.asparts27(a:Addr)(w:World):(ReflectliteValue.parts (.agg #[.pointer (some ⟨11,155,none⟩), .pointer (some a), .int .u64 150])).run prog w= .ok (some (155,a,150)) w:=by kernel_rfl
def Tryz.asisNil27(a p:Addr)(W:World)(b:W.cell? a=some (.pointer (some p))):
 (ReflectliteValue.method (ReflectliteValue.valueError "reflectlite.Value.IsNil" 0) ReflectliteValue.isNil #[.agg #[.pointer (some ⟨11,155,none⟩), .pointer (some a), .int .u64 150]]).run prog W= .ok (.bool false) W:=by
 rw[Un];simp only[NZ,Tryz.asparts27,Result.andThen];simp[ReflectliteValue.isNil,loadVar,isAgg,underlying,Tryz.underlying155,b,Result.andThen]
def Tryz.asmethodElem(h:Value)(w:World):(Go.method 500 237 (.agg #[h]) "Elem").run prog w= .ok (356, .agg #[h]) w:=by kernel_rfl
def Tryz.asmethodImplements(h:Value)(w:World):(Go.method 500 237 (.agg #[h]) "Implements").run prog w= .ok (357, .agg #[h]) w:=by kernel_rfl
def Tryz.asmethodAssignableTo(h:Value)(w:World):(Go.method 500 237 (.agg #[h]) "AssignableTo").run prog w= .ok (354, .agg #[h]) w:=by kernel_rfl
def Tryz.aselem27(w:World):(ReflectliteType.method ReflectliteType.elem #[.agg #[.pointer (some ⟨11,155,none⟩)]]).run prog w= .ok (.iface 237 (.agg #[.pointer (some ⟨11,134,none⟩)])) w:=by kernel_rfl
def Tryz.asimplements25(w:World):(ReflectliteType.relation "Implements" ReflectliteType.implements_ #[.agg #[.pointer (some ⟨11,134,none⟩)], .iface 237 (.agg #[.pointer (some ⟨11,40,none⟩)])]).run prog w= .ok (.bool true) w:=by kernel_rfl
def Tryz.astypeOf25(v:Value)(w:World):(ReflectliteType.typeOf #[.iface 134 v]).run prog w= .ok (.iface 237 (.agg #[.pointer (some ⟨11,134,none⟩)])) w:=by kernel_rfl
def Tryz.asassignable25(w:World):(ReflectliteType.relation "AssignableTo" ReflectliteType.assignableTo #[.agg #[.pointer (some ⟨11,134,none⟩)], .iface 237 (.agg #[.pointer (some ⟨11,134,none⟩)])]).run prog w= .ok (.bool true) w:=by kernel_rfl
def Tryz.asvalueOf25(e:Addr)(w:World):(ReflectliteValue.unpack (.iface 134 (.pointer (some e)))).run prog w
 = .ok (.agg #[.pointer (some ⟨11,134,none⟩), .pointer (some ⟨w.heap.size,0,none⟩), .int .u64 150]) (w.alloc (.cells #[.pointer (some e)] 134)):=by kernel_rfl
def Tryz.aselemOf27(w:World):(Rtype.elem? 155).run prog w= .ok (some 134) w:=by kernel_rfl
def Tryz.asmk25(p:Addr)(w:World):(ReflectliteValue.mk 134 p ReflectliteValue.flagAddr).run prog w= .ok (.agg #[.pointer (some ⟨11,134,none⟩), .pointer (some p), .int .u64 406]) w:=by kernel_rfl
def Tryz.aselemV27(a p:Addr)(W:World)(b:W.cell? a=some (.pointer (some p))):
 (ReflectliteValue.method (ReflectliteValue.valueError "reflectlite.Value.Elem" 0) ReflectliteValue.elem #[.agg #[.pointer (some ⟨11,155,none⟩), .pointer (some a), .int .u64 150]]).run prog W
  = .ok (.agg #[.pointer (some ⟨11,134,none⟩), .pointer (some p), .int .u64 406]) W:=by
 rw[Un];simp only[NZ,Tryz.asparts27,Result.andThen];simp[ReflectliteValue.elem,loadVar,isAgg,underlying,Tryz.underlying155,b,Result.andThen,Tryz.aselemOf27,Tryz.asmk25]
def Us(v x:Value):ReflectliteValue.set #[v,x]=(do
 let (some (c,a,d),some (src,b,_)):=(<-ReflectliteValue.parts v, <-ReflectliteValue.parts x)
  |unsupported (.noEntry "extern/(internal/reflectlite.Value).Set.zeroValue")
 if d/ReflectliteValue.flagAddr%2==0 then unsupported (.noEntry "extern/(internal/reflectlite.Value).Set.unaddressable")
 let val <-loadVar src b
 if <-Rtype.directlyAssignable c src then storeVar c a val
 else if <-Rtype.implements c src then
  if (<-Rtype.kind src)==20 then
   match val with
   | .nilIface=>unsupported (.noEntry "extern/reflectlite: a nil value of one interface type handed on as a value of another")
   |_=>storeVar c a val
  else storeVar c a (.iface src val)
 else panicString ("reflectlite.Set: value of type " ++(<-Rtype.spelt src)++ " is not assignable to type " ++(<-Rtype.spelt c))
 pure (.tuple #[])):=rfl
def Tryz.asparts25a(a:Addr)(w:World):(ReflectliteValue.parts (.agg #[.pointer (some ⟨11,134,none⟩), .pointer (some a), .int .u64 406])).run prog w= .ok (some (134,a,406)) w:=by kernel_rfl
def Tryz.asparts25(a:Addr)(w:World):(ReflectliteValue.parts (.agg #[.pointer (some ⟨11,134,none⟩), .pointer (some a), .int .u64 150])).run prog w= .ok (some (134,a,150)) w:=by kernel_rfl
def Tryz.asdirect25(w:World):(Rtype.directlyAssignable 134 134).run prog w= .ok true w:=by kernel_rfl
def Tryz.asset25(a b e:Addr)(c:Value)(W:World)(d:W.cell? b=some (.pointer (some e)))(g:W.cell? a=some c)(f:W.frozen? a=false):
 (ReflectliteValue.set #[.agg #[.pointer (some ⟨11,134,none⟩), .pointer (some a), .int .u64 406], .agg #[.pointer (some ⟨11,134,none⟩), .pointer (some b), .int .u64 150]]).run prog W
  = .ok (.tuple #[]) (W.setCell a (.pointer (some e))):=by
 rw[Us];simp only[NZ,Tryz.asparts25a,Tryz.asparts25,Result.andThen];simp[ReflectliteValue.flagAddr,loadVar,isAgg,underlying,Tryz.underlying134,d,Result.andThen,Tryz.asdirect25,storeVar,Value.cells,storeCells,Addr.add];rw[run_store prog W a _ _ (by rfl)];simp[g,f]
def MS(e t:Addr)(old:Value)(w:World)(hg:w.cell? ⟨9,0,none⟩=some (.iface 237 (.agg #[.pointer (some ⟨11,40,none⟩)])))(ht0:w.cell? t=some old)(hf0:w.frozen? t=false):
 Calls prog 70 #[.iface 134 (.pointer (some e)), .iface 155 (.pointer (some t))] w fun ev w'=>ev= .returned (.bool true)/\w'=((((w.alloc (.cells #[.pointer (some t)] 155)).alloc (.cells #[.pointer (some ⟨11,155,none⟩), .pointer (some ⟨w.heap.size,0,none⟩), .int .u64 150] 210)).alloc (.cells #[.pointer (some ⟨11,155,none⟩), .pointer (some ⟨w.heap.size,0,none⟩), .int .u64 150] 210)).alloc (.cells #[.pointer (some e)] 134)).setCell t (.pointer (some e)):=by
 have h6:=@OC prog 125 _ (fun args=>ReflectliteValue.unpack (args.getD 0 (.tuple #[]))) func125 (by kernel_rfl) (by kernel_rfl) (by kernel_rfl) (by kernel_rfl);have h7:=@OC prog 126 _ (ReflectliteValue.methodAny (ReflectliteValue.valueError "reflectlite.Value.Type" 0) (fun t _ _ _=>ReflectliteType.toType t)) func126 (by kernel_rfl) (by kernel_rfl) (by kernel_rfl) (by kernel_rfl);have h8:=@OC prog 127 _ (ReflectliteValue.method (ReflectliteValue.valueError "reflectlite.Value.IsNil" 0) ReflectliteValue.isNil) func127 (by kernel_rfl) (by kernel_rfl) (by kernel_rfl) (by kernel_rfl);have h27:=@OC prog 345 _ (ReflectliteType.abiMethod fun t=>do pure (.int .u8 (<-Rtype.kind t))) func345 (by kernel_rfl) (by kernel_rfl) (by kernel_rfl) (by kernel_rfl);have h37:=@OC prog 356 _ (ReflectliteType.method ReflectliteType.elem) func356 (by kernel_rfl) (by kernel_rfl) (by kernel_rfl) (by kernel_rfl);have h38:=@OC prog 357 _ (ReflectliteType.relation "Implements" ReflectliteType.implements_) func357 (by kernel_rfl) (by kernel_rfl) (by kernel_rfl) (by kernel_rfl);have h10:=@OC prog 103 _ ReflectliteType.typeOf func103 (by kernel_rfl) (by kernel_rfl) (by kernel_rfl) (by kernel_rfl);have h35:=@OC prog 354 _ (ReflectliteType.relation "AssignableTo" ReflectliteType.assignableTo) func354 (by kernel_rfl) (by kernel_rfl) (by kernel_rfl) (by kernel_rfl);have h11:=@OC prog 179 _ (ReflectliteValue.method (ReflectliteValue.valueError "reflectlite.Value.Elem" 0) ReflectliteValue.elem) func179 (by kernel_rfl) (by kernel_rfl) (by kernel_rfl) (by kernel_rfl);have h12:=@OC prog 180 _ ReflectliteValue.set func180 (by kernel_rfl) (by kernel_rfl) (by kernel_rfl) (by kernel_rfl);have tO:=Tryz.astypeOf25;have mA:=Tryz.asmethodAssignableTo;have a25:=Tryz.asassignable25;have v25:=Tryz.asvalueOf25;have f6:=Tryz.asvalueOf27;have f7:=Tryz.astype27;have mK:=Tryz.asmethodKind;have mE:=Tryz.asmethodElem;have mI:=Tryz.asmethodImplements;have k27:=Tryz.askind27;have k25:=Tryz.askind25;have e27:=Tryz.aselem27;have i25:=Tryz.asimplements25;have n8:=Tryz.asisNil27 ⟨w.heap.size,0,none⟩ t ((w.alloc (.cells #[.pointer (some t)] 155)).alloc (.cells #[.pointer (some ⟨11,155,none⟩), .pointer (some ⟨w.heap.size,0,none⟩), .int .u64 150] 210)) (by simp);have hlt:9<w.heap.size:=ag hg
 have hg2:((w.alloc (.cells #[.pointer (some t)] 155)).alloc (.cells #[.pointer (some ⟨11,155,none⟩), .pointer (some ⟨w.heap.size,0,none⟩), .int .u64 150] 210)).cell? ⟨9,0,none⟩=some (.iface 237 (.agg #[.pointer (some ⟨11,40,none⟩)])):=by
  rw[OU _ _ ⟨9,0,none⟩ (by simp;omega),OU _ _ ⟨9,0,none⟩ hlt];exact hg
 have htl:t.block<w.heap.size:=by
  rcases Pa t.block w.heap.size with h|h
  ·exact h
  simp[World.cell?,P9 h]at ht0
 have el:=Tryz.aselemV27 ⟨w.heap.size,0,none⟩ t (((w.alloc (.cells #[.pointer (some t)] 155)).alloc (.cells #[.pointer (some ⟨11,155,none⟩), .pointer (some ⟨w.heap.size,0,none⟩), .int .u64 150] 210)).alloc (.cells #[.pointer (some ⟨11,155,none⟩), .pointer (some ⟨w.heap.size,0,none⟩), .int .u64 150] 210)) (by rw[OU _ _ ⟨w.heap.size,0,none⟩ (by simp;omega)];simp)
 have st:=Tryz.asset25 t ⟨w.heap.size+1+1+1,0,none⟩ e old ((((w.alloc (.cells #[.pointer (some t)] 155)).alloc (.cells #[.pointer (some ⟨11,155,none⟩), .pointer (some ⟨w.heap.size,0,none⟩), .int .u64 150] 210)).alloc (.cells #[.pointer (some ⟨11,155,none⟩), .pointer (some ⟨w.heap.size,0,none⟩), .int .u64 150] 210)).alloc (.cells #[.pointer (some e)] 134))
  (by rw[World.cell?_alloc_at _ _ _ _ (by simp)];rfl)
  (by rw[OU _ _ t (by simp;omega),OU _ _ t (by simp;omega),OU _ _ t (by simp;omega),OU _ _ t htl];exact ht0)
  (by rw[PC _ _ t (by simp;omega),PC _ _ t (by simp;omega),PC _ _ t (by simp;omega),PC _ _ t (Qv htl)];exact hf0)
 go_enter func70,ntmps70
 go_wp2
 refine Pm 1 ?_;rw[Ow]
 go_wp2
 go_ret
 exact⟨rfl,rfl⟩
end
section
open Go.RowKit
abbrev z6:Value:= .iface 237 (.agg #[.pointer (some ⟨11,40,none⟩)])
abbrev TM(k:Int):Array Value:= #[.string ⟨#[97]⟩, .int .i64 1, .int .i64 (-1), .int .i64 k, .slice none 0 0, .slice none 0 0, .string ⟨#[98]⟩, .int .i64 1, .int .i64 0, .int .i64 (-1), .slice none 0 0, .slice none 0 0]
def zW(w:World)(g:Nat)(k:Int):Prop:= ∀i v,(TM k)[i]? =some v->w.cell? ⟨g,i,none⟩=some v
def zW.below{w a:World}{g:Nat}{k:Int}(h:zW w g k)(b:Below w.heap.size w a):zW a g k:=fun i v c=>dj (h i v c) b
def tS.all{env:b8}{S:Nat->Nat->Prop}{w:World}(h:tS env S w):tS env (fun b _=>b<w.heap.size) w:=⟨h.inv,fun _ _ h=>h,fun g c j=>by
 obtain⟨u,a,d,e,f⟩:=h.env g c j
 exact⟨u,a,d,h.low _ _ e,f.mono fun b o i=>⟨h.low _ _ i, .rfl⟩⟩⟩
def tS.belowA{env:b8}{w e:World}(h:tS env (fun b _=>b<w.heap.size) w)(a:Below w.heap.size w e):tS env (fun b _=>b<e.heap.size) e:=⟨env.up _ _ h.inv a,fun _ _ h=>h,fun g c l=>by
 obtain⟨u,f,i,j,k⟩:=h.env g c l
 exact⟨u,dj f a,i,Oc j a.size,k.mono fun b o (d:b<_)=>⟨Oc d a.size,a.stay d⟩⟩⟩
def Je{P:Program}{env:b8}{f:FuncId}{cs:List AV}{a:AV}{w:World}{vs:List Value}(h:b7 P env f cs a)(k:tS env (fun b _=>b<w.heap.size) w)(d: ∀e sz es,a≠ .own e sz es)(r:T5 (fun b _=>b<w.heap.size) w vs cs):
 Calls P f vs.toArray w fun e c=> ∃v,e= .returned v/\Below w.heap.size w c/\tS env (fun b _=>b<c.heap.size) c/\RV (fun b _=>b<c.heap.size) c v a:=by
 obtain⟨n,p⟩:=r.at_;refine(h.calls w _ vs k n p).mono ?_;rintro e c ⟨v,rfl,l,m,_,_,i,q⟩;refine⟨v,rfl,l,k.belowA l,?_⟩
 have j:RV m c v a:=by
  cases a with
  |own e sz es=>exact(d e sz es rfl).elim
  |_=>exact q
 exact j.mono fun b o g=>⟨i b o g, .rfl⟩
structure fU(env:b8)(a1 a8:Addr):Prop where
 e1:env 0=some (bx a1)
 e8:env 7=some (bx a8)
def iJ(a b:Addr)(l:List l5)(vs ss:Int):AV:=if iY l vs ss=0 then h9 else if iY l vs ss=8 then dt (-1) (bx b) else dt (-1) (bx a)
def uA{l:List l5}(vs ss:Int)(h:32<l.length):iY l vs ss=8:=by unfold iY;rw[Mw h]
def xl{l:List l5}{vs ss:Int}(h: ¬32<l.length)(a:sm vs ss l 0=some 1):iY l vs ss=0:=by unfold iY;rw[Mt h,Mw a]
def pA{l:List l5}{vs ss:Int}(h: ¬32<l.length)(a:sm vs ss l 0≠some 1):iY l vs ss=1:=by unfold iY;rw[Mt h,Mt a]
def wR{vs ss n:Int}{o:l5}(h:cG vs ss n o=true): ¬aF o.kind<0/\ ¬n<aF o.kind/\nG o vs ss=true:=by
 simp only[cG,Mu,NF]at h;exact⟨by omega,by omega,h.2⟩
def sL{vs ss n:Int}{o:l5}(h:cG vs ss n o=false):aF o.kind<0\/(¬aF o.kind<0/\n<aF o.kind)\/(¬aF o.kind<0/\ ¬n<aF o.kind/\nG o vs ss=false):=by
 by_cases a:aF o.kind<0
 ·exact .inl a
 by_cases b:n<aF o.kind
 ·exact .inr (.inl ⟨a,b⟩)
 refine .inr (.inr ⟨a,b,?_⟩);have c:0<=aF o.kind:=by omega
 have d:aF o.kind<=n:=by omega
 simpa[cG,c,d]using h
def gw(env:b8)(a c:Addr)(v:fU env a c)(l:List l5)(vs ss:Int):b7 prog env 245 [sw l,I vs,I ss] (iJ a c l vs ss):=by
 have m:=iT v.e1;have x:=iT v.e8;refine qf func245 call245 ntmps245 results245 ?_;by_cases q:32<l.length
 ·have t:(32:Int)<l.length:=by omega
  rw[show iJ a c l vs ss=dt (-1) (bx c) by unfold iJ;rw[uA vs ss q];rfl];have F:=ai t x;repeat (first|refine st ?_|refine cC (bl env _ c) ?_)
  exact aR
 have t: ¬(32:Int)<l.length:=by omega
 have F:=t;repeat refine st ?_
 refine lp (D:=Nat×Int) (fun d _=>[(1,I vs),(2,I ss),(7,I d.2),(16,sw l),(17,I l.length),(18,I d.1)]) (fun _ _=>[]) (fun d _ _=>d.1<=l.length/\sm vs ss l 0=sm vs ss (l.drop d.1) d.2/\0<=d.2/\d.2<=d.1) (fun d=>l.length-d.1) (0,0) ⟨NG _,rfl,RX _,RX _⟩ ?_;rintro⟨i,n⟩ J w ⟨z,u,y,A⟩;simp only at z u y A;by_cases g:i<l.length
 ·obtain⟨o,p,_⟩:=aS g;obtain⟨E,C⟩:=ou p u;have h:=it g;have j:=aD g (by omega);have B:=jv o.kind;cases b:cG vs ss n o with
  | true=>
    obtain⟨f,k,r⟩:=wR b;have G:IntKind.i64.wrap (1-aF o.kind)=1-aF o.kind:=aW (by omega) (by omega);have H:IntKind.i64.wrap (n+(1-aF o.kind))=n+(1-aF o.kind):=aW (by omega) (by omega);have F:=qr h j p UD f k r G H;repeat refine wc (fZ env o.kind) (jB env o vs ss) ?_
    refine⟨(i+1,n+(1-aF o.kind)),⟨by simp only;omega,?_,by simp only;omega,by simp only;omega⟩,?_,?_,?_⟩
    ·simp only;rw[E b]
     congr 1
     omega
    ·exact qe
    ·exact qe
    simp only;omega
  | false=>
    rw[show iJ a c l vs ss=dt (-1) (bx a) by unfold iJ;rw[pA q (by rw[C b];simp)];rfl];rcases sL b with f|⟨f,k⟩|⟨f,k,r⟩
    ·have F:=i' h j p UD f m;repeat (first|refine st ?_|refine cC (fZ env o.kind) ?_|refine cC (jB env o vs ss) ?_|refine cC (bl env _ a) ?_)
     exact aR
    ·have F:=mc h j p UD f k m;repeat (first|refine st ?_|refine cC (fZ env o.kind) ?_|refine cC (jB env o vs ss) ?_|refine cC (bl env _ a) ?_)
     exact aR
    have F:=n4 h j p UD f k r m;repeat (first|refine st ?_|refine cC (fZ env o.kind) ?_|refine cC (jB env o vs ss) ?_|refine cC (bl env _ a) ?_)
    exact aR
 have h: ¬(i:Int)< (l.length:Int):=by omega
 have e:=tQ (by omega) u;by_cases s:n=1
 ·subst s;rw[show iJ a c l vs ss=h9 by unfold iJ;rw[xl q e];rfl];have F:=ai h m;repeat (first|refine st ?_|refine cC (bl env _ a) ?_)
  exact aR
 rw[show iJ a c l vs ss=dt (-1) (bx a) by unfold iJ;rw[pA q (by rw[e];simpa using s)];rfl];have j:(n != 1)=true:=by simpa using s
 have F:=gb h j m;repeat (first|refine st ?_|refine cC (bl env _ a) ?_)
 exact aR
def kj(env:b8)(l:List l5)(vs ss:Int):b7 prog env 158 [sw l,I vs,I ss] (I (iY l vs ss)):=by
 refine qf func158 call158 ntmps158 results158 ?_;by_cases k:32<l.length
 ·have q:(32:Int)<l.length:=by omega
  rw[uA vs ss k];have F:=q;exact ek
 have q: ¬(32:Int)<l.length:=by omega
 have F:=q;repeat refine st ?_
 refine lp (D:=Nat×Int) (fun d _=>[(0,sw l),(1,I vs),(2,I ss),(7,I d.2),(8,I d.1)]) (fun _ _=>[]) (fun d _ _=>d.1<=l.length/\sm vs ss l 0=sm vs ss (l.drop d.1) d.2/\0<=d.2/\d.2<=d.1) (fun d=>l.length-d.1) (0,0) ⟨NG _,rfl,RX _,RX _⟩ ?_;rintro⟨i,n⟩ B s ⟨u,r,t,v⟩;simp only at u r t v;by_cases e:i<l.length
 ·obtain⟨o,j,_⟩:=aS e;obtain⟨y,x⟩:=ou j r;have f:=it e;have g:=aD e (by omega);have w:=jv o.kind;cases a:cG vs ss n o with
  | true=>
    obtain⟨c,h,m⟩:=wR a;have z:IntKind.i64.wrap (n-aF o.kind)=n-aF o.kind:=aW (by omega) (by omega);have A:IntKind.i64.wrap (n-aF o.kind+1)=n-aF o.kind+1:=aW (by omega) (by omega);have F:=qr f g j UD c h m z A;repeat refine wc (dp env o.kind) (iy env o vs ss) ?_
    refine⟨(i+1,n-aF o.kind+1),⟨by simp only;omega,y a,by simp only;omega,by simp only;omega⟩,?_,?_,?_⟩
    ·exact qe
    ·exact qe
    simp only;omega
  | false=>
    rw[pA k (by rw[x a];simp)];rcases sL a with c|⟨c,h⟩|⟨c,h,m⟩
    ·have F:=g9 f g j UD c;exact mw (dp env o.kind) (iy env o vs ss)
    ·have F:=i' f g j UD c h;exact mw (dp env o.kind) (iy env o vs ss)
    have F:=mc f g j UD c h m;exact mw (dp env o.kind) (iy env o vs ss)
 have f: ¬(i:Int)< (l.length:Int):=by omega
 have b:=tQ (by omega) r;by_cases p:n=1
 ·subst p;rw[xl k b];have F:=f;exact ek
 rw[pA k (by rw[b];simpa using p)];have g:(n != 1)=true:=by simpa using p
 have F:=ai f g;exact ek
def aB(k:Nat):List AV:=[I k]
def Ux:=@aB.eq_1
abbrev SY(l:List Nat):AV:= .seq 1 (l.map aB)
def idxFrom:List Nat->Int->Nat->Int
 |[],_,_=> -1
 |x::l,v,k=>if (x:Int)=v then k else idxFrom l v (k+1)
def Dr(l:List Nat)(v:Int):Int:=idxFrom l v 0
def Br{l:List Nat}{v:Int}{k x:Nat}(h:l[k]? =some x)(a:Dr l v=idxFrom (l.drop k) v k):((x:Int)=v->Dr l v=k)/\((x:Int)≠v->Dr l v=idxFrom (l.drop (k+1)) v (k+1)):=by
 have b:k<l.length:=(Mr.1 h).1
 have c:l.drop k=x::l.drop (k+1):=by
  rw[Om b]
  congr 1
  rw[Mq b]at h;exact OV h
 rw[c]at a;simp only[idxFrom]at a;exact⟨fun e=>by rw[a,Mw e],fun e=>by rw[a,Mt e]⟩
def FU{l:List Nat}{v:Int}{k:Nat}(h:l.length<=k)(a:Dr l v=idxFrom (l.drop k) v k):Dr l v= -1:=by
 rw[a,List.drop_eq_nil_of_le h];rfl
def Ee(v:Int): ∀(l:List Nat)(k:Nat),decide (0<=idxFrom l v k)=GS l v
 |[],k=>rfl
 | x::l,k=>by
   have c:=Ee v l (k+1);have b:GS (x::l) v=(((x:Int)==v)||GS l v):=rfl;rw[b, <-c];by_cases e:(x:Int)=v
   ·have a:idxFrom (x::l) v k=k:=Mw e;rw[N4];simp[a,e]
   have a:idxFrom (x::l) v k=idxFrom l v (k+1):=Mt e;rw[N4];simp[a,e]
def H8(env:b8)(l:List Nat)(v:Int)(o:l.length<=1000000):b7 prog env 192 [SY l,I v] (I (Dr l v)):=by
 refine qf func192 call192 ntmps192 results192 ?_;repeat refine m9 ?_
 refine RK l.length (by omega) (fun k _=>[(0,SY l),(1,I v),(7,I l.length),(8,I k)]) (fun _ _=>[]) (fun k _ _=>Dr l v=idxFrom (l.drop k) v k) rfl ?_ ?_
 ·rintro k n c a b j d;obtain⟨x,f,_⟩:=aS a;obtain⟨i,m⟩:=Br f d;by_cases e:(x:Int)=v
  ·rw[i e];have g:(v==(x:Int))=true:=by simp[e]
   have F:=g9 b j g f Ux;exact ek
  have g:(v==(x:Int))=false:=by simpa using fun h=>e h.symm
  have F:=g9 b j g f Ux;repeat refine st ?_
  exact qn (k+1) ⟨a,m e⟩
 rintro n c b d;rw[FU (by omega) d];have F:=b;exact ek
def jz(env:b8)(l:List Nat)(v:Int)(a:l.length<=1000000):b7 prog env 136 [SY l,I v] (B (GS l v)):=by
 have h:=Ee v l 0;refine qf func136 call136 ntmps136 results136 ?_;repeat refine jJ (H8 env l v a) ?_
 (refine aM ?_;show (aj _ _ _).run _=some _;simp only[go_sem])
 exact N6 B h
def sZ(env:b8)(l:List Nat)(v:Int)(n:l.length<=1000000):b7 prog env 98 [SY l,I v] (B (GS l v)):=by
 rw[<-Ee v l 0,show idxFrom l v 0=Dr l v from rfl];refine qf func98 call98 ntmps98 results98 ?_;repeat refine m9 ?_
 refine RK l.length (by omega) (fun k _=>[(0,SY l),(1,I v),(5,I k)]) (fun _ _=>[]) (fun k _ _=>Dr l v=idxFrom (l.drop k) v k) rfl ?_ ?_
 ·rintro k m c a b i d;obtain⟨x,f,_⟩:=aS a;obtain⟨h,j⟩:=Br f d;by_cases e:(x:Int)=v
  ·rw[h e,Ni (Int.natCast_nonneg k)];have g:((x:Int)==v)=true:=by simp[e]
   have F:=g9 b i g f Ux;exact ek
  have g:((x:Int)==v)=false:=by simpa using e
  have F:=g9 b i g f Ux;repeat refine st ?_
  exact qn (k+1) ⟨a,j e⟩
 rintro m c b d;rw[FU (by omega) d];have F:=b;exact ek
/-! Kids -/
def uk{c:aq}{k:Nat}{s:nr}(b:c.Z9[k]? =some s)(i:Int)(a:Bool):dM c i a k=((s.parent==i)&&(!a|| !aU s)):=by unfold dM;rw[b]
def lj{c:aq}{i:Int}{a:Bool}{k:Nat}(h:dM c i a k=true):(bj c i a (k+1)).map aB=(bj c i a k).map aB++[[I k]]:=by
 rw[qt,h,Mw rfl,NA];rfl
def j5{c:aq}{i:Int}{a:Bool}{k:Nat}(h:dM c i a k=false):(bj c i a (k+1)).map aB=(bj c i a k).map aB:=by
 rw[qt,h];simp
def iC(env:b8)(c:aq)(i:Int)(r:c.Z9.length<=1000000):b7 prog env 82 [.agg (aA c),I i] (.own 3 1 ((av c i true).map aB)):=by
 refine qf func82 call82 ntmps82 results82 ?_;have F:=aA.eq_1;repeat refine st ?_
 refine ao 5 5 3 1 ?_;refine aH (D:=Nat) (fun k q=>[(1,I i),(5, .row 5 (q 5)),(9,qa c.Z9),(10,I c.Z9.length),(11,I k)]) (fun k _=>[(5,⟨1,(bj c i true k).map aB,3,true⟩)]) (fun k _ m=>k<=c.Z9.length/\m 5=false) (fun k=>c.Z9.length-k) 0 ?_ ?_ ?_ ?_
 ·exact⟨NG _,rfl⟩
 ·exact qe
 ·(simp only[go_sem,F])
  simp[bj]
 rintro k u m ⟨t,n⟩;by_cases b:k<c.Z9.length
 ·obtain⟨s,h,_⟩:=aS b;have f:=it b;have l:=aD b (by omega);have d:=uk h i true;have o:=dS c i true k;have p:cU ((bj c i true k).length+1) 8:=⟨by omega,by omega⟩;cases e:(s.parent==i) with
  | false=>
    have a:=j5 (show dM c i true k=false by rw[d,e];rfl);have F:=g9 f l h Uw e;repeat refine fc (ju env s) ?_
    refine⟨k+1,⟨b,by simp only[go_sem,n]⟩,?_,?_,?_⟩
    ·exact qe
    ·have F:=i' f l h Uw e a;exact qe
    omega
  | true=>
    cases j:aU s with
    | true=>
      have a:=j5 (show dM c i true k=false by rw[d,e,j];rfl);have F:=i' f l h Uw e j;repeat refine fc (ju env s) ?_
      refine⟨k+1,⟨b,by simp only[go_sem,n]⟩,?_,?_,?_⟩
      ·exact qe
      ·have F:=mc f l h Uw e j a;exact qe
      omega
    | false=>
      have g:=lj (show dM c i true k=true by rw[d,e,j];rfl);have F:=mc f l h Uw e j p;repeat refine fc (ju env s) ?_
      refine⟨k+1,⟨b,by simp only[go_sem,n]⟩,?_,?_,?_⟩
      ·exact qe
      ·have F:=mc f l h Uw e j g;exact qe
      omega
 have f: ¬(k:Int)< (c.Z9.length:Int):=by omega
 obtain rfl:k=c.Z9.length:=by omega
 have F:=ai f n;repeat refine st ?_
 (refine aM ?_;show (aj _ _ _).run _=some _;simp only[go_sem,F])
 rfl
def pk(env:b8)(c:aq)(i:Int)(q:c.Z9.length<=1000000):b7 prog env 150 [.agg (aA c),I i] (.own 3 1 ((av c i false).map aB)):=by
 refine qf func150 call150 ntmps150 results150 ?_;have F:=aA.eq_1;repeat refine st ?_
 refine ao 5 5 3 1 ?_;refine aH (D:=Nat) (fun k p=>[(1,I i),(5, .row 5 (p 5)),(9,qa c.Z9),(10,I c.Z9.length),(11,I k)]) (fun k _=>[(5,⟨1,(bj c i false k).map aB,3,true⟩)]) (fun k _ h=>k<=c.Z9.length/\h 5=false) (fun k=>c.Z9.length-k) 0 ?_ ?_ ?_ ?_
 ·exact⟨NG _,rfl⟩
 ·exact qe
 ·(simp only[go_sem,F])
  simp[bj]
 rintro k t h ⟨r,m⟩;by_cases a:k<c.Z9.length
 ·obtain⟨s,j,_⟩:=aS a;have g:=it a;have l:=aD a (by omega);have b:=uk j i false;have n:=dS c i false k;have o:cU ((bj c i false k).length+1) 8:=⟨by omega,by omega⟩;cases f:(s.parent==i) with
  | false=>
    have e:=j5 (show dM c i false k=false by rw[b,f];rfl);have F:=g9 g l j Uw f;repeat refine st ?_
    refine⟨k+1,⟨a,by simp only[go_sem,m]⟩,?_,?_,?_⟩
    ·exact qe
    ·have F:=i' g l j Uw f e;exact qe
    omega
  | true=>
    have d:=lj (show dM c i false k=true by rw[b,f];rfl);have F:=i' g l j Uw f o;repeat refine st ?_
    refine⟨k+1,⟨a,by simp only[go_sem,m]⟩,?_,?_,?_⟩
    ·exact qe
    ·have F:=i' g l j Uw f d;exact qe
    omega
 have g: ¬(k:Int)< (c.Z9.length:Int):=by omega
 obtain rfl:k=c.Z9.length:=by omega
 have F:=ai g m;repeat refine st ?_
 (refine aM ?_;show (aj _ _ _).run _=some _;simp only[go_sem,F])
 rfl
def bh(env:b8)(c:aq)(i:Int)(a:Bool)(t:c.Z9.length<=1000000):b7 prog env 97 [.agg (aA c),I i,B a] (.own 3 1 ((av c i a).map aB)):=by
 refine qf func97 call97 ntmps97 results97 ?_;have F:=aA.eq_1;repeat refine st ?_
 refine aH (D:=Nat) (fun k r=>[(1,I i),(2,B a),(3, .loc 3 (r 3) 0 0),(7, .row 9 (r 9)),(8,I k)]) (fun k _=>[(3,⟨5,[aA c],26,false⟩),(9,⟨1,(bj c i a k).map aB,3,true⟩)]) (fun k _ n=>k<=c.Z9.length/\n 9=false) (fun k=>c.Z9.length-k) 0 ?_ ?_ ?_ ?_
 ·exact⟨NG _,rfl⟩
 ·exact qe
 ·(simp only[go_sem,F])
  simp[bj]
 rintro k v n ⟨u,o⟩;by_cases b:k<c.Z9.length
 ·obtain⟨s,j,_⟩:=aS b;have h:=it b;have l:=aD b (by omega);have f:=uk j i a;have q:=dS c i a k;have p:cU ((bj c i a k).length+1) 8:=⟨by omega,by omega⟩;cases g:(s.parent==i) with
  | false=>
    have e:=j5 (show dM c i a k=false by rw[f,g];rfl);have F:=i' Uv h l j Uw g;repeat refine fc (bu env s) ?_
    refine⟨k+1,⟨b,by simp only[go_sem,o]⟩,?_,?_,?_⟩
    ·exact qe
    ·have F:=mc Uv h l j Uw g e;exact qe
    omega
  | true=>
    cases a with
    | false=>
      have d:=lj (show dM c i false k=true by rw[f,g];rfl);have F:=mc Uv h l j Uw g p;repeat refine fc (bu env s) ?_
      refine⟨k+1,⟨b,by simp only[go_sem,o]⟩,?_,?_,?_⟩
      ·exact qe
      ·have F:=mc Uv h l j Uw g d;exact qe
      omega
    | true=>
      cases m:aU s with
      | true=>
        have e:=j5 (show dM c i true k=false by rw[f,g,m];rfl);have F:=mc Uv h l j Uw g m;repeat refine fc (bu env s) ?_
        refine⟨k+1,⟨b,by simp only[go_sem,o]⟩,?_,?_,?_⟩
        ·exact qe
        ·have F:=n4 Uv h l j Uw g m e;exact qe
        omega
      | false=>
        have d:=lj (show dM c i true k=true by rw[f,g,m];rfl);have F:=n4 Uv h l j Uw g m p;repeat refine fc (bu env s) ?_
        refine⟨k+1,⟨b,by simp only[go_sem,o]⟩,?_,?_,?_⟩
        ·exact qe
        ·have F:=n4 Uv h l j Uw g m d;exact qe
        omega
 have h: ¬(k:Int)< (c.Z9.length:Int):=by omega
 obtain rfl:k=c.Z9.length:=by omega
 have F:=gb Uv h o;repeat refine st ?_
 (refine aM ?_;show (aj _ _ _).run _=some _;simp only[go_sem,F])
 rfl
/-! The state of a name -/
def HB(env:b8)(c:aq)(a:List UInt8)(l:c.Z9.length<=1000000):b7 prog env 203 [.agg (aA c),Sg a] (I (wH c a)):=by
 refine qf func203 call203 ntmps203 results203 ?_;have F:=aA.eq_1;repeat refine st ?_
 refine lq c.Z9.length (by omega) (fun k _=>[(1,Sg a),(8,qa c.Z9),(9,I c.Z9.length),(10,I k)]) (fun _ _=>[]) (fun k _ _=>e9 c a k= -1) rfl ?_ ?_
 ·rintro k j h b g i e;obtain⟨s,f,_⟩:=aS b;cases d:(s.name==a) with
  | true=>
    rw[xX c a b e s f (by simpa using d)];have F:=g9 g i f Uw d;exact ek
  | false=>
    have F:=g9 g i f Uw d;repeat refine st ?_
    exact qn (k+1) ⟨b,rB c a e s f (by simpa using d)⟩
 rintro j h g e;rw[show wH c a= -1 from e];have F:=g;exact ek
def Gj(env:b8)(c:aq)(a:List UInt8)(m:c.Z9.length<=1000000):b7 prog env 95 [.agg (aA c),Sg a] (I (wH c a)):=by
 refine qf func95 call95 ntmps95 results95 ?_;have F:=aA.eq_1;repeat refine st ?_
 refine lq c.Z9.length (by omega) (fun k j=>[(1,Sg a),(2, .loc 2 (j 2) 0 0),(5,I k)]) (fun _ _=>[(2,⟨5,[aA c],26,false⟩)]) (fun k _ _=>e9 c a k= -1) rfl ?_ ?_
 ·rintro k l h b g i e;obtain⟨s,f,_⟩:=aS b;cases d:(s.name==a) with
  | true=>
    rw[xX c a b e s f (by simpa using d)];have F:=i' Uv g i f Uw d;exact ek
  | false=>
    have F:=i' Uv g i f Uw d;repeat refine st ?_
    exact qn (k+1) ⟨b,rB c a e s f (by simpa using d)⟩
 rintro l h g e;rw[show wH c a= -1 from e];have F:=ai Uv g;exact ek
def wh(env:b8)(d e:Addr)(g:fU env d e)(c:aq)(l:List l5):b7 prog env 207 [.agg (aA c),sw l] (B (br l c.vars.length c.Z9.length)):=by
 have a:=gw env d e g l c.vars.length c.Z9.length;unfold iJ at a;refine qf func207 call207 ntmps207 results207 ?_;by_cases b:iY l c.vars.length c.Z9.length=0
 ·rw[Mw b]at a;rw[show br l c.vars.length c.Z9.length=true by simp[br,b]];have F:=aA.eq_1;exact hH a
 rw[Mt b]at a;rw[show br l c.vars.length c.Z9.length=false by simp[br,b]];by_cases f:iY l c.vars.length c.Z9.length=8
 ·rw[Mw f]at a;have F:=aA.eq_1;exact hH a
 rw[Mt f]at a;have F:=aA.eq_1;exact hH a
def d5{a b:Int}(h:a≠b):(a==b)=false:=by simpa using h
def Iw(env:b8)(g i:Addr)(z:fU env g i)(c:aq)(a:j')(y:a.name.length<=9223372036854775807):b7 prog env 244 [.agg (aA c), .agg (bB a)] (B (gM c.vars.length c.Z9.length a)):=by
 obtain⟨k,n,m,co⟩:=a;have b:=wh env g i z c co;have d:=eC env m y;refine qf func244 call244 ntmps244 results244 ?_
 have e:((co.length:Int)==0)=(co == []):=by
  rw[N4];simp
 have A: ∀p q:Prop,[Decidable p]->[Decidable q]->decide (p/\q)=(decide p&&decide q):=fun p q=>SB p q;by_cases f:k=1\/k=2\/k=3\/k=4\/k=5
 ·rcases f with rfl|rfl|rfl|rfl|rfl
  all_goals
   have F:=g9 Uv UF gM.eq_1 e A;exact mw b d
 simp only[Rj]at f;obtain⟨j,l,o,r,s⟩:=f;rw[show gM c.vars.length c.Z9.length ⟨k,n,m,co⟩=false by unfold gM;rw[Mt j,Mt (fun h=>h.elim l r),Mt o,Mt s]];have t:=d5 j;have u:=d5 l;have v:=d5 o;have w:=d5 r;have x:=d5 s;have F:=mc Uv UF t u v w x;exact ek
def du{a:Type}{l:List a}{p:a->Bool}{i:Nat}{x:a}(h:(l.take i).all p=true)(e:l[i]? =some x)(d:p x=true):(l.take (i+1)).all p=true:=by
 obtain⟨b,c⟩:=Mr.1 e;rw[PK b,QT,h,c];simp[d]
def mf{a:Type}{l:List a}{p:a->Bool}{i:Nat}{x:a}(c:l[i]? =some x)(b:p x=false):l.all p=false:=by
 rw[Pe];intro h;rw[Mz]at h;rw[h _ (Mv c)]at b;cases b
def uO{a:Type}{l:List a}{p:a->Bool}{i:Nat}(h:(l.take i).all p=true)(hi:l.length<=i):l.all p=true:=by
 rwa [Nq hi]at h
def pn(env:b8)(i j:Addr)(q:fU env i j)(c:aq)(l:List j')(r:l.length<=9223372036854775807)(p: ∀a∈l,a.name.length<=9223372036854775807):b7 prog env 206 [.agg (aA c),jt l] (B (eS c.vars.length c.Z9.length l)):=by
 refine qf func206 call206 ntmps206 results206 ?_;have F:=aA.eq_1;repeat refine st ?_
 refine lp (D:=Nat) (fun k t=>[(1,jt l),(2, .loc 2 (t 2) 0 0),(7,jt l),(8,I l.length),(9,I k)]) (fun _ _=>[(2,⟨5,[aA c],26,false⟩)]) (fun k _ _=>k<=l.length/\(l.take k).all (gM c.vars.length c.Z9.length)=true) (fun k=>l.length-k) 0 ⟨NG _,rfl⟩ ?_;rintro k v n ⟨u,e⟩;by_cases b:k<l.length
 ·obtain⟨a,g,s⟩:=aS b;have h:=it b;have m:=aD b r;have d:=Iw env i j q c a (p a s);cases f:gM c.vars.length c.Z9.length a with
  | true=>
    have F:=i' Uv h m g UF f;repeat refine fc d ?_
    exact qn (k+1) ⟨b,du e g f⟩
  | false=>
    rw[show eS c.vars.length c.Z9.length l=false by unfold eS;rw[mf g f];simp];have F:=i' Uv h m g UF f;exact hH d
 have h: ¬(k:Int)< (l.length:Int):=by omega
 have o:decide ((l.length:Int)<=32)=decide (l.length<=32):=by rw[N4];simp;omega
 rw[show eS c.vars.length c.Z9.length l=decide (l.length<=32) by unfold eS;rw[uO e (by omega)];simp];have F:=ai Uv h;repeat refine st ?_
 (refine aM ?_;show (aj _ _ _).run _=some _;simp only[go_sem,F])
 exact N6 B o
def yn(env:b8)(c:aq)(i:Int):b7 prog env 145 [.agg (aA c),I i] (B (decide (0<=i)&&decide (i<c.Z9.length))):=by
 refine qf func145 call145 ntmps145 results145 ?_;by_cases a:0<=i<;>by_cases b:i< (c.Z9.length:Int)<;>
 ·have F:=gb Uv a b;exact ek
def F'.ifl(t:TypeId)(v:Value):F' (.lit (.iface t v)) (.iface t (.lit v)):=fun S w u h=>by
 obtain rfl:=h.lit_inv;exact .iface t v (.lit v) (.lit v)
def F'.lfi(t:TypeId)(v:Value):F' (.iface t (.lit v)) (.lit (.iface t v)):=fun S w u h=>by
 cases h with
 | iface _ a _ h=>
   obtain rfl:=h.lit_inv;exact .lit _
def lr(s p:AV)(q:Int)(c:p=I q)(e a:AV)(b:F' a e):gA (.iface 134 (.ref 3 [[s,p,a]] 0 0)) (dt q e):=by
 subst c;exact .of (.iface (.ref1 (cs:=[.any,I q,e]) (.cons (.any _) (.cons (.refl _) (.cons b .nil))))) (fun _ _ _ h=>by cases h) (fun _ _ _ h=>by cases h)
def zH(env:b8)(s:List UInt8)(p:Int)(a:Addr)(c: -1<=p):b7 prog env 202 [Sg s,I p,bx a] (dt p (bx a)):=by
 refine b7.args (cs:=[Sg s,I p, .iface 369 (.lit (.pointer (some a)))]) ?_ (.cons (.refl _) (.cons (.refl _) (.cons (.ifl _ _) .nil)));have b: ¬p< -1:=by omega
 refine qw func202 call202 ntmps202 results202 ?_;have F:=b;repeat refine st ?_
 (refine aM ?_;refine⟨_,(by show (aj _ _ _).run _=some _;simp only[go_sem,F];rfl),?_⟩)
 exact lr _ _ _ rfl _ _ (.lfi _ _)
def oe(env:b8)(a b:Addr)(d:fU env a b)(p:Int)(e: -1<=p):b7 prog env 142 [I p] (dt p (bx a)):=by
 have c:=iT d.e1;refine qf func142 call142 ntmps142 results142 ?_;have F:=c;repeat (first|refine st ?_|refine cC (zH env _ p a e) ?_)
 exact aR
def kM{c:aq}{m:Nat}{q:nr}(h:c.Z9[m]? =some q):az c (m:Int)=eR q:=by unfold az;rw[bN,h]
def fg{n:Int}(h:0<=n): ∃m:Nat,n=m:=⟨n.toNat,by omega⟩
def A9(env:b8)(c:aq)(i:Nat)(s:nr)(a:c.Z9[i]? =some s):b7 prog env 204 [.agg (aA c),I i] (B (dF c i s)):=by
 have l:i<c.Z9.length:=(Mr.1 a).1;have d:=it l;refine qf func204 call204 ntmps204 results204 ?_;by_cases e:0<=s.parent/\s.parent<i
 ·obtain⟨m,n⟩:=fg e.1;obtain⟨q,f,_⟩:=aS (show m<c.Z9.length by omega);have o:(0:Int)<=m:=by omega
  have p:(m:Int)<i:=by omega
  have r:=it (show m<c.Z9.length by omega);have t:=kM f;have g:((m:Int) == -1)=false:=d5 (by omega);have j:=jC env q;have F:=ed Uv d a Uw n g o p r t f UY;exact hH j
 by_cases b:0<=s.parent
 ·have k: ¬s.parent<i:=fun h=>e ⟨b,h⟩;have F:=mc Uv d a Uw b k UY;exact ek
 have F:=i' Uv d a Uw b UY;exact ek
def D1(env:b8)(c:aq)(s:nr)(g:s.parent<c.Z9.length):b7 prog env 243 [.agg (aA c), .agg (aK s)] (B (cw c s)):=by
 refine qf func243 call243 ntmps243 results243 ?_;by_cases b:0<=s.parent
 ·obtain⟨m,d⟩:=fg b;have a:m<c.Z9.length:=by omega
  obtain⟨q,e,_⟩:=aS a;have f:=it a;rw[show cw c s=(q.kind==1) by unfold cw;rw[d,bN,e]];have F:=g9 Uv Uw d f e;exact ek
 rw[show cw c s=false by unfold cw at_;rw[Mt b]];have F:=gb Uv Uw b;exact ek
def Fy{a b:Nat}(c:a<=9223372036854775807)(d:b<=9223372036854775807):IntKind.i64.wrap ((a:Int)+(b:Int))=0↔a+b=0:=by
 by_cases h:a+b<9223372036854775808
 ·rw[aW (by omega) (by omega)];omega
 have:IntKind.i64.wrap ((a:Int)+(b:Int))=(a:Int)+(b:Int)-18446744073709551616:=by
  simp[IntKind.wrap,IntKind.bits,IntKind.signed];omega
 omega
def fJ{a:Type} [DecidableEq a](l:List a):((l.length:Int)==0)=(l == []):=by
 rw[N4];simp
def Gp{c:aq}{i:Nat}{s:nr}(hi:i<c.Z9.length)(h:dF c i s=true):s.parent<c.Z9.length:=by
 unfold dF at h;simp only[OQ,Nz,Mu,NF]at h;omega
def LA{c:aq}{i:Int}{a:Bool}{j k:Nat}(h:(av c i a)[j]? =some k): ∃q,c.Z9[k]? =some q/\k<c.Z9.length:=by
 have b:=pz (Mv h);obtain⟨q,d,_⟩:=aS b.1;exact⟨q,d,b.1⟩
def DZ(env:b8)(c:aq)(i:Nat)(s:nr)(w:c.Z9[i]? =some s)(z:c.Z9.length<=1000000)(W:s.parent<c.Z9.length)(H:s.ZW.length<=9223372036854775807)(J:s.out.length<=9223372036854775807):b7 prog env 205 [.agg (aA c),I i] (B (dK c i s)):=by
 have V:i<c.Z9.length:=(Mr.1 w).1;have A:=it V;have a:=iC env c i z;have o:=iC env c s.parent z;have l:=pk env c i z;have e:=D1 env c s W;have K:(av c i true).length<=1000000:=NK (dS c i true _) z;have x:(av c s.parent true).length<=1000000:=NK (dS c s.parent true _) z;have y:=jz env (av c i true) s.initial K;have u:=jz env (av c s.parent true) s.initial x;have Z:=fJ (av c i true);have O:=fJ (av c i false);have z3:=fJ s.out;refine qf func205 call205 ntmps205 results205 ?_;by_cases d:s.kind=1
 ·have v:dK c i s=(if av c i true=[] then s.initial == -1 else GS (av c i true) s.initial):=by unfold dK;rw[Mw d]
  rw[v];have X:(av c i true=[])=((av c i true == [])=true):=by simp
  have Y:(av c i true == [])=true->GS (av c i true) s.initial=false:=fun h=>by rw[show av c i true=[] by simpa using h];rfl
  have F:=n4 Uv A w Uw d Z X Y;exact mw a y
 have P:=d5 d;by_cases f:s.kind=2
 ·have v:dK c i s=(((av c i true).all fun k=>az c k)&&decide (0< (av c i true).length)&&(s.initial == -1)):=by unfold dK;rw[Mt d,Mw f]
  rw[v];have F:=g9 Uv A w Uw f;repeat refine fc a ?_
  refine lp (D:=Nat) (fun j G=>[(1,I i),(2, .loc 2 (G 2) 0 0),(5, .loc 5 (G 5) 0 0),(6, .row 16 (G 16)),(18,I 2),(37, .row 16 (G 16)),(38,I (av c i true).length),(39,I j)]) (fun _ _=>[(2,⟨5,[aA c],26,false⟩),(5,⟨6,[aK s],75,false⟩),(16,⟨1,(av c i true).map aB,3,true⟩)]) (fun j _ _=>j<=(av c i true).length/\((av c i true).take j).all (fun k=>az c k)=true) (fun j=>(av c i true).length-j) 0 ⟨NG _,rfl⟩ ?_;rintro j ws U ⟨hj,p⟩;by_cases n:j< (av c i true).length
  ·obtain⟨k,hk,_⟩:=aS n;obtain⟨q,E,L⟩:=LA hk;have C:=it n;have M:=aD n (by omega);have N:=it L;have m:=jC env q;cases r:eR q
   ·rw[show ((av c i true).all fun k=>az c k)=false from mf hk (by rw[kM E];exact r),Ng,Ng];have F:=qr Uv C M N hk E Ux Uw r;exact hH m
   have F:=qr Uv C M N hk E Ux Uw r;repeat refine fc m ?_
   exact qn (j+1) ⟨n,du p hk (by rw[kM E];exact r)⟩
  have C: ¬(j:Int)< ((av c i true).length:Int):=by omega
  rw[uO p (by omega),Nj];have z4:decide ((0:Int)< ((av c i true).length:Int))=decide (0< (av c i true).length):=by rw[N4];simp
  cases r:decide (0< (av c i true).length)
  ·have t: ¬(0:Int)< ((av c i true).length:Int):=by simpa using r
   have F:=hU Uv C Uw t;exact ek
  have t:(0:Int)< ((av c i true).length:Int):=by simpa using r
  have F:=hU Uv C Uw t;exact ek
 have Q:=d5 f;by_cases g:s.kind=3
 ·have v:dK c i s=((av c i false == [])&&((s.parent == -1)||cw c s)&&(s.initial == -1)&&(s.out == [])):=by unfold dK;rw[Mt d,Mt f,Mw g]
  rw[v];have F:=mc Uv A w Uw g O z3;exact An a l e
 have R:=d5 g;by_cases b:s.kind=4\/s.kind=5
 ·have v:dK c i s=((av c i false == [])&&cw c s&&GS (av c s.parent true) s.initial&&(s.ZW == [])&&(s.out == [])):=by unfold dK;rw[Mt d,Mt f,Mt g,Mw b]
  rw[v]
  have z5:(IntKind.i64.wrap ((s.ZW.length:Int)+(s.out.length:Int))==0)=((s.ZW == [])&&(s.out == [])):=by
   rw[N4];simp only[Nz,Mu, <-OZ,Fy H J];omega
  rw[Rl _ (s.ZW == []), <-z5];rcases b with hk|hk
  all_goals
   have F:=i' Uv A w Uw hk O;exact Uh a l e o u
 have S:=d5 (fun h=>b (.inl h));have T:=d5 (fun h=>b (.inr h));rw[show dK c i s=false by unfold dK;rw[Mt d,Mt f,Mt g,Mt b]];have F:=qr Uv A w Uw P Q R S T;exact hH a
end
end Go.Proofs.YtfhkmjbjafeckaaGreatDoor
