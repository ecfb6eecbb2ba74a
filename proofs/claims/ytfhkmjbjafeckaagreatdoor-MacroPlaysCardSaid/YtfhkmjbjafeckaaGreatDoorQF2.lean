/- An instance of any chart behind any events, and what it did, or why there is none. -/
import Derived.Test.YtfhkmjbjafeckaaGreatDoorCards
import Derived.Test.YtfhkmjbjafeckaaGreatDoorTie
import Derived.Test.YtfhkmjbjafeckaaGreatDoorQ37
set_option linter.unusedSimpArgs false
namespace Go.Proofs.YtfhkmjbjafeckaaGreatDoor.lawPlays
open Go.ChangeShapes Go.WideShapes Go.ChangeAt Go.WideMaps Go.WideElems Go.RowKit Go.Joins
open Go.ChangeMaps (open_string)
theorem own:ownKnob Tryz.prog.godebug=none:=by kernel_rfl
theorem laidOut:laidOutB Tryz.prog=true:=by kernel_rfl
theorem params: ∀t∈Tryz.f3.params.toList,Tryz.prog.readableRec t=true/\t<Tryz.prog.types.size:=by
 have a:(Tryz.f3.params.toList.all fun u=>Tryz.prog.readableRec u&&decide (u<Tryz.prog.types.size))=true:=by kernel_rfl
 intro t b;simpa using NB.1 a t b
theorem vN(os:Os)(args:Array Value):laidMetH Tryz.prog Rows.macroPlaysRow.laid ((World.doorLaid Tryz.prog 400 os).forCall (fun _ _=>0) ⟨#[],args,[]⟩).memory:=
 laidMetH_of_parts3 (fuel:=8) (laidMet_of_run' 8 (by kernel_rfl) (by kernel_rfl)) (by kernel_rfl) (by kernel_rfl)
set_option maxRecDepth 100000 in
theorem vO(H:Type)(enc:TypeId×Value->H)(W:World)(base:Nat)(args:Array Value)(m w:List (DataW H))(c:List MemPlace)
 (b: ∀(j:Nat) t v,Tryz.f3.params[j]? =some t->args[j]? =some v->Value.okWide Tryz.prog W .any base t v)
 (A:DataW.Whole enc Tryz.prog Tryz.f3.params.toList Rows.macroPlaysSpec.vars false W args.toList m w c)(z:laidMetH Tryz.prog Rows.macroPlaysRow.laid W)
 (u:((DataW.weightsEach Tryz.prog (Tryz.f3.params.toList++DataSpec.varTypes Tryz.prog Rows.macroPlaysSpec.plain) (m++w)).all fun x=>decide (x<=reachBytes))=true):
 Calls Tryz.prog 3 args W fun e d=> ∃v,e= .returned v/\Rows.macroPlaysSpec.post enc Tryz.prog Tryz.f3 false true false false W args v d:=by
 have s:=A;have _u1:=z;have _u2:=u;obtain⟨p,q,r,K,rfl,N,O⟩:=A;have y:DataW.TrodAll enc Tryz.prog W 0 (fun _=>true) true Tryz.f3.params.toList args.toList m p:=r;rw[Tryz.params3]at y b;obtain⟨g,i,k,d0,d1,d2,T,U,V,rfl,rfl,rfl,D,E,G⟩:=trodAll_three y;obtain⟨rfl,rfl⟩:=trodVars_none K
 have o:Calls Tryz.prog 3 #[g,i,k] W (fun e S=>e= .returned (.bool true)/\Below W.heap.size W S)->
  Calls Tryz.prog 3 #[g,i,k] W fun e d=> ∃v,e= .returned v/\Rows.macroPlaysSpec.post enc Tryz.prog Tryz.f3 false true false false W #[g,i,k] v d:=
  fun h=>h.mono fun e d ⟨M,L⟩=>⟨_,M,Bt laidOut params (by kernel_rfl) Tryz.underlying4 s rfl (fun _=>rfl) L⟩
 obtain⟨a,C,P⟩:=su (b 0 _ g rfl rfl) D;obtain⟨l,Q⟩:=JE (b 1 _ i rfl rfl) E;obtain⟨n,f,R⟩:=JD (b 2 _ k rfl rfl) G;obtain⟨⟨B,I⟩,J⟩:=H3 z;exact o (C2 (oA B a C l n f) (xn I J) ⟨P,Q,R,trivial⟩)
set_option maxRecDepth 100000 in
theorem lifted(os:Os)(a:os.Started)(H:Type)(enc:TypeId×Value->H):
 ReturnsInHanded {} Tryz.checked os 3 .any (fun w args=>(Rows.macroPlaysSpec.pre enc Tryz.prog Tryz.f3 [] false w args/\laidMetH Tryz.prog Rows.macroPlaysRow.laid w)/\sizedMet enc Tryz.prog Tryz.f3 (OpenSpec.ofChange Rows.macroPlaysSpec) false w args)
  (Rows.macroPlaysSpec.post enc Tryz.prog Tryz.f3 false true false false):=by
 refine returnsInHanded_of_change_and (C:=Tryz.checked) (X:=fun w _=>laidMetH Tryz.prog Rows.macroPlaysRow.laid w) (fun _ _ _ m h=>h.of_heap m) own a (by kernel_rfl) Tryz.func3
  (ChangeSpec.witness_shaped (enc:=enc) (C:=Tryz.checked) (os:=os) (X:=fun w _=>laidMetH Tryz.prog Rows.macroPlaysRow.laid w) false (World.doorLaid Tryz.prog 400 os) #[.agg #[.string ⟨#[]⟩, .int .i64 0, .slice none 0 0, .slice none 0 0, .slice none 0 0], .slice none 0 0, .agg #[.int .i64 0, .int .i64 0]] 8 rfl (World.shaped_of_RefB (by kernel_rfl) (by kernel_rfl)) (by kernel_rfl) (by kernel_rfl) (by kernel_rfl) (vN os _)) ?_
 intro W d args i j b c l g e k f;exact vO H enc W d args i j b c l k e
set_option maxHeartbeats 0 in
set_option maxRecDepth 100000 in
theorem closed:joinedFacts Tryz.pinned.checked.prog 3 Tryz.f3 Rows.macroPlaysSpec Rows.macroPlaysRow=true:=by
 unfold joinedFacts;simp only[Mx];repeat' apply And.intro
 all_goals as_aux_lemma=>kernel_rfl
theorem said:Rows.MacroPlaysSaid:=
 OpenClaim.holds_of_wide 3 Tryz.f3 rfl rfl rfl rfl rfl rfl rfl ⟨rfl,rfl,rfl,rfl,rfl⟩ rfl rfl rfl rfl rfl (by kernel_rfl) Tryz.func3 closed
  (Rr (by kernel_rfl)) (by unfold Func.isWrapper;first|(rw[Mw (by decide+kernel)];kernel_rfl)|(rw[Mv (by decide+kernel)];exact⟨rfl,rfl⟩))
  (fun c a H b _=>lifted c a H b)
theorem plain(f:FuncId)(fn:Func)(c:Tryz.pinned.checked.prog.funcNamed "scrinium/scriniumlaw32.MacroPlays" =some f)(b:Tryz.pinned.checked.prog.funcs[f]? =some fn):
 true=Tryz.pinned.checked.prog.looks []/\ ∀(j:Nat) t,fn.params[j]? =some t->Tryz.pinned.checked.prog.wantsStandIn t=false:=by
 obtain rfl:f=3:=OV ((show Tryz.prog.funcNamed "scrinium/scriniumlaw32.MacroPlays" =some 3 by kernel_rfl).symm.trans c) |>.symm;obtain rfl:fn=Tryz.f3:=(OV (Tryz.func3.symm.trans b)).symm;refine⟨by kernel_rfl,fun j t d=> ?_⟩;have a:(Tryz.f3.params.toList.all fun u=> !Tryz.prog.wantsStandIn u)=true:=by kernel_rfl
 have:=NB.1 a t (by simpa using Pf d);exact(show Tryz.prog.wantsStandIn t=false by simpa using this)
theorem goes:false=Rows.macroPlaysRow.goesBy Tryz.pinned.checked.prog:=by kernel_rfl
end Go.Proofs.YtfhkmjbjafeckaaGreatDoor.lawPlays
