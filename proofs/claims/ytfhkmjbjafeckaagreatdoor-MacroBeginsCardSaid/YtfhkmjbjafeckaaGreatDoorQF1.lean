/- An instance of any chart that begins, and what it did, or why there is none. -/
import Derived.Test.YtfhkmjbjafeckaaGreatDoorCards
import Derived.Test.YtfhkmjbjafeckaaGreatDoorTie
import Derived.Test.YtfhkmjbjafeckaaGreatDoorQ35
set_option linter.unusedSimpArgs false
namespace Go.Proofs.YtfhkmjbjafeckaaGreatDoor.lawBegins
open Go.ChangeShapes Go.WideShapes Go.ChangeAt Go.WideMaps Go.WideElems Go.RowKit Go.Joins
open Go.ChangeMaps (open_string)
theorem own:ownKnob Tryz.prog.godebug=none:=by kernel_rfl
theorem laidOut:laidOutB Tryz.prog=true:=by kernel_rfl
theorem params: ∀t∈Tryz.f4.params.toList,Tryz.prog.readableRec t=true/\t<Tryz.prog.types.size:=by
 have a:(Tryz.f4.params.toList.all fun u=>Tryz.prog.readableRec u&&decide (u<Tryz.prog.types.size))=true:=by kernel_rfl
 intro t b;simpa using NB.1 a t b
theorem vN(os:Os)(args:Array Value):laidMetH Tryz.prog Rows.macroBeginsRow.laid ((World.doorLaid Tryz.prog 400 os).forCall (fun _ _=>0) ⟨#[],args,[]⟩).memory:=
 laidMetH_of_parts3 (fuel:=8) (laidMet_of_run' 8 (by kernel_rfl) (by kernel_rfl)) (by kernel_rfl) (by kernel_rfl)
set_option maxRecDepth 100000 in
theorem vO(H:Type)(enc:TypeId×Value->H)(W:World)(base:Nat)(args:Array Value)(k r:List (DataW H))(c:List MemPlace)
 (b: ∀(j:Nat) t v,Tryz.f4.params[j]? =some t->args[j]? =some v->Value.okWide Tryz.prog W .any base t v)
 (w:DataW.Whole enc Tryz.prog Tryz.f4.params.toList Rows.macroBeginsSpec.vars false W args.toList k r c)(u:laidMetH Tryz.prog Rows.macroBeginsRow.laid W)
 (o:((DataW.weightsEach Tryz.prog (Tryz.f4.params.toList++DataSpec.varTypes Tryz.prog Rows.macroBeginsSpec.plain) (k++r)).all fun x=>decide (x<=reachBytes))=true):
 Calls Tryz.prog 4 args W fun e d=> ∃v,e= .returned v/\Rows.macroBeginsSpec.post enc Tryz.prog Tryz.f4 false true false false W args v d:=by
 have n:=w;have _u1:=u;have _u2:=o;obtain⟨p,q,m,I,rfl,L,M⟩:=w;have s:DataW.TrodAll enc Tryz.prog W 0 (fun _=>true) true Tryz.f4.params.toList args.toList k p:=m;rw[Tryz.params4]at s b;obtain⟨f,g,i,d0,d1,d2,R,S,T,rfl,rfl,rfl,A,B,C⟩:=trodAll_three s;obtain⟨rfl,rfl⟩:=trodVars_none I
 have l:Calls Tryz.prog 4 #[f,g,i] W (fun e O=>e= .returned (.bool true)/\Below W.heap.size W O)->
  Calls Tryz.prog 4 #[f,g,i] W fun e d=> ∃v,e= .returned v/\Rows.macroBeginsSpec.post enc Tryz.prog Tryz.f4 false true false false W #[f,g,i] v d:=
  fun h=>h.mono fun e d ⟨K,J⟩=>⟨_,K,Bt laidOut params (by kernel_rfl) Tryz.underlying4 n rfl (fun _=>rfl) J⟩
 obtain⟨a,z,N⟩:=su (b 0 _ f rfl rfl) A;obtain⟨P,rfl,rfl,rfl, -⟩:=open_int Tryz.underlying3 (b 1 _ g rfl rfl) B;obtain⟨Q,rfl,rfl,rfl, -⟩:=open_int Tryz.underlying3 (b 2 _ i rfl rfl) C;obtain⟨⟨y,E⟩,G,D⟩:=H4 u;exact l (C2 (mz y a z P Q) (HJ E G D) ⟨N, .lit _, .lit _,trivial⟩)
set_option maxRecDepth 100000 in
theorem lifted(os:Os)(a:os.Started)(H:Type)(enc:TypeId×Value->H):
 ReturnsInHanded {} Tryz.checked os 4 .any (fun w args=>(Rows.macroBeginsSpec.pre enc Tryz.prog Tryz.f4 [] false w args/\laidMetH Tryz.prog Rows.macroBeginsRow.laid w)/\sizedMet enc Tryz.prog Tryz.f4 (OpenSpec.ofChange Rows.macroBeginsSpec) false w args)
  (Rows.macroBeginsSpec.post enc Tryz.prog Tryz.f4 false true false false):=by
 refine returnsInHanded_of_change_and (C:=Tryz.checked) (X:=fun w _=>laidMetH Tryz.prog Rows.macroBeginsRow.laid w) (fun _ _ _ m h=>h.of_heap m) own a (by kernel_rfl) Tryz.func4
  (ChangeSpec.witness_shaped (enc:=enc) (C:=Tryz.checked) (os:=os) (X:=fun w _=>laidMetH Tryz.prog Rows.macroBeginsRow.laid w) false (World.doorLaid Tryz.prog 400 os) #[.agg #[.string ⟨#[]⟩, .int .i64 0, .slice none 0 0, .slice none 0 0, .slice none 0 0], .int .i64 0, .int .i64 0] 8 rfl (World.shaped_of_RefB (by kernel_rfl) (by kernel_rfl)) (by kernel_rfl) (by kernel_rfl) (by kernel_rfl) (vN os _)) ?_
 intro W d args i j b c l g e k f;exact vO H enc W d args i j b c l k e
set_option maxHeartbeats 0 in
set_option maxRecDepth 100000 in
theorem closed:joinedFacts Tryz.pinned.checked.prog 4 Tryz.f4 Rows.macroBeginsSpec Rows.macroBeginsRow=true:=by
 unfold joinedFacts;simp only[Mx];repeat' apply And.intro
 all_goals as_aux_lemma=>kernel_rfl
theorem said:Rows.MacroBeginsSaid:=
 OpenClaim.holds_of_wide 4 Tryz.f4 rfl rfl rfl rfl rfl rfl rfl ⟨rfl,rfl,rfl,rfl,rfl⟩ rfl rfl rfl rfl rfl (by kernel_rfl) Tryz.func4 closed
  (Rr (by kernel_rfl)) (by unfold Func.isWrapper;first|(rw[Mw (by decide+kernel)];kernel_rfl)|(rw[Mv (by decide+kernel)];exact⟨rfl,rfl⟩))
  (fun c a H b _=>lifted c a H b)
theorem plain(f:FuncId)(fn:Func)(c:Tryz.pinned.checked.prog.funcNamed "scrinium/scriniumlaw32.MacroBegins" =some f)(b:Tryz.pinned.checked.prog.funcs[f]? =some fn):
 true=Tryz.pinned.checked.prog.looks []/\ ∀(j:Nat) t,fn.params[j]? =some t->Tryz.pinned.checked.prog.wantsStandIn t=false:=by
 obtain rfl:f=4:=OV ((show Tryz.prog.funcNamed "scrinium/scriniumlaw32.MacroBegins" =some 4 by kernel_rfl).symm.trans c) |>.symm;obtain rfl:fn=Tryz.f4:=(OV (Tryz.func4.symm.trans b)).symm;refine⟨by kernel_rfl,fun j t d=> ?_⟩;have a:(Tryz.f4.params.toList.all fun u=> !Tryz.prog.wantsStandIn u)=true:=by kernel_rfl
 have:=NB.1 a t (by simpa using Pf d);exact(show Tryz.prog.wantsStandIn t=false by simpa using this)
theorem goes:false=Rows.macroBeginsRow.goesBy Tryz.pinned.checked.prog:=by kernel_rfl
end Go.Proofs.YtfhkmjbjafeckaaGreatDoor.lawBegins
