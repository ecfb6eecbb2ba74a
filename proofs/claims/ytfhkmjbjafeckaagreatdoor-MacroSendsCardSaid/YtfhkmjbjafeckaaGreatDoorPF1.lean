/- Any instance behind any event, and what it did, or why there is none. -/
import Derived.Test.YtfhkmjbjafeckaaGreatDoorCards
import Derived.Test.YtfhkmjbjafeckaaGreatDoorTie
import Derived.Test.YtfhkmjbjafeckaaGreatDoorP35
import Derived.Test.YtfhkmjbjafeckaaGreatDoorP36
set_option linter.unusedSimpArgs false
namespace Go.Proofs.YtfhkmjbjafeckaaGreatDoor.lawSends
open Go.ChangeShapes Go.WideShapes Go.ChangeAt Go.WideMaps Go.WideElems Go.RowKit Go.Joins
open Go.ChangeMaps (open_string)
theorem own:ownKnob Tryz.prog.godebug=none:=by kernel_rfl
theorem laidOut:laidOutB Tryz.prog=true:=by kernel_rfl
theorem params: ∀t∈Tryz.f5.params.toList,Tryz.prog.readableRec t=true/\t<Tryz.prog.types.size:=by
 have a:(Tryz.f5.params.toList.all fun u=>Tryz.prog.readableRec u&&decide (u<Tryz.prog.types.size))=true:=by kernel_rfl
 intro t b;simpa using Mz.1 a t b
theorem vF(os:Os)(args:Array Value):laidMetH Tryz.prog Rows.macroSendsRow.laid ((World.doorLaid Tryz.prog 400 os).forCall (fun _ _=>0) ⟨#[],args,[]⟩).memory:=
 laidMetH_of_parts3 (fuel:=8) (laidMet_of_run' 8 (by kernel_rfl) (by kernel_rfl)) (by kernel_rfl) (by kernel_rfl)
set_option maxRecDepth 100000 in
theorem vG(H:Type)(enc:TypeId×Value->H)(W:World)(base:Nat)(args:Array Value)(l u:List (DataW H))(b:List MemPlace)
 (c: ∀(j:Nat) t v,Tryz.f5.params[j]? =some t->args[j]? =some v->Value.okWide Tryz.prog W .any base t v)
 (A:DataW.Whole enc Tryz.prog Tryz.f5.params.toList Rows.macroSendsSpec.vars false W args.toList l u b)(y:laidMetH Tryz.prog Rows.macroSendsRow.laid W)
 (d:((DataW.weightsEach Tryz.prog (Tryz.f5.params.toList++DataSpec.varTypes Tryz.prog Rows.macroSendsSpec.plain) (l++u)).all fun x=>decide (x<=reachBytes))=true):
 Calls Tryz.prog 5 args W fun e g=> ∃v,e= .returned v/\Rows.macroSendsSpec.post enc Tryz.prog Tryz.f5 false true false false W args v g:=by
 have r:=A;have _u1:=y;have _u2:=d;obtain⟨p,q,o,M,rfl,P,Q⟩:=A;have w:DataW.TrodAll enc Tryz.prog W 0 (fun _=>true) true Tryz.f5.params.toList args.toList l p:=o;rw[Tryz.params5]at w c;obtain⟨k,d0,rfl,rfl,I⟩:=trodAll_one w;obtain⟨rfl,rfl⟩:=trodVars_none M
 have m:Calls Tryz.prog 5 #[k] W (fun e T=>e= .returned (.bool true)/\Below W.heap.size W T)->
  Calls Tryz.prog 5 #[k] W fun e g=> ∃v,e= .returned v/\Rows.macroSendsSpec.post enc Tryz.prog Tryz.f5 false true false false W #[k] v g:=
  fun h=>h.mono fun e g ⟨O,N⟩=>⟨_,O,Bm laidOut params (by kernel_rfl) Tryz.underlying4 r rfl (fun _=>rfl) N⟩
 have s:WB Tryz.prog 63 d0:=fun z R=>by
  have:=Mz.1 d z (lX (i:=0) rfl rfl z R);simpa using this
 obtain⟨a,x,D,C,n,f,E,G,S⟩:=se (c 0 _ k rfl rfl) s I;obtain⟨⟨B,K⟩,L,J⟩:=xC y;exact m (CW (ni B a E x G D C n f) (wn K L J) ⟨S,trivial⟩)
set_option maxRecDepth 100000 in
theorem lifted(os:Os)(a:os.Started)(H:Type)(enc:TypeId×Value->H):
 ReturnsInHanded {} Tryz.checked os 5 .any (fun w args=>(Rows.macroSendsSpec.pre enc Tryz.prog Tryz.f5 [] false w args/\laidMetH Tryz.prog Rows.macroSendsRow.laid w)/\sizedMet enc Tryz.prog Tryz.f5 (OpenSpec.ofChange Rows.macroSendsSpec) false w args)
  (Rows.macroSendsSpec.post enc Tryz.prog Tryz.f5 false true false false):=by
 refine returnsInHanded_of_change_and (C:=Tryz.checked) (X:=fun w _=>laidMetH Tryz.prog Rows.macroSendsRow.laid w) (fun _ _ _ m h=>h.of_heap m) own a (by kernel_rfl) Tryz.func5
  (ChangeSpec.witness_shaped (enc:=enc) (C:=Tryz.checked) (os:=os) (X:=fun w _=>laidMetH Tryz.prog Rows.macroSendsRow.laid w) false (World.doorLaid Tryz.prog 400 os) #[.agg #[.string ⟨#[]⟩, .int .i64 0, .slice none 0 0, .slice none 0 0, .slice none 0 0, .slice none 0 0, .slice none 0 0, .slice none 0 0, .slice none 0 0, .bool false, .string ⟨#[]⟩, .int .i64 0, .int .i64 0, .int .i64 0]] 8 rfl (World.shaped_of_RefB (by kernel_rfl) (by kernel_rfl)) (by kernel_rfl) (by kernel_rfl) (by kernel_rfl) (vF os _)) ?_
 intro W d args i j b c l g e k f;exact vG H enc W d args i j b c l k e
set_option maxHeartbeats 0 in
set_option maxRecDepth 100000 in
theorem closed:joinedFacts Tryz.pinned.checked.prog 5 Tryz.f5 Rows.macroSendsSpec Rows.macroSendsRow=true:=by
 unfold joinedFacts;simp only[Mu];repeat' apply And.intro
 all_goals as_aux_lemma=>kernel_rfl
theorem said:Rows.MacroSendsSaid:=
 OpenClaim.holds_of_wide 5 Tryz.f5 rfl rfl rfl rfl rfl rfl rfl ⟨rfl,rfl,rfl,rfl,rfl⟩ rfl rfl rfl rfl rfl (by kernel_rfl) Tryz.func5 closed
  (Rq (by kernel_rfl)) (by unfold Func.isWrapper;first|(rw[Mw (by decide+kernel)];kernel_rfl)|(rw[Mt (by decide+kernel)];exact⟨rfl,rfl⟩))
  (fun c a H b _=>lifted c a H b)
theorem plain(f:FuncId)(fn:Func)(c:Tryz.pinned.checked.prog.funcNamed "scrinium/scriniumlaw32.MacroSends" =some f)(b:Tryz.pinned.checked.prog.funcs[f]? =some fn):
 true=Tryz.pinned.checked.prog.looks []/\ ∀(j:Nat) t,fn.params[j]? =some t->Tryz.pinned.checked.prog.wantsStandIn t=false:=by
 obtain rfl:f=5:=OV ((show Tryz.prog.funcNamed "scrinium/scriniumlaw32.MacroSends" =some 5 by kernel_rfl).symm.trans c) |>.symm;obtain rfl:fn=Tryz.f5:=(OV (Tryz.func5.symm.trans b)).symm;refine⟨by kernel_rfl,fun j t d=> ?_⟩;have a:(Tryz.f5.params.toList.all fun u=> !Tryz.prog.wantsStandIn u)=true:=by kernel_rfl
 have:=Mz.1 a t (by simpa using QW d);exact(show Tryz.prog.wantsStandIn t=false by simpa using this)
theorem goes:false=Rows.macroSendsRow.goesBy Tryz.pinned.checked.prog:=by kernel_rfl
end Go.Proofs.YtfhkmjbjafeckaaGreatDoor.lawSends
