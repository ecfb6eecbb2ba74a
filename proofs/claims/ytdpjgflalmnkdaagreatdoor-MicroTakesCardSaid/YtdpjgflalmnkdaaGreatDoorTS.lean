/- Any instance behind a step with those that are enabled: it is right. -/
import Derived.Test.YtdpjgflalmnkdaaGreatDoorCards
import Derived.Test.YtdpjgflalmnkdaaGreatDoorTie
import Derived.Test.YtdpjgflalmnkdaaGreatDoorT33
set_option linter.unusedSimpArgs false
namespace Go.Proofs.YtdpjgflalmnkdaaGreatDoor.lawTakes
open Go.ChangeShapes Go.WideShapes Go.ChangeAt Go.WideMaps Go.WideElems Go.RowKit Go.Joins
open Go.ChangeMaps (open_string)
theorem own:ownKnob Tryz.prog.godebug=none:=by kernel_rfl
theorem laidOut:laidOutB Tryz.prog=true:=by kernel_rfl
theorem params: ∀t∈Tryz.f3.params.toList,Tryz.prog.readableRec t=true/\t<Tryz.prog.types.size:=by
 have hall:(Tryz.f3.params.toList.all fun u=>Tryz.prog.readableRec u&&decide (u<Tryz.prog.types.size))=true:=by kernel_rfl
 intro t ht;simpa using K7.1 hall t ht
theorem HV (os:Os) (args:Array Value):laidMetH Tryz.prog Rows.microTakesRow.laid ((World.doorLaid Tryz.prog 400 os).forCall (fun _ _=>0) ⟨#[],args,[]⟩).memory:=
 laidMetH_of_parts3 (fuel:=8) (laidMet_of_run' 8 (by kernel_rfl) (by kernel_rfl)) (by kernel_rfl) (by kernel_rfl)
set_option maxRecDepth 100000 in
theorem H0 (H:Type) (enc:TypeId×Value->H) (W:World) (base:Nat) (args:Array Value) (ds gs:List (DataW H)) (before:List MemPlace)
 (hval: ∀(j:Nat) t v,Tryz.f3.params[j]? =some t->args[j]? =some v->Value.okWide Tryz.prog W .any base t v)
 (hW:DataW.Whole enc Tryz.prog Tryz.f3.params.toList Rows.microTakesSpec.vars false W args.toList ds gs before) (hL:laidMetH Tryz.prog Rows.microTakesRow.laid W)
 (hsz:((DataW.weightsEach Tryz.prog (Tryz.f3.params.toList++DataSpec.varTypes Tryz.prog Rows.microTakesSpec.plain) (ds++gs)).all fun x=>decide (x<=reachBytes))=true):
 Calls Tryz.prog 3 args W fun e W'=> ∃v,e= .returned v/\Rows.microTakesSpec.post enc Tryz.prog Tryz.f3 false true false false W args v W':=by
 have hW':=hW;have _u1:=hL;have _u2:=hsz;obtain⟨p,q,hA0,hV,rfl,hfz,hnd⟩:=hW;have hA:DataW.TrodAll enc Tryz.prog W 0 (fun _=>true) true Tryz.f3.params.toList args.toList ds p:=hA0;rw[Tryz.params3]at hA hval;obtain⟨v0,d0,rfl,rfl,h0⟩:=trodAll_one hA;obtain⟨rfl,rfl⟩:=trodVars_none hV
 have fin:Calls Tryz.prog 3 #[v0] W (fun e w'=>e= .returned (.bool true)/\Below W.heap.size W w')->
  Calls Tryz.prog 3 #[v0] W fun e W'=> ∃v,e= .returned v/\Rows.microTakesSpec.post enc Tryz.prog Tryz.f3 false true false false W #[v0] v W':=
  fun h=>h.mono fun e W' ⟨he,hb⟩=>⟨_,he,Gk laidOut params (by kernel_rfl) Tryz.underlying4 hW' rfl (fun _=>rfl) hb⟩
 have hW0:WB Tryz.prog 33 d0:=fun z hz=>by
  have:=K7.1 hsz z (o7 (i:=0) rfl rfl z hz);simpa using this
 obtain⟨a,x,ev,dt,n,fa,fx,ra⟩:=BM (hval 0 _ v0 rfl rfl) hW0 h0;obtain⟨⟨ad,hS⟩,hT⟩:=FB hL;exact fin (H2 (ma ad a fa x fx ev dt n) (F9 hS hT) ⟨ra,trivial⟩)
set_option maxRecDepth 100000 in
theorem lifted (os:Os) (started:os.Started) (H:Type) (enc:TypeId×Value->H):
 ReturnsInHanded {} Tryz.checked os 3 .any (fun w args=>(Rows.microTakesSpec.pre enc Tryz.prog Tryz.f3 [] false w args/\laidMetH Tryz.prog Rows.microTakesRow.laid w)/\sizedMet enc Tryz.prog Tryz.f3 (OpenSpec.ofChange Rows.microTakesSpec) false w args)
  (Rows.microTakesSpec.post enc Tryz.prog Tryz.f3 false true false false):=by
 refine returnsInHanded_of_change_and (C:=Tryz.checked) (X:=fun w _=>laidMetH Tryz.prog Rows.microTakesRow.laid w) (fun _ _ _ hh h=>h.of_heap hh) own started (by kernel_rfl) Tryz.func3
  (ChangeSpec.witness_shaped (enc:=enc) (C:=Tryz.checked) (os:=os) (X:=fun w _=>laidMetH Tryz.prog Rows.microTakesRow.laid w) false (World.doorLaid Tryz.prog 400 os) #[.agg #[.string ⟨#[]⟩, .int .i64 0, .slice none 0 0, .slice none 0 0, .slice none 0 0, .slice none 0 0, .slice none 0 0, .slice none 0 0, .slice none 0 0, .bool false, .string ⟨#[]⟩, .int .i64 0, .int .i64 0]] 8 rfl (World.shaped_of_RefB (by kernel_rfl) (by kernel_rfl)) (by kernel_rfl) (by kernel_rfl) (by kernel_rfl) (HV os _)) ?_
 intro W base args ds gs before hval0 hW hdom hsz hL hass;exact H0 H enc W base args ds gs before hval0 hW hL hsz
set_option maxHeartbeats 0 in
set_option maxRecDepth 100000 in
theorem closed:joinedFacts Tryz.pinned.checked.prog 3 Tryz.f3 Rows.microTakesSpec Rows.microTakesRow=true:=by
 unfold joinedFacts;simp only[K3];repeat' apply And.intro
 all_goals as_aux_lemma=>kernel_rfl
theorem said:Rows.MicroTakesSaid:=
 OpenClaim.holds_of_wide 3 Tryz.f3 rfl rfl rfl rfl rfl rfl rfl ⟨rfl,rfl,rfl,rfl,rfl⟩ rfl rfl rfl rfl rfl (by kernel_rfl) Tryz.func3 closed
  (of_decide_eq_true (by kernel_rfl)) (by unfold Func.isWrapper;first|(rw[K5 (by decide+kernel)];kernel_rfl)|(rw[K2 (by decide+kernel)];exact⟨rfl,rfl⟩))
  (fun os started H enc _=>lifted os started H enc)
theorem plain (f:FuncId) (fn:Func) (hf:Tryz.pinned.checked.prog.funcNamed "scrinium/scriniumlaw31.MicroTakes" =some f) (hfn:Tryz.pinned.checked.prog.funcs[f]? =some fn):
 true=Tryz.pinned.checked.prog.looks []/\ ∀(j:Nat) t,fn.params[j]? =some t->Tryz.pinned.checked.prog.wantsStandIn t=false:=by
 obtain rfl:f=3:=MF ((show Tryz.prog.funcNamed "scrinium/scriniumlaw31.MicroTakes" =some 3 by kernel_rfl).symm.trans hf) |>.symm;obtain rfl:fn=Tryz.f3:=(MF (Tryz.func3.symm.trans hfn)).symm;refine⟨by kernel_rfl,fun j t ht=> ?_⟩;have hall:(Tryz.f3.params.toList.all fun u=> !Tryz.prog.wantsStandIn u)=true:=by kernel_rfl
 have:=K7.1 hall t (by simpa using OX ht);exact(show Tryz.prog.wantsStandIn t=false by simpa using this)
theorem goes:false=Rows.microTakesRow.goesBy Tryz.pinned.checked.prog:=by kernel_rfl
end Go.Proofs.YtdpjgflalmnkdaaGreatDoor.lawTakes
