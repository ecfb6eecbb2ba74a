/- An instance of any chart that begins: it is right; or why there is none. -/
import Derived.Test.YtbpmkofnfgdegaaGreatDoorCards
import Derived.Test.YtbpmkofnfgdegaaGreatDoorTie
import Derived.Test.YtbpmkofnfgdegaaGreatDoorM26
import Derived.Test.YtbpmkofnfgdegaaGreatDoorM19
import Derived.Test.YtbpmkofnfgdegaaGreatDoorM10
import Derived.Lib.SmallJoins
import Derived.SevenTiedAt
import Derived.SizedLaws
namespace Go.Proofs.YtbpmkofnfgdegaaGreatDoor.lawFirst
open Go.ChangeShapes Go.WideShapes Go.ChangeAt Go.WideMaps Go.WideElems Go.RowKit Go.Joins
open Go.ChangeMaps (open_string)
theorem own:ownKnob Tryz.prog.godebug=none:=by kernel_rfl
theorem laidOut:laidOutB Tryz.prog=true:=by kernel_rfl
theorem params: ∀t∈Tryz.f5.params.toList,Tryz.prog.readableRec t=true/\t<Tryz.prog.types.size:=by
 have hall:(Tryz.f5.params.toList.all fun u=>Tryz.prog.readableRec u&&decide (u<Tryz.prog.types.size))=true:=by kernel_rfl
 intro t ht;simpa using List.all_eq_true.1 hall t ht
theorem zrK (os:Os) (args:Array Value):laidMetH Tryz.prog Rows.microFirstRow.laid ((World.doorLaid Tryz.prog 400 os).forCall (fun _ _=>0) ⟨#[],args,[]⟩).memory:=
 laidMetH_of_parts3 (fuel:=8) (laidMet_of_run' 8 (by kernel_rfl) (by kernel_rfl)) (by kernel_rfl) (by kernel_rfl)
set_option maxRecDepth 100000 in
theorem zrN (H:Type) (enc:TypeId×Value->H) (W:World) (base:Nat) (args:Array Value) (ds gs:List (DataW H)) (before:List MemPlace)
 (hval: ∀(j:Nat) t v,Tryz.f5.params[j]? =some t->args[j]? =some v->Value.okWide Tryz.prog W .any base t v)
 (hW:DataW.Whole enc Tryz.prog Tryz.f5.params.toList Rows.microFirstSpec.vars false W args.toList ds gs before) (hL:laidMetH Tryz.prog Rows.microFirstRow.laid W)
 (hsz:((DataW.weightsEach Tryz.prog (Tryz.f5.params.toList++DataSpec.varTypes Tryz.prog Rows.microFirstSpec.plain) (ds++gs)).all fun x=>decide (x<=reachBytes))=true):
 Calls Tryz.prog 5 args W fun e W'=> ∃v,e= .returned v/\Rows.microFirstSpec.post enc Tryz.prog Tryz.f5 false true false false W args v W':=by
 have hW':=hW;have _u1:=hL;have _u2:=hsz;obtain⟨p,q,hA0,hV,rfl,hfz,hnd⟩:=hW;have hA:DataW.TrodAll enc Tryz.prog W 0 (fun _=>true) true Tryz.f5.params.toList args.toList ds p:=hA0;rw [Tryz.params5] at hA hval;obtain⟨v0,v1,d0,d1,p0,p1,rfl,rfl,rfl,h0,h1⟩:=trodAll_two hA;obtain⟨rfl,rfl⟩:=trodVars_none hV
 have fin:Calls Tryz.prog 5 #[v0,v1] W (fun e w'=>e= .returned (.bool true)/\Below W.heap.size W w')->
  Calls Tryz.prog 5 #[v0,v1] W fun e W'=> ∃v,e= .returned v/\Rows.microFirstSpec.post enc Tryz.prog Tryz.f5 false true false false W #[v0,v1] v W':=
  fun h=>h.mono fun e W' ⟨he,hb⟩=>⟨_,he,zro laidOut params (by kernel_rfl) Tryz.underlying4 hW' rfl (fun _=>rfl) hb⟩
 obtain⟨a,fa,ra⟩:=znj (hval 0 _ v0 rfl rfl) h0;obtain⟨x1,rfl,rfl,rfl, -⟩:=open_int Tryz.underlying3 (hval 1 _ v1 rfl rfl) h1;obtain⟨⟨ad,hS⟩,hT⟩:=zpl hL;exact fin (zrP (zeX ad a fa x1) (zp4 hS hT) ⟨ra, .lit _,trivial⟩)
set_option maxRecDepth 100000 in
theorem lifted (os:Os) (started:os.Started) (H:Type) (enc:TypeId×Value->H):
 ReturnsInHanded {} Tryz.checked os 5 .any (fun w args=>(Rows.microFirstSpec.pre enc Tryz.prog Tryz.f5 [] false w args/\laidMetH Tryz.prog Rows.microFirstRow.laid w)/\sizedMet enc Tryz.prog Tryz.f5 (OpenSpec.ofChange Rows.microFirstSpec) false w args)
  (Rows.microFirstSpec.post enc Tryz.prog Tryz.f5 false true false false):=by
 refine returnsInHanded_of_change_and (C:=Tryz.checked) (X:=fun w _=>laidMetH Tryz.prog Rows.microFirstRow.laid w) (fun _ _ _ hh h=>h.of_heap hh) own started (by kernel_rfl) Tryz.func5
  (ChangeSpec.witness_shaped (enc:=enc) (C:=Tryz.checked) (os:=os) (X:=fun w _=>laidMetH Tryz.prog Rows.microFirstRow.laid w) false (World.doorLaid Tryz.prog 400 os) #[.agg #[.string ⟨#[]⟩, .int .i64 0, .slice none 0 0, .slice none 0 0, .slice none 0 0], .int .i64 0] 8 rfl (World.shaped_of_RefB (by kernel_rfl) (by kernel_rfl)) (by kernel_rfl) (by kernel_rfl) (by kernel_rfl) (zrK os _)) ?_
 intro W base args ds gs before hval0 hW hdom hsz hL hass;exact zrN H enc W base args ds gs before hval0 hW hL hsz
set_option maxHeartbeats 0 in
set_option maxRecDepth 100000 in
theorem closed:joinedFacts Tryz.pinned.checked.prog 5 Tryz.f5 Rows.microFirstSpec Rows.microFirstRow=true:=by
 unfold joinedFacts;simp only [Bool.and_eq_true];repeat' apply And.intro
 all_goals as_aux_lemma=>kernel_rfl
theorem said:Rows.MicroFirstSaid:=
 OpenClaim.holds_of_wide 5 Tryz.f5 rfl rfl rfl rfl rfl rfl rfl ⟨rfl,rfl,rfl,rfl,rfl⟩ rfl rfl rfl rfl rfl (by kernel_rfl) Tryz.func5 closed
  (of_decide_eq_true (by kernel_rfl)) (by unfold Func.isWrapper; first | (rw [if_pos (by decide+kernel)]; kernel_rfl) | (rw [if_neg (by decide+kernel)]; exact⟨rfl,rfl⟩))
  (fun os started H enc _=>lifted os started H enc)
theorem plain (f:FuncId) (fn:Func) (hf:Tryz.pinned.checked.prog.funcNamed "scrinium/scriniumlaw31.MicroFirst" =some f) (hfn:Tryz.pinned.checked.prog.funcs[f]? =some fn):
 true=Tryz.pinned.checked.prog.looks []/\ ∀(j:Nat) t,fn.params[j]? =some t->Tryz.pinned.checked.prog.wantsStandIn t=false:=by
 obtain rfl:f=5:=Option.some.inj ((show Tryz.prog.funcNamed "scrinium/scriniumlaw31.MicroFirst" =some 5 by kernel_rfl).symm.trans hf) |>.symm;obtain rfl:fn=Tryz.f5:=(Option.some.inj (Tryz.func5.symm.trans hfn)).symm;refine⟨by kernel_rfl,fun j t ht=> ?_⟩;have hall:(Tryz.f5.params.toList.all fun u=> !Tryz.prog.wantsStandIn u)=true:=by kernel_rfl
 have:=List.all_eq_true.1 hall t (by simpa using Array.mem_of_getElem? ht);exact(show Tryz.prog.wantsStandIn t=false by simpa using this)
theorem goes:false=Rows.microFirstRow.goesBy Tryz.pinned.checked.prog:=by kernel_rfl
end Go.Proofs.YtbpmkofnfgdegaaGreatDoor.lawFirst
