/- The transitions of any instance that are taken at any event, or at none, or why that can't be told; no two of them conflict. -/
import Derived.Test.YtnbjaghjdeicmaaGreatDoorCards
import Derived.Test.YtnbjaghjdeicmaaGreatDoorTie
import Derived.Test.YtnbjaghjdeicmaaGreatDoorD27
import Derived.Test.YtnbjaghjdeicmaaGreatDoorD10
import Derived.Test.YtnbjaghjdeicmaaGreatDoorD21
import Derived.Lib.SmallJoins
import Derived.SevenTiedAt
import Derived.SizedLaws
namespace Go.Proofs.YtnbjaghjdeicmaaGreatDoor.lawEnabled
open Go.ChangeShapes Go.WideShapes Go.ChangeAt Go.WideMaps Go.WideElems Go.RowKit Go.Joins
open Go.ChangeMaps (open_string)
theorem own:ownKnob Tryz.prog.godebug=none:=by kernel_rfl
theorem laidOut:laidOutB Tryz.prog=true:=by kernel_rfl
theorem params: ∀t∈Tryz.f8.params.toList,Tryz.prog.readableRec t=true/\t<Tryz.prog.types.size:=by
 have hall:(Tryz.f8.params.toList.all fun u=>Tryz.prog.readableRec u&&decide (u<Tryz.prog.types.size))=true:=by kernel_rfl
 intro t ht
 simpa using List.all_eq_true.1 hall t ht
theorem zsM (os:Os) (args:Array Value):laidMetH Tryz.prog Rows.microEnabledRow.laid ((World.doorLaid Tryz.prog 400 os).forCall (fun _ _=>0) ⟨#[],args,[]⟩).memory:=
 laidMetH_of_parts3 (fuel:=8) (laidMet_of_run' 8 (by kernel_rfl) (by kernel_rfl)) (by kernel_rfl) (by kernel_rfl)
set_option maxRecDepth 100000 in
theorem zsQ (H:Type) (enc:TypeId×Value->H) (W:World) (base:Nat) (args:Array Value) (ds gs:List (DataW H)) (before:List MemPlace)
 (hval: ∀(j:Nat) t v,Tryz.f8.params[j]? =some t->args[j]? =some v->Value.okWide Tryz.prog W .any base t v)
 (hW:DataW.Whole enc Tryz.prog Tryz.f8.params.toList Rows.microEnabledSpec.vars false W args.toList ds gs before) (hL:laidMetH Tryz.prog Rows.microEnabledRow.laid W)
 (hsz:((DataW.weightsEach Tryz.prog (Tryz.f8.params.toList++DataSpec.varTypes Tryz.prog Rows.microEnabledSpec.plain) (ds++gs)).all fun x=>decide (x<=reachBytes))=true):
 Calls Tryz.prog 8 args W fun e W'=> ∃v,e= .returned v/\Rows.microEnabledSpec.post enc Tryz.prog Tryz.f8 false true false false W args v W':=by
 have hW':=hW
 have _u1:=hL
 have _u2:=hsz
 obtain⟨p,q,hA0,hV,rfl,hfz,hnd⟩:=hW
 have hA:DataW.TrodAll enc Tryz.prog W 0 (fun _=>true) true Tryz.f8.params.toList args.toList ds p:=hA0
 rw [Tryz.params8] at hA hval
 obtain⟨v0,d0,rfl,rfl,h0⟩:=trodAll_one hA
 obtain⟨rfl,rfl⟩:=trodVars_none hV
 have fin:Calls Tryz.prog 8 #[v0] W (fun e w'=>e= .returned (.bool true)/\Below W.heap.size W w')->
  Calls Tryz.prog 8 #[v0] W fun e W'=> ∃v,e= .returned v/\Rows.microEnabledSpec.post enc Tryz.prog Tryz.f8 false true false false W #[v0] v W':=
  fun h=>h.mono fun e W' ⟨he,hb⟩=>⟨_,he,zst laidOut params (by kernel_rfl) Tryz.underlying4 hW' rfl (fun _=>rfl) hb⟩
 have hW0:WB Tryz.prog 50 d0:=fun z hz=>by
  have:=List.all_eq_true.1 hsz z (zgD (i:=0) rfl rfl z hz)
  simpa using this
 obtain⟨a,x,ev,dt,n,fa,fx,ra⟩:=zos (hval 0 _ v0 rfl rfl) hW0 h0
 obtain⟨⟨ad,hS⟩,hT,hE⟩:=zqA hL
 exact fin (zsR (zeK ad a fa x fx ev dt n) (zqg hS hT hE) ⟨ra,trivial⟩)
set_option maxRecDepth 100000 in
theorem lifted (os:Os) (started:os.Started) (H:Type) (enc:TypeId×Value->H):
 ReturnsInHanded {} Tryz.checked os 8 .any (fun w args=>(Rows.microEnabledSpec.pre enc Tryz.prog Tryz.f8 [] false w args/\laidMetH Tryz.prog Rows.microEnabledRow.laid w)/\sizedMet enc Tryz.prog Tryz.f8 (OpenSpec.ofChange Rows.microEnabledSpec) false w args)
  (Rows.microEnabledSpec.post enc Tryz.prog Tryz.f8 false true false false):=by
 refine returnsInHanded_of_change_and (C:=Tryz.checked) (X:=fun w _=>laidMetH Tryz.prog Rows.microEnabledRow.laid w) (fun _ _ _ hh h=>h.of_heap hh) own started (by kernel_rfl) Tryz.func8
  (ChangeSpec.witness_shaped (enc:=enc) (C:=Tryz.checked) (os:=os) (X:=fun w _=>laidMetH Tryz.prog Rows.microEnabledRow.laid w) false (World.doorLaid Tryz.prog 400 os) #[.agg #[.string ⟨#[]⟩, .int .i64 0, .slice none 0 0, .slice none 0 0, .slice none 0 0, .slice none 0 0, .slice none 0 0, .slice none 0 0, .slice none 0 0, .bool false, .string ⟨#[]⟩, .int .i64 0, .int .i64 0]] 8 rfl (World.shaped_of_RefB (by kernel_rfl) (by kernel_rfl)) (by kernel_rfl) (by kernel_rfl) (by kernel_rfl) (zsM os _)) ?_
 intro W base args ds gs before hval0 hW hdom hsz hL hass
 exact zsQ H enc W base args ds gs before hval0 hW hL hsz
set_option maxHeartbeats 0 in
set_option maxRecDepth 100000 in
theorem closed:joinedFacts Tryz.pinned.checked.prog 8 Tryz.f8 Rows.microEnabledSpec Rows.microEnabledRow=true:=by
 unfold joinedFacts
 simp only [Bool.and_eq_true]
 repeat' apply And.intro
 all_goals as_aux_lemma=>kernel_rfl
theorem said:Rows.MicroEnabledSaid:=
 OpenClaim.holds_of_wide 8 Tryz.f8 rfl rfl rfl rfl rfl rfl rfl ⟨rfl,rfl,rfl,rfl,rfl⟩ rfl rfl rfl rfl rfl (by kernel_rfl) Tryz.func8 closed
  (of_decide_eq_true (by kernel_rfl)) (by unfold Func.isWrapper; first | (rw [if_pos (by decide+kernel)]; kernel_rfl) | (rw [if_neg (by decide+kernel)]; exact⟨rfl,rfl⟩))
  (fun os started H enc _=>lifted os started H enc)
theorem plain (f:FuncId) (fn:Func) (hf:Tryz.pinned.checked.prog.funcNamed "scrinium/scriniumlaw31.MicroEnabled" =some f) (hfn:Tryz.pinned.checked.prog.funcs[f]? =some fn):
 true=Tryz.pinned.checked.prog.looks []/\ ∀(j:Nat) t,fn.params[j]? =some t->Tryz.pinned.checked.prog.wantsStandIn t=false:=by
 obtain rfl:f=8:=Option.some.inj ((show Tryz.prog.funcNamed "scrinium/scriniumlaw31.MicroEnabled" =some 8 by kernel_rfl).symm.trans hf) |>.symm
 obtain rfl:fn=Tryz.f8:=(Option.some.inj (Tryz.func8.symm.trans hfn)).symm
 refine⟨by kernel_rfl,fun j t ht=> ?_⟩
 have hall:(Tryz.f8.params.toList.all fun u=> !Tryz.prog.wantsStandIn u)=true:=by kernel_rfl
 have:=List.all_eq_true.1 hall t (by simpa using Array.mem_of_getElem? ht)
 exact(show Tryz.prog.wantsStandIn t=false by simpa using this)
end Go.Proofs.YtnbjaghjdeicmaaGreatDoor.lawEnabled
