/- All states that can come to be active, and the transitions that can't come to be. -/
import Derived.Test.YtlmekdfleciejaaGreatDoorZ1
import Derived.Test.YtlmekdfleciejaaGreatDoorCards
import Derived.Test.YtlmekdfleciejaaGreatDoorTie
import Derived.Test.YtlmekdfleciejaaGreatDoorD41
import Derived.Test.YtlmekdfleciejaaGreatDoorD44
import Derived.Test.YtlmekdfleciejaaGreatDoorD23
import Derived.Lib.SmallJoins
import Derived.SevenTiedAt
import Derived.SizedLaws
namespace Go.Proofs.YtlmekdfleciejaaGreatDoor.lawReaches
open Go.ChangeShapes Go.WideShapes Go.ChangeAt Go.WideMaps Go.WideElems Go.RowKit Go.Joins
open Go.ChangeMaps (open_string)
theorem own:ownKnob Tryz.prog.godebug=none:=by kernel_rfl
theorem laidOut:laidOutB Tryz.prog=true:=by kernel_rfl
theorem params: ∀t∈Tryz.f4.params.toList,Tryz.prog.readableRec t=true/\t<Tryz.prog.types.size:=by
 have hall:(Tryz.f4.params.toList.all fun u=>Tryz.prog.readableRec u&&decide (u<Tryz.prog.types.size))=true:=by kernel_rfl
 intro t ht
 simpa using List.all_eq_true.1 hall t ht
theorem zh3 (os:Os) (args:Array Value):laidMetH Tryz.prog Rows.tableReachesRow.laid ((World.doorLaid Tryz.prog 180 os).forCall (fun _ _=>0) ⟨#[],args,[]⟩).memory:=
 laidMetH_of_parts3 (fuel:=8) (laidMet_of_run' 8 (by kernel_rfl) (by kernel_rfl)) (by kernel_rfl) (by kernel_rfl)
set_option maxRecDepth 100000 in
theorem zh4 (H:Type) (enc:TypeId×Value->H) (W:World) (base:Nat) (args:Array Value) (ds gs:List (DataW H)) (before:List MemPlace)
 (hval: ∀(j:Nat) t v,Tryz.f4.params[j]? =some t->args[j]? =some v->Value.okWide Tryz.prog W .any base t v)
 (hW:DataW.Whole enc Tryz.prog Tryz.f4.params.toList Rows.tableReachesSpec.vars false W args.toList ds gs before) (hL:laidMetH Tryz.prog Rows.tableReachesRow.laid W)
 (hsz:((DataW.weightsEach Tryz.prog (Tryz.f4.params.toList++DataSpec.varTypes Tryz.prog Rows.tableReachesSpec.plain) (ds++gs)).all fun x=>decide (x<=reachBytes))=true):
 Calls Tryz.prog 4 args W fun e W'=> ∃v,e= .returned v/\Rows.tableReachesSpec.post enc Tryz.prog Tryz.f4 false true false false W args v W':=by
 have hW':=hW
 have _u1:=hL
 have _u2:=hsz
 obtain⟨p,q,hA0,hV,rfl,hfz,hnd⟩:=hW
 have hA:DataW.TrodAll enc Tryz.prog W 0 (fun _=>true) true Tryz.f4.params.toList args.toList ds p:=hA0
 rw [Tryz.params4] at hA hval
 obtain⟨v0,d0,rfl,rfl,h0⟩:=trodAll_one hA
 obtain⟨rfl,rfl⟩:=trodVars_none hV
 have fin:Calls Tryz.prog 4 #[v0] W (fun e w'=>e= .returned (.bool true)/\Below W.heap.size W w')->
  Calls Tryz.prog 4 #[v0] W fun e W'=> ∃v,e= .returned v/\Rows.tableReachesSpec.post enc Tryz.prog Tryz.f4 false true false false W #[v0] v W':=
  fun h=>h.mono fun e W' ⟨he,hb⟩=>⟨_,he,zk9 laidOut params (by kernel_rfl) Tryz.underlying4 hW' rfl (fun _=>rfl) hb⟩
 obtain⟨a,fa,ra⟩:=open_chart (hval 0 _ v0 rfl rfl) h0
 obtain⟨a1,a8,hw⟩:=laid_tab hL
 exact fin (zlt (zrz (tbEnv a1 a8) a1 a8 (tbEnv_ch a1 a8) (tbEnv_tab a1 a8) a fa) (tbEnv_ok hw) ⟨ra,trivial⟩)
set_option maxRecDepth 100000 in
theorem lifted (os:Os) (started:os.Started) (H:Type) (enc:TypeId×Value->H):
 ReturnsInHanded {} Tryz.checked os 4 .any (fun w args=>(Rows.tableReachesSpec.pre enc Tryz.prog Tryz.f4 [] false w args/\laidMetH Tryz.prog Rows.tableReachesRow.laid w)/\sizedMet enc Tryz.prog Tryz.f4 (OpenSpec.ofChange Rows.tableReachesSpec) false w args)
  (Rows.tableReachesSpec.post enc Tryz.prog Tryz.f4 false true false false):=by
 refine returnsInHanded_of_change_and (C:=Tryz.checked) (X:=fun w _=>laidMetH Tryz.prog Rows.tableReachesRow.laid w) (fun _ _ _ hh h=>h.of_heap hh) own started (by kernel_rfl) Tryz.func4
  (ChangeSpec.witness_shaped (enc:=enc) (C:=Tryz.checked) (os:=os) (X:=fun w _=>laidMetH Tryz.prog Rows.tableReachesRow.laid w) false (World.doorLaid Tryz.prog 180 os) #[.agg #[.string ⟨#[]⟩, .int .i64 0, .slice none 0 0, .slice none 0 0, .slice none 0 0]] 8 rfl (World.shaped_of_RefB (by kernel_rfl) (by kernel_rfl)) (by kernel_rfl) (by kernel_rfl) (by kernel_rfl) (zh3 os _)) ?_
 intro W base args ds gs before hval0 hW hdom hsz hL hass
 exact zh4 H enc W base args ds gs before hval0 hW hL hsz
set_option maxHeartbeats 0 in
set_option maxRecDepth 100000 in
theorem closed:joinedFacts Tryz.pinned.checked.prog 4 Tryz.f4 Rows.tableReachesSpec Rows.tableReachesRow=true:=by
 unfold joinedFacts
 simp only [Bool.and_eq_true]
 repeat' apply And.intro
 all_goals as_aux_lemma=>kernel_rfl
theorem said:Rows.TableReachesSaid:=
 OpenClaim.holds_of_wide 4 Tryz.f4 rfl rfl rfl rfl rfl rfl rfl ⟨rfl,rfl,rfl,rfl,rfl⟩ rfl rfl rfl rfl rfl (by kernel_rfl) Tryz.func4 closed
  (of_decide_eq_true (by kernel_rfl)) (by unfold Func.isWrapper; first | (rw [if_pos (by decide+kernel)]; kernel_rfl) | (rw [if_neg (by decide+kernel)]; exact⟨rfl,rfl⟩))
  (fun os started H enc _=>lifted os started H enc)
theorem plain (f:FuncId) (fn:Func) (hf:Tryz.pinned.checked.prog.funcNamed "scrinium/scriniumlaw28.TableReaches" =some f) (hfn:Tryz.pinned.checked.prog.funcs[f]? =some fn):
 true=Tryz.pinned.checked.prog.looks []/\ ∀(j:Nat) t,fn.params[j]? =some t->Tryz.pinned.checked.prog.wantsStandIn t=false:=by
 obtain rfl:f=4:=Option.some.inj ((show Tryz.prog.funcNamed "scrinium/scriniumlaw28.TableReaches" =some 4 by kernel_rfl).symm.trans hf) |>.symm
 obtain rfl:fn=Tryz.f4:=(Option.some.inj (Tryz.func4.symm.trans hfn)).symm
 refine⟨by kernel_rfl,fun j t ht=> ?_⟩
 have hall:(Tryz.f4.params.toList.all fun u=> !Tryz.prog.wantsStandIn u)=true:=by kernel_rfl
 have:=List.all_eq_true.1 hall t (by simpa using Array.mem_of_getElem? ht)
 exact(show Tryz.prog.wantsStandIn t=false by simpa using this)
theorem card:Rows.TableReachesCardSaid:=
 Claim7.holds_tied_plain_at .later [] _ _ _ _ said (fun _ h=>by cases h) (by kernel_rfl) (fun _ h=>by cases h) tableReaches_row_tie rfl ⟨rfl,rfl⟩ (by kernel_rfl) rfl plain (by kernel_rfl)
#print axioms card
end Go.Proofs.YtlmekdfleciejaaGreatDoor.lawReaches
