/- Charts' laws: what their variables hold; chart.Check, awake. -/
import Derived.Test.YtlmekdfleciejaaGreatDoorD22
import Derived.Test.YtlmekdfleciejaaGreatDoorD5
import Derived.Test.YtlmekdfleciejaaGreatDoorD7
import Derived.Test.YtlmekdfleciejaaGreatDoorD17
import Derived.Test.YtlmekdfleciejaaGreatDoorD16
import Derived.Test.YtlmekdfleciejaaGreatDoorD13
import Derived.Test.YtlmekdfleciejaaGreatDoorRows
import Derived.ProofKit
import Derived.LaidMore
import Derived.OpenShut
import Derived.LaidLaws
import Derived.Stop.Joined
import Derived.LaidHandle
set_option maxRecDepth 100000
set_option maxHeartbeats 8000000
set_option linter.unusedSimpArgs false
namespace Go.Proofs.YtlmekdfleciejaaGreatDoor
section
open Go.RowKit
theorem znq (env:Env) (a1 a8:Addr) (he:ChEnv env a1 a8) (c:ChD) (t:TrD) (hf:zjh t):Con Tryz.prog env 183 [.agg (chAV c), .agg (trAV t)] (B (zcq c t)):=by
 have f1:=zke env c t.src
 have f3:=zca env t.event (ziK hf.1)
 have f4:=ziE env a1 a8 he c t.guard
 have f5:=zga env a1 a8 he c t.acts (zdN hf.2.2).1 (zdN hf.2.2).2
 have f6:=zke env c t.target
 have z1:=zbK t.guard
 by_cases h1:0<=t.src
 case neg=>
  rw [show zcq c t=false by unfold zcq zar at_; rw [if_neg h1]; rfl]
  refine zaa Tryz.func183 rfl Tryz.call183 (by rw [Tryz.ntmps183]; simp) ?_
  rw [Tryz.ntmps183,Tryz.results183]
  have F:=ai chAV.eq_1<|ai trAV.eq_1<|h1
  repeat (first | refine st ?_ | refine cC f1 ?_)
  exact aR
 obtain⟨m,hm⟩:=zdU h1
 by_cases h2:(m:Int)< (c.states.length:Int)
 case neg=>
  rw [show zcq c t=false by unfold zcq zar; rw [hm,zbp,List.getElem?_eq_none (by omega)]; rfl]
  have hm':(t.src< (c.states.length:Int))=False:=by rw [hm]; simpa using h2
  refine zaa Tryz.func183 rfl Tryz.call183 (by rw [Tryz.ntmps183]; simp) ?_
  rw [Tryz.ntmps183,Tryz.results183]
  have F:=ai chAV.eq_1<|ai trAV.eq_1<|ai h1<|hm'
  repeat (first | refine st ?_ | refine cC f1 ?_)
  exact aR
 obtain⟨q,hq,_⟩:=zam (show m<c.states.length by omega)
 have f2:=zcS env q
 have hr:zcq c t=(zbV q&&((t.event == [])||zaA t.event)&&((t.guard == [])||zaK t.guard c.vars.length c.states.length)&&zbE c.vars.length c.states.length t.acts&&((t.target == -1)||(decide (0<=t.target)&&decide (t.target<c.states.length)))):=by unfold zcq; rw [hm,zdI hq]
 rw [hr]
 rw [hm] at f1
 cases e1:zbV q
 ·rw [Bool.false_and,Bool.false_and,Bool.false_and,Bool.false_and]
  refine zaa Tryz.func183 rfl Tryz.call183 (by rw [Tryz.ntmps183]; simp) ?_
  rw [Tryz.ntmps183,Tryz.results183]
  have F:=ai chAV.eq_1<|ai trAV.eq_1<|ai stAV.eq_1<|ai hm<|ai h2<|ai hq<|e1
  repeat (first | refine st ?_ | refine cC f1 ?_ | refine cC f2 ?_)
  exact aR
 have body:((t.event == [])||zaA t.event)=true->Con Tryz.prog env 183 [.agg (chAV c), .agg (trAV t)] (B (((t.guard == [])||zaK t.guard c.vars.length c.states.length)&&zbE c.vars.length c.states.length t.acts&&((t.target == -1)||(decide (0<=t.target)&&decide (t.target<c.states.length))))):=fun hev=>by
  have go: ∀ {b1 b2:Bool},(t.event == [])=b1->(b1=false->zaA t.event=b2)->(b1||b2)=true->Con Tryz.prog env 183 [.agg (chAV c), .agg (trAV t)] (B (((t.guard == [])||zaK t.guard c.vars.length c.states.length)&&zbE c.vars.length c.states.length t.acts&&((t.target == -1)||(decide (0<=t.target)&&decide (t.target<c.states.length))))):=fun {b1 b2} g1 g2 g3=>by
   refine zaa Tryz.func183 rfl Tryz.call183 (by rw [Tryz.ntmps183]; simp) ?_
   rw [Tryz.ntmps183,Tryz.results183]
   cases b1 with
   | true=>
     cases e4:(t.guard == []) with
     | true=>
       cases e6:zbE c.vars.length c.states.length t.acts with
       | false=>
         have F:=ai chAV.eq_1<|ai trAV.eq_1<|ai stAV.eq_1<|ai hm<|ai h2<|ai hq<|ai e1<|ai g1<|ai z1<|ai e4<|e6
         repeat (first | refine st ?_ | refine cC f1 ?_ | refine cC f2 ?_ | refine cC f3 ?_ | refine cC f4 ?_ | refine cC f5 ?_ | refine cC f6 ?_)
         exact aR
       | true=>
         cases e7:(t.target == -1) with
         | false=>
           have F:=ai chAV.eq_1<|ai trAV.eq_1<|ai stAV.eq_1<|ai hm<|ai h2<|ai hq<|ai e1<|ai g1<|ai z1<|ai e4<|ai e6<|e7
           repeat (first | refine st ?_ | refine cC f1 ?_ | refine cC f2 ?_ | refine cC f3 ?_ | refine cC f4 ?_ | refine cC f5 ?_ | refine cC f6 ?_)
           exact aR
         | true=>
           have F:=ai chAV.eq_1<|ai trAV.eq_1<|ai stAV.eq_1<|ai hm<|ai h2<|ai hq<|ai e1<|ai g1<|ai z1<|ai e4<|ai e6<|e7
           repeat (first | refine st ?_ | refine cC f1 ?_ | refine cC f2 ?_ | refine cC f3 ?_ | refine cC f4 ?_ | refine cC f5 ?_ | refine cC f6 ?_)
           exact aR
     | false=>
       cases e5:zaK t.guard c.vars.length c.states.length with
       | false=>
         have F:=ai chAV.eq_1<|ai trAV.eq_1<|ai stAV.eq_1<|ai hm<|ai h2<|ai hq<|ai e1<|ai g1<|ai z1<|ai e4<|e5
         repeat (first | refine st ?_ | refine cC f1 ?_ | refine cC f2 ?_ | refine cC f3 ?_ | refine cC f4 ?_ | refine cC f5 ?_ | refine cC f6 ?_)
         exact aR
       | true=>
         cases e6:zbE c.vars.length c.states.length t.acts with
         | false=>
           have F:=ai chAV.eq_1<|ai trAV.eq_1<|ai stAV.eq_1<|ai hm<|ai h2<|ai hq<|ai e1<|ai g1<|ai z1<|ai e4<|ai e5<|e6
           repeat (first | refine st ?_ | refine cC f1 ?_ | refine cC f2 ?_ | refine cC f3 ?_ | refine cC f4 ?_ | refine cC f5 ?_ | refine cC f6 ?_)
           exact aR
         | true=>
           cases e7:(t.target == -1) with
           | false=>
             have F:=ai chAV.eq_1<|ai trAV.eq_1<|ai stAV.eq_1<|ai hm<|ai h2<|ai hq<|ai e1<|ai g1<|ai z1<|ai e4<|ai e5<|ai e6<|e7
             repeat (first | refine st ?_ | refine cC f1 ?_ | refine cC f2 ?_ | refine cC f3 ?_ | refine cC f4 ?_ | refine cC f5 ?_ | refine cC f6 ?_)
             exact aR
           | true=>
             have F:=ai chAV.eq_1<|ai trAV.eq_1<|ai stAV.eq_1<|ai hm<|ai h2<|ai hq<|ai e1<|ai g1<|ai z1<|ai e4<|ai e5<|ai e6<|e7
             repeat (first | refine st ?_ | refine cC f1 ?_ | refine cC f2 ?_ | refine cC f3 ?_ | refine cC f4 ?_ | refine cC f5 ?_ | refine cC f6 ?_)
             exact aR
   | false=>
     have g2:=g2 rfl
     obtain rfl:b2=true:=by simpa using g3
     cases e4:(t.guard == []) with
     | true=>
       cases e6:zbE c.vars.length c.states.length t.acts with
       | false=>
         have F:=ai chAV.eq_1<|ai trAV.eq_1<|ai stAV.eq_1<|ai hm<|ai h2<|ai hq<|ai e1<|ai g1<|ai g2<|ai z1<|ai e4<|e6
         repeat (first | refine st ?_ | refine cC f1 ?_ | refine cC f2 ?_ | refine cC f3 ?_ | refine cC f4 ?_ | refine cC f5 ?_ | refine cC f6 ?_)
         exact aR
       | true=>
         cases e7:(t.target == -1) with
         | false=>
           have F:=ai chAV.eq_1<|ai trAV.eq_1<|ai stAV.eq_1<|ai hm<|ai h2<|ai hq<|ai e1<|ai g1<|ai g2<|ai z1<|ai e4<|ai e6<|e7
           repeat (first | refine st ?_ | refine cC f1 ?_ | refine cC f2 ?_ | refine cC f3 ?_ | refine cC f4 ?_ | refine cC f5 ?_ | refine cC f6 ?_)
           exact aR
         | true=>
           have F:=ai chAV.eq_1<|ai trAV.eq_1<|ai stAV.eq_1<|ai hm<|ai h2<|ai hq<|ai e1<|ai g1<|ai g2<|ai z1<|ai e4<|ai e6<|e7
           repeat (first | refine st ?_ | refine cC f1 ?_ | refine cC f2 ?_ | refine cC f3 ?_ | refine cC f4 ?_ | refine cC f5 ?_ | refine cC f6 ?_)
           exact aR
     | false=>
       cases e5:zaK t.guard c.vars.length c.states.length with
       | false=>
         have F:=ai chAV.eq_1<|ai trAV.eq_1<|ai stAV.eq_1<|ai hm<|ai h2<|ai hq<|ai e1<|ai g1<|ai g2<|ai z1<|ai e4<|e5
         repeat (first | refine st ?_ | refine cC f1 ?_ | refine cC f2 ?_ | refine cC f3 ?_ | refine cC f4 ?_ | refine cC f5 ?_ | refine cC f6 ?_)
         exact aR
       | true=>
         cases e6:zbE c.vars.length c.states.length t.acts with
         | false=>
           have F:=ai chAV.eq_1<|ai trAV.eq_1<|ai stAV.eq_1<|ai hm<|ai h2<|ai hq<|ai e1<|ai g1<|ai g2<|ai z1<|ai e4<|ai e5<|e6
           repeat (first | refine st ?_ | refine cC f1 ?_ | refine cC f2 ?_ | refine cC f3 ?_ | refine cC f4 ?_ | refine cC f5 ?_ | refine cC f6 ?_)
           exact aR
         | true=>
           cases e7:(t.target == -1) with
           | false=>
             have F:=ai chAV.eq_1<|ai trAV.eq_1<|ai stAV.eq_1<|ai hm<|ai h2<|ai hq<|ai e1<|ai g1<|ai g2<|ai z1<|ai e4<|ai e5<|ai e6<|e7
             repeat (first | refine st ?_ | refine cC f1 ?_ | refine cC f2 ?_ | refine cC f3 ?_ | refine cC f4 ?_ | refine cC f5 ?_ | refine cC f6 ?_)
             exact aR
           | true=>
             have F:=ai chAV.eq_1<|ai trAV.eq_1<|ai stAV.eq_1<|ai hm<|ai h2<|ai hq<|ai e1<|ai g1<|ai g2<|ai z1<|ai e4<|ai e5<|ai e6<|e7
             repeat (first | refine st ?_ | refine cC f1 ?_ | refine cC f2 ?_ | refine cC f3 ?_ | refine cC f4 ?_ | refine cC f5 ?_ | refine cC f6 ?_)
             exact aR
  exact go (b1:=(t.event == [])) (b2:=zaA t.event) rfl (fun _=>rfl) hev
 cases e2:(t.event == [])
 ·cases e3:zaA t.event
  ·rw [Bool.or_false,Bool.and_false,Bool.false_and,Bool.false_and,Bool.false_and]
   refine zaa Tryz.func183 rfl Tryz.call183 (by rw [Tryz.ntmps183]; simp) ?_
   rw [Tryz.ntmps183,Tryz.results183]
   have F:=ai chAV.eq_1<|ai trAV.eq_1<|ai stAV.eq_1<|ai hm<|ai h2<|ai hq<|ai e1<|ai e2<|e3
   repeat (first | refine st ?_ | refine cC f1 ?_ | refine cC f2 ?_ | refine cC f3 ?_)
   exact aR
  ·simp only [Bool.or_true,Bool.true_and]
   exact body (by rw [e2,e3]; rfl)
 ·simp only [Bool.true_or,Bool.true_and]
  exact body (by rw [e2]; rfl)
end
section
open Go.RowKit
end
section
open Go.RowKit Go.ChangeShapes
section
variable {P:Program} {W:World} {nm:String} {ti tp te ts:TypeId} {ms:Array (String×TypeId)} {f:Field}
theorem ziQ (hi:P.underlying ti=some (.interface ms)) (hrow: ∀u,P.typeName? 3 u=some nm->u=tp)
 (hp:P.underlying tp=some (.pointer te)) (he:P.underlying te=some (.struct #[f])) (hft:f.type=ts) (hfo:f.offset=0) (hs:P.underlying ts=some .string) (hc:P.cellsOf te=1) (hcs:P.cellsOf ts=1):
 ∀(l:List (String×List UInt8)) (gs:List Nat) (ps:List MemPlace),DataW.LaidVars P W (l.map fun x=>(x.1, .iface nm (.ptr (.agg [.lit (.string x.2)])))) ps->
  l.map (fun x=>P.globalNamed x.1)=gs.map some->(∀g∈gs,(P.globals[g]?).map (·.type)=some ti)->
  (∀b off,MemPlace.cell b off∈ps->(∃c t,W.heap[b]? =some (.cells c t (0,0)))/\ ∀u v,W.cell? ⟨b,off,none⟩=some (.iface u v)->Value.okWide P W .any 0 u v)->
  ∃adl:List Addr,adl.length=gs.length/\(∀(i:Nat) (g:Nat) (a:Addr),gs[i]? =some g->adl[i]? =some a->W.cell? ⟨g,0,none⟩=some (.iface tp (.pointer (some a)))/\ ∃ca ta,W.heap[a.block]? =some (.cells ca ta (0,0)))/\
   (adl.map fun a=>MemPlace.cell a.block a.off).Sublist ps
 | [],gs,ps,_,hg,_,_=>by
   obtain rfl:gs=[]:=by cases gs<;>simp_all
   exact⟨[],rfl,by simp,by simp⟩
 |(n,text)::l,gs,ps,hv,hg,ht,hrows=>by
   obtain⟨g,gs,rfl⟩: ∃g gs',gs=g::gs':=by cases gs<;>simp_all
   simp only [List.map_cons,List.cons.injEq] at hg
   obtain⟨g0,t0,cs0,f0,p0,q0,hg0,ht0,hv0,hd0,hrest,rfl⟩:=hv
   obtain rfl:=Option.some.inj (hg.1.symm.trans hg0)
   obtain rfl:=Option.some.inj ((ht g (by simp)).symm.trans ht0)
   obtain⟨l0⟩:=cs0
   have ok0: ∀u v,l0=[.iface u v]->Value.okWide P W .any 0 u v:=fun u v e=>by
    subst e
    exact(hrows g 0 (by simp [MemPlace.row])).2 u v (by simpa using World.var?_cell hg0 hv0 0)
   obtain⟨a0,s0,rfl,_,_,_,rfl⟩:=errorString_of_trod hi hrow hp he hft hfo hs hc hcs hd0 ok0
   obtain⟨adl,h1,h2,h3⟩:=ziQ hi hrow hp he hft hfo hs hc hcs l gs q0 hrest hg.2 (fun g' h=>ht g' (by simp [h])) (fun b off h=>hrows b off (List.mem_append_right _ h))
   refine⟨a0::adl,by simp [h1], ?_, ?_⟩
   ·intro i g' a' hg' ha'
    cases i with
    | zero=>
      simp at hg' ha'
      subst hg' ha'
      exact⟨by simpa using World.var?_cell hg0 hv0 0,(hrows a0.block a0.off (by simp [MemPlace.row])).1⟩
    | succ i=>exact h2 i g' a' (by simpa using hg') (by simpa using ha')
   ·simp only [List.map_cons,MemPlace.row]
    exact List.Sublist.trans (List.Sublist.append (by simp:[MemPlace.cell a0.block a0.off].Sublist _) h3) (List.Sublist.append (List.sublist_append_right _ _) (List.Sublist.refl _))
end
theorem Tryz.row160: ∀u,Tryz.prog.typeName? 3 u=some "*errors.errorString" ->u=261:=
 fun u hu=>typeName_ptr_named (nm:= "errors.errorString") (by kernel_rfl) (by kernel_rfl) (by decide) u hu
section
open Go.WideShapes
variable {H:Type} {enc:TypeId×Value->H} {P:Program}
theorem zfa (hl:laidOutB P=true) {W W':World} (hb:Below W.heap.size W W'): ∀(ts:List TypeId) (vs:List Value) (ds:List (DataW H)) (ps:List MemPlace),
 (∀t∈ts,P.readableRec t=true/\t<P.types.size)->(∀x∈ps,x.block<W.heap.size)->DataW.TrodAll enc P W 0 (fun _=>true) true ts vs ds ps->DataW.TrodAll enc P W' 0 (fun b=>decide (b<W.heap.size)) true ts vs ds ps
 | [],[],[],_,_,_,h=>h
 | t::ts,v::vs,d::ds,ps,ht,hp,h=>by
   obtain⟨p,q,h1,h2,rfl⟩:=h
   have r:=ht t (by simp)
   exact⟨p,q,Below.trod hl r.1 r.2 h1 hb (fun x hx=>hp x (List.mem_append_left _ hx)),zfa hl hb ts vs ds q (fun t' h'=>ht t' (by simp [h'])) (fun x hx=>hp x (List.mem_append_right _ hx)) h2,rfl⟩
 | [],_::_,_,_,_,_,h=>by cases h
 | [],[],_::_,_,_,_,h=>by cases h
 | _::_,[],_,_,_,_,h=>by cases h
 | _::_,_::_,[],_,_,_,h=>by cases h
theorem zk9 (hl:laidOutB P=true) {f:Func} {s:ChangeSpec} {tb:TypeId} {W W':World} {args:Array Value} {ds gs:List (DataW H)} {before:List MemPlace}
 (hpar: ∀t∈f.params.toList,P.readableRec t=true/\t<P.types.size) (hrt:f.resultTypes= #[tb]) (htb:P.underlying tb=some .bool)
 (hW:DataW.Whole enc P f.params.toList s.vars false W args.toList ds gs before) (hv:s.vars=[])
 (hs:gs=[]->s.fn H (ds++gs)={ results:=[.lit (.bool true)],args:=ds }) (hb:Below W.heap.size W W'):s.post enc P f false true false false W args (.bool true) W':=by
 have hlt: ∀p∈before,p.block<W.heap.size:=fun p hp=>hW.lt p hp
 have hW':=hW
 obtain⟨p,q,hA,hV,rfl,_,_⟩:=hW
 rw [hv] at hV
 obtain⟨rfl,rfl⟩:=trodVars_none hV
 have hs:=hs rfl
 rw [List.append_nil] at hlt
 refine⟨ds,[],p++[],[],p,[],hW', ?_, ?_, ?_, ?_,fun h=>by cases h⟩
 ·rw [hs,hrt]
  exact trodAll_mk1 (shut_bool htb true)
 ·rw [hs]
  exact zfa hl hb _ _ _ _ hpar hlt hA
 ·rw [hs,hv]
  rfl
 ·exact World.keptBut_mono (fun x hx=>⟨hx, .inr (.inl (by simpa using hx))⟩) (hb.frame (· ∈p++[]))
end
section
open Go.WideShapes
variable {H:Type} {enc:TypeId×Value->H} {P:Program} {w:World} {base:Nat} {spare:Nat->Bool} {held:Bool}
end
theorem zhF {W:World} (h:laidMetH Tryz.prog [("scrinium/api.ErrForm",Rows.laid_scrinium_api_ErrForm),("scrinium/api.ErrRange",Rows.laid_scrinium_api_ErrRange),("scrinium/api.ErrFull",Rows.laid_scrinium_api_ErrFull),("scrinium/api.ErrNone",Rows.laid_scrinium_api_ErrNone),("scrinium/api.ErrCorrupt",Rows.laid_scrinium_api_ErrCorrupt),("scrinium/api.ErrFuel",Rows.laid_scrinium_api_ErrFuel),("scrinium/api.ErrState",Rows.laid_scrinium_api_ErrState),("scrinium/api.ErrLong",Rows.laid_scrinium_api_ErrLong),("scrinium/api.ErrTwice",Rows.laid_scrinium_api_ErrTwice)] W): ∃ad,Sents W ad:=by
 rw [MakeChecks.laidMetH_plain _ _ _ (by kernel_rfl)] at h
 obtain⟨ps,hv,hnd,hrows⟩:=h
 obtain⟨adl,h1,h2,h3⟩:=ziQ (nm:= "*errors.errorString") Tryz.underlying51 Tryz.row160 Tryz.underlying261 Tryz.underlying281 rfl rfl Tryz.underlying9 (by kernel_rfl) (by kernel_rfl)
  [("scrinium/api.ErrForm",[102,111,114,109]),("scrinium/api.ErrRange",[114,97,110,103,101]),("scrinium/api.ErrFull",[102,117,108,108]),("scrinium/api.ErrNone",[110,111,110,101]),("scrinium/api.ErrCorrupt",[99,111,114,114,117,112,116]),("scrinium/api.ErrFuel",[102,117,101,108]),("scrinium/api.ErrState",[115,116,97,116,101]),("scrinium/api.ErrLong",[108,111,110,103]),("scrinium/api.ErrTwice",[116,119,105,99,101])] [1,2,3,4,5,6,0,7,8] ps hv (by kernel_rfl) (by
    intro g hg
    simp at hg
    rcases hg with rfl | rfl | rfl | rfl | rfl | rfl | rfl | rfl | rfl<;>kernel_rfl) hrows
 have hnd':=List.Nodup.sublist h3 hnd
 match adl,h1 with
 | [a1,a2,a3,a4,a5,a6,a7,a8,a9],_=>
   refine⟨fun i=>[a1,a2,a3,a4,a5,a6,a7,a8,a9].getD (i-1) a1,h2 0 _ _ rfl rfl,h2 1 _ _ rfl rfl,h2 2 _ _ rfl rfl,h2 3 _ _ rfl rfl,h2 4 _ _ rfl rfl,h2 5 _ _ rfl rfl,h2 6 _ _ rfl rfl,h2 7 _ _ rfl rfl,h2 8 _ _ rfl rfl, ?_⟩
   intro i j hi hi' hj hj' e
   have hinj: ∀x y,x<9->y<9->[a1,a2,a3,a4,a5,a6,a7,a8,a9].getD x a1=[a1,a2,a3,a4,a5,a6,a7,a8,a9].getD y a1->x=y:=by
    intro x y hx hy e
    generalize hl:[a1,a2,a3,a4,a5,a6,a7,a8,a9]=l at*
    have hlen:l.length=9:=by rw [<-hl]; rfl
    have ex:l.getD x a1=l[x]'(by omega):=by simp [List.getD,List.getElem?_eq_getElem (show x<l.length by omega)]
    have ey:l.getD y a1=l[y]'(by omega):=by simp [List.getD,List.getElem?_eq_getElem (show y<l.length by omega)]
    rw [ex,ey] at e
    have:=(List.getElem_inj hnd' (i:=x) (j:=y) (h₀:=by simp; omega) (h₁:=by simp; omega)).1 (by simp only [List.getElem_map]; rw [e])
    exact this
   have:=hinj (i-1) (j-1) (by omega) (by omega) e
   omega
end
section
open Go.RowKit Go.ChangeShapes
theorem zl5 (env:Env) (a1 a8:Addr) (he:ChEnv env a1 a8) (c:ChD) (hc:zdq c):Con Tryz.prog env 135 [.agg (chAV c)] (zh5 a1 a8 c):=
 zns env a1 a8 he c hc (fun hn i v hv=>zpd env c (by omega) i v hv (hc.2.1.2 v (List.mem_of_getElem? hv))) (fun hn i s hs=>zl2 env a1 a8 he c (by omega) i s hs (hc.2.2.1.2 s (List.mem_of_getElem? hs))) (fun t ht=>znq env a1 a8 he c t (hc.2.2.2.2 t ht))
end

end Go.Proofs.YtlmekdfleciejaaGreatDoor