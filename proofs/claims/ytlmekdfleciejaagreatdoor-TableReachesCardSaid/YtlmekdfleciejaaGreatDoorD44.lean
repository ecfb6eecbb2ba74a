/- Sorted numbers; what is closed. -/
import Derived.Test.YtlmekdfleciejaaGreatDoorD43
import Derived.Test.YtlmekdfleciejaaGreatDoorD7
import Derived.Test.YtlmekdfleciejaaGreatDoorD23
import Derived.Test.YtlmekdfleciejaaGreatDoorD14
import Derived.Test.YtlmekdfleciejaaGreatDoorD16
import Derived.Test.YtlmekdfleciejaaGreatDoorD33
set_option maxRecDepth 100000
set_option maxHeartbeats 16000000
set_option linter.unusedSimpArgs false
namespace Go.Proofs.YtlmekdfleciejaaGreatDoor
section
open Go.RowKit
def stayL (G act:List Int):List Int:=act.filter fun i=> !G.contains i
def moved (G act:List Int) (T:List Nat):List Int:=Lib.compact (zeK (stayL G act++zL T))
theorem zm3 (l:List Int):(zeK l).length=l.length:=by unfold zeK; rw [List.length_mergeSort]
theorem zny (env:Env) (a1 a8:Addr) (he:ChEnv env a1 a8) (c:ChD) (h:Full c) (hs:Small c) (act:List Int) (hl:act.length<=1000) (k:Nat) (t:TrD) (ht:c.trans[k]? =some t) (hb:lgB c act=true) (htg:inZ c t.target=true) (hgl:(leaveR c act t).length<=1000) (hg: ∀x∈leaveR c act t,inZ c x=true/\memL c x=[]) (htl:(tgtL c t.src t.target []).length<=1000):
 Con Tryz.prog env 51 [zai c, .seq 1 (act.map intAV),I k,nilS] (.tuple [.seq 1 ((moved (leaveR c act t) act (tgtL c t.src t.target [])).map intAV),nilS,nilE]):=by
 have f0:=zoX env a1 a8 he c h hs act (by omega) k t ht hb
 have f1:=zmy env c
 have f2:=zhI env c h hs act (leaveR c act t) (by omega) hg
 have f3:=ze0 env (act.map intAV) (by rw [List.length_map]; omega)
 have f4:=zjx env act (fun i=>(leaveR c act t).contains i) 104 (leaveR c act t) 35 (zpr env _ (by omega)) (by omega)
 have f5:=zhx env c hs k t ht
 have f6:Con Tryz.prog env 106 [zai c, .agg (trAV t),nilS] _:=(zgR env c h hs t (h.src ht).1 htg [] (by simp) (by simp) rfl).args (.cons (.refl _) (.cons (.refl _) (.cons (.nil 2) .nil)))
 have q0:0<=t.target:=(zag.1 htg).1
 have hsl:(stayL (leaveR c act t) act).length<=1000:=Nat.le_trans (List.length_filter_le ..) hl
 have hf:Fits ((stayL (leaveR c act t) act).length+(tgtL c t.src t.target []).length) 8:=zah (by omega) (by omega)
 rw [show (act.filter fun i=> !(leaveR c act t).contains i)=stayL (leaveR c act t) act from rfl] at f4
 generalize leaveR c act t=G at*
 generalize tgtL c t.src t.target []=T at*
 unfold moved
 generalize stayL G act=L at*
 have hz:(zL T).map intAV=T.map zae:=ze8 T
 have g1:=zj4 (L++zL T) (by rw [List.length_append,zdQ]; omega)
 have g2:=zhh (zeK (L++zL T)) (by rw [zm3,List.length_append,zdQ]; omega)
 unfold trAV at f5 f6
 unfold zai at f0 f1 f2 f5 f6 |-
 refine zaa Tryz.func51 rfl Tryz.call51 (by rw [Tryz.ntmps51]; simp) ?_
 rw [Tryz.ntmps51,Tryz.results51]
 have F:=q0
 repeat (first | refine st ?_ | refine cC f0 ?_ | refine cC f1 ?_ | refine cC f2 ?_ | refine cC f3 ?_)
 refine zeD [(1000,39),(1001,11)] rfl (f4) (by decide) (by decide) (by simp only [go_sem,F]<;>rfl) (by simp only [go_sem,F,and_self]<;>trivial) (by simp only [go_sem,F,and_self]<;>trivial) (by intro o; simp only [go_sem,F,behind,and_self]<;>trivial) (by intro o; simp only [go_sem,F]<;>rfl) (by simp only [go_sem,F,behind]; exact iR) (by simp only [go_sem,F,behind]; exact iR) ?_
 have F:=ai q0<|hf
 repeat (first | refine st ?_ | refine cC f5 ?_ | refine cC f6 ?_)
 have hap:(L++zL T).map intAV=L.map intAV++T.map zae:=by rw [List.map_append,hz]
 refine zn9 39 rfl (row:=⟨1,(L++zL T).map intAV,3,true⟩) g1 (Nat.succ_ne_zero 0) rfl (zbc _).symm (by simp only [go_sem]; exact iR) (by simp only [go_sem,hap]; exact iR) (by simp only [go_sem]; exact iR) (by simp only [go_sem]; exact iR) ?_
 rw [zbc]
 repeat refine st ?_
 refine zfP 39 rfl (row:=⟨1,(zeK (L++zL T)).map intAV,3,true⟩) g2 (Nat.succ_ne_zero 0) rfl (zbc _).symm (by simp only [go_sem]; exact iR) (by simp only [go_sem]; exact iR) (by simp only [go_sem]; exact iR) (by simp only [go_sem]; exact iR) iR ?_
 rw [zbc]
 repeat refine st ?_
 exact aR
end
section
open Go.RowKit Go.ChangeShapes
theorem Tryz.tabArr:Tryz.prog.underlying 236=some (.array 32 5):=by kernel_rfl
theorem zqA:Tryz.prog.cellsOf 5=1:=by kernel_rfl
theorem zqM {W:World} {g t:Nat} {cs:Array Value} {fuel:Nat} {p:List MemPlace} (hg:Tryz.prog.globalNamed "math/bits.deBruijn32tab" =some g) (ht:(Tryz.prog.globals[g]?).map (·.type)=some t) (hv:W.var? Tryz.prog "math/bits.deBruijn32tab" =some cs)
 (hd:DataW.trod (fun _=>()) Tryz.prog W 0 (fun _=>true) false fuel t cs.toList=some (Rows.laid_math_bits_deBruijn32tab,p)):TabAt W:=by
 obtain rfl:10=g:=Option.some.inj ((show Tryz.prog.globalNamed "math/bits.deBruijn32tab" =some 10 by kernel_rfl).symm.trans hg)
 obtain rfl:236=t:=Option.some.inj ((show (Tryz.prog.globals[10]?).map (·.type)=some 236 by kernel_rfl).symm.trans ht)
 obtain⟨xs,m,_,hx,_,hxl,hgx⟩:=DataW.trod_array Tryz.tabArr hd
 simp only [Prod.mk.injEq] at hx
 intro j hj
 have h1:=hgx j hj
 rw [zqA,Nat.mul_one] at h1
 have hjx:xs[j]? =some (xs[j]'(by omega)):=List.getElem?_eq_getElem _
 rw [hjx] at h1
 obtain⟨nn,e1,e2,_⟩:=DataW.trod_int Tryz.underlying5 h1
 have hcell:cs[j]? =some (.int .u8 nn):=by
  have:((cs.toList.drop j).take 1)[0]? =some (.int .u8 nn):=by rw [e1]; rfl
  rw [List.getElem?_take,if_pos (by omega),List.getElem?_drop,Nat.add_zero] at this
  simpa using this
 have hval:(Rows.laid_math_bits_deBruijn32tab:DataW Unit)= .agg (xs.map (·.1)):=hx.1
 have hlist:(xs.map (·.1))[j]? =(Lib.deBruijn32tab.map fun(k:Nat)=>DataW.lit (H:=Unit) (.int .u8 (k:Int)))[j]? :=by
  have e:(Lib.deBruijn32tab.map fun(k:Nat)=>DataW.lit (H:=Unit) (.int .u8 (k:Int)))=xs.map (·.1):=by
   have:DataW.agg (Lib.deBruijn32tab.map fun(k:Nat)=>DataW.lit (H:=Unit) (.int .u8 (k:Int)))=DataW.agg (xs.map (·.1)):=by
    rw [<-hval]
    rfl
   injection this
  rw [e]
 rw [List.getElem?_map,hjx,List.getElem?_map] at hlist
 have hdb:Lib.deBruijn32tab[j]? =some (Lib.deBruijn32tab.getD j 0):=by
  have:j<Lib.deBruijn32tab.length:=by simpa [Lib.deBruijn32tab] using hj
  simp [List.getD,List.getElem?_eq_getElem this]
 rw [hdb] at hlist
 simp only [Option.map_some,Option.some.injEq,e2] at hlist
 have hn:nn=((Lib.deBruijn32tab.getD j 0:Nat):Int):=by
  have:=hlist
  injection this with this
  injection this
 rw [World.var?_cell hg hv j,hcell,hn]
theorem zlt {P:Program} {env:Env} {f:FuncId} {cs:List AV} {u:Value} {w:World} {vs:List Value} (h:Con P env f cs (.lit u)) (hE:EnvOk env (fun b _=>b<w.heap.size) w) (hv:RAs (fun b _=>b<w.heap.size) w vs cs):
 Calls P f vs.toArray w fun e w'=>e= .returned u/\Below w.heap.size w w':=(zpG h hE (fun _ _ _=>by simp) hv).mono (by
 rintro e w' ⟨v,rfl,hb,_,hv⟩
 exact⟨by rw [hv.lit_inv],hb⟩)
end
section
open Go.RowKit Go.ChangeShapes
theorem ziP {W:World} (h:laidMetH Tryz.prog [("math/bits.deBruijn32tab",Rows.laid_math_bits_deBruijn32tab),("scrinium/api.ErrForm",Rows.laid_scrinium_api_ErrForm),("scrinium/api.ErrRange",Rows.laid_scrinium_api_ErrRange),("scrinium/api.ErrFull",Rows.laid_scrinium_api_ErrFull),("scrinium/api.ErrNone",Rows.laid_scrinium_api_ErrNone),("scrinium/api.ErrCorrupt",Rows.laid_scrinium_api_ErrCorrupt),("scrinium/api.ErrFuel",Rows.laid_scrinium_api_ErrFuel),("scrinium/api.ErrState",Rows.laid_scrinium_api_ErrState),("scrinium/api.ErrLong",Rows.laid_scrinium_api_ErrLong),("scrinium/api.ErrTwice",Rows.laid_scrinium_api_ErrTwice)] W):(∃ad,Sents W ad)/\TabAt W:=by
 rw [MakeChecks.laidMetH_plain _ _ _ (by kernel_rfl)] at h
 obtain⟨ps,hv,hnd,hrows⟩:=h
 obtain⟨g0,t0,cs0,f0,p0,q0,hg0,ht0,hv0,hd0,hrest,rfl⟩:=hv
 refine⟨zhF ?_,zqM hg0 ht0 hv0 hd0⟩
 rw [MakeChecks.laidMetH_plain _ _ _ (by kernel_rfl)]
 exact⟨q0,hrest,(List.nodup_append.1 hnd).2.1,fun b off hh=>hrows b off (List.mem_append_right _ hh)⟩
def zaJ:More:=⟨fun w=>TabAt w,fun _ _ h hb=>TabAt.below h hb⟩
theorem zk8 (ad:Nat->Addr):ChEnv (zaI ad zaJ) (ad 1) (ad 8):=⟨rfl,rfl⟩
theorem zem (ad:Nat->Addr): ∀W,(zaI ad zaJ).inv W->TabAt W:=fun _ h=>h.2
end
section
open Go.RowKit
theorem zd4 (env:Env) (c:ChD):Con Tryz.prog env 66 [.agg (chAV c)] (B (zgf c)):=by
 unfold zgf
 by_cases h1:(c.states.length:Int)<=40<;>by_cases h2:(c.trans.length:Int)<=70<;>by_cases h3:(c.vars.length:Int)<=10
 all_goals (refine zaa Tryz.func66 rfl Tryz.call66 (by rw [Tryz.ntmps66]; simp) ?_
            rw [Tryz.ntmps66,Tryz.results66])
 all_goals have F:=ai chAV.eq_1<|ai h1<|ai h2<|h3
 all_goals (repeat refine st ?_)
 all_goals ((refine zak ?_; show (zaz _ _ _).run _=some _; simp only [go_sem,F]))
theorem zge (env:Env) (c:ChD) (h:zfx c=false):Con Tryz.prog env 43 [.agg (chAV c)] (.lit (.pointer none)):=by
 have f0:=zd4 env c
 have f1:=zeO env c
 unfold zfx at h
 cases h1:zgf c
 ·rw [h1] at f0
  refine zaa Tryz.func43 rfl Tryz.call43 (by rw [Tryz.ntmps43]; simp) ?_
  rw [Tryz.ntmps43,Tryz.results43]
  repeat (first | refine st0 ?_ | refine cC0 f0 ?_ | refine cC0 f1 ?_)
  exact aR0
 ·rw [h1] at f0
  rw [h1,Bool.true_and] at h
  rw [h] at f1
  refine zaa Tryz.func43 rfl Tryz.call43 (by rw [Tryz.ntmps43]; simp) ?_
  rw [Tryz.ntmps43,Tryz.results43]
  repeat (first | refine st0 ?_ | refine cC0 f0 ?_ | refine cC0 f1 ?_)
  exact aR0
theorem zg1 (env:Env) (a1 a8:Addr) (he:ChEnv env a1 a8) (hT: ∀W,env.inv W->TabAt W) (c:ChD) (hcf:zdq c) (h:zfx c=true):Con Tryz.prog env 43 [.agg (chAV c)] (zai c):=by
 have f0:=zd4 env c
 have f1:=zeO env c
 unfold zfx at h
 rw [Bool.and_eq_true] at h
 rw [h.1] at f0
 rw [h.2] at f1
 rw [beq_iff_eq] at h
 have f2:=zii env a1 a8 he hT c (zq6 h.2) hcf
 unfold zai at f2 |-
 refine zaa Tryz.func43 rfl Tryz.call43 (by rw [Tryz.ntmps43]; simp) ?_
 rw [Tryz.ntmps43,Tryz.results43]
 repeat (first | refine st0 ?_ | refine cC0 f0 ?_ | refine cC0 f1 ?_ | refine cC0 f2 ?_)
 exact aR0
theorem zn8 {c:ChD} (h:zfx c=true):(chk c).1=0:=by
 unfold zfx at h
 rw [Bool.and_eq_true,beq_iff_eq] at h
 exact h.2
theorem zdZ (ad:Nat->Addr) (mo:More) (k:Nat) (hk:1<=k/\k<=9) (p:Int) (ps:List Int):Con Tryz.prog (zaI ad mo) 58 [errV p (chainV ps (sentV (ad k))),I k] (B true):=by
 have f0:Con Tryz.prog (zaI ad mo) 97 [errV p (chainV ps (sentV (ad k)))] (I k):=zmt ad mo k hk (p::ps)
 have b0:(((k:Nat):Int)==0)=false:=by simp; omega
 generalize chainV ps (sentV (ad k))=X at*
 refine zaa Tryz.func58 rfl Tryz.call58 (by rw [Tryz.ntmps58]; simp) ?_
 rw [Tryz.ntmps58,Tryz.results58]
 have F:=b0
 repeat (first | refine st ?_ | refine cC f0 ?_)
 exact aR
def wakeE:ChD:=⟨[99],0,[],[⟨[97],1, -1,1,[],[]⟩,⟨[98],1,0, -1,[],[]⟩,⟨[100],1,0, -1,[],[]⟩],[⟨1,[],[],[],2⟩]⟩
def zmO:List AV:=[Sg [99],I 0,nilS, .seq 6 [[Sg [97],I 1,I (-1),I 1,nilS,nilS],[Sg [98],I 1,I 0,I (-1),nilS,nilS],[Sg [100],I 1,I 0,I (-1),nilS,nilS]], .seq 5 [[I 1,Sg [],nilS,nilS,I 2]]]
theorem zjS (n:List UInt8) (k p i:Int):Strs [Sg n,I k,I p,I i,nilS,nilS] (stAV ⟨n,k,p,i,[],[]⟩):= .cons (.refl _) (.cons (.refl _) (.cons (.refl _) (.cons (.refl _) (.cons (.nil 4) (.cons (.nil 4) .nil)))))
theorem zmM:Strs [.agg zmO] [.agg (chAV wakeE)]:=by
 refine .one (.agg (.cons (.refl _) (.cons (.refl _) (.cons (.nil 2) (.cons (.seqs ?_) (.cons (.seqs ?_) .nil))))))
 ·exact .cons (zjS ..) (.cons (zjS ..) (.cons (zjS ..) .nil))
 ·exact .cons (.cons (.refl _) (.cons (.refl _) (.cons (.nil 2) (.cons (.nil 4) (.cons (.refl _) .nil))))) .nil
theorem zmN:zdq wakeE:=by simp [zdq,zji,zjh,wakeE,maxLen]
theorem zif:chk wakeE=(0, -1):=by decide+kernel
theorem wakeE_gone:leaveR wakeE [0,1] ⟨1,[],[],[],2⟩=[1]:=by decide+kernel
theorem zie:tgtL wakeE 1 2 []=[2]:=by decide+kernel
theorem zjO:moved [1] [0,1] [2]=[0,2]:=by
 have h1:stayL [1] [0,1]++zL [2]=[0,2]:=by decide+kernel
 have h2:zeK [0,2]=[0,2]:=List.mergeSort_of_pairwise (by decide)
 unfold moved
 rw [h1,h2]
 decide+kernel
theorem zeP (env:Env) (n:List UInt8) (p i:Int):Con Tryz.prog env 100 [Sg n,I p,I i] (.agg [Sg n,I 1,I p,I i,nilS,nilS]):=by
 refine zaa Tryz.func100 rfl Tryz.call100 (by rw [Tryz.ntmps100]; simp) ?_
 rw [Tryz.ntmps100,Tryz.results100]
 repeat refine st0 ?_
 exact aR0
theorem zgA (env:Env) (a1 a8:Addr) (he:ChEnv env a1 a8) (hT: ∀W,env.inv W->TabAt W):Con Tryz.prog env 45 [] (B true):=by
 have h0:(chk wakeE).1=0:=by rw [zif]
 have h:=full_of h0
 have hsm:=zfA h0
 have f0:=(zii env a1 a8 he hT wakeE zif zmN).args zmM
 have f1:=zny env a1 a8 he wakeE h hsm [0,1] (by decide) 0 ⟨1,[],[],[],2⟩ rfl (by decide+kernel) (by decide+kernel) (by rw [wakeE_gone]; decide) (fun x hx=>by rw [wakeE_gone] at hx; rw [List.mem_singleton.1 hx]; decide+kernel) (by rw [zie]; decide)
 rw [wakeE_gone,zie,zjO] at f1
 have f2:=zfb env [0,2] [0,2] (by decide)
 rw [decide_eq_true rfl] at f2
 have p1:=zeP env [97] (-1) 1
 have p2:=zeP env [98] 0 (-1)
 have p3:=zeP env [100] 0 (-1)
 change Con _ _ _ [_, .seq 1 [[I 0],[I 1]],I 0,nilS] (.tuple [.seq 1 [[I 0],[I 2]],nilS,nilE]) at f1
 change Con _ _ _ [.seq 1 [[I 0],[I 2]], .seq 1 [[I 0],[I 2]]] _ at f2
 unfold zmO at f0
 unfold zai at f0 f1
 generalize tabCells wakeE=T at*
 refine zaa Tryz.func45 rfl Tryz.call45 (by rw [Tryz.ntmps45]; simp) ?_
 rw [Tryz.ntmps45,Tryz.results45]
 repeat (first | refine st0 ?_ | refine cC0 p1 ?_ | refine cC0 p2 ?_ | refine cC0 p3 ?_ | refine cC0 f0 ?_ | refine cC0 f1 ?_ | refine cC0 f2 ?_)
 exact aR0
end
section
open Go.RowKit
theorem zg4 (env:Env) (x:Int):Con Tryz.prog env 240 [I x] (B false):=by
 have e1:(x==x)=true:=by simp
 refine zaa Tryz.func240 rfl Tryz.call240 (by rw [Tryz.ntmps240]; simp) ?_
 rw [Tryz.ntmps240,Tryz.results240]
 have F:=ai e1<|bneA
 repeat refine st ?_
 exact aR
theorem znM (env:Env) (x y:Int):Con Tryz.prog env 206 [I x,I y] (B (decide (x<y))):=by
 have f0:=zg4 env x
 have f1:=zg4 env y
 by_cases h:x<y
 ·rw [decide_eq_true h]
  refine zaa Tryz.func206 rfl Tryz.call206 (by rw [Tryz.ntmps206]; simp) ?_
  rw [Tryz.ntmps206,Tryz.results206]
  have F:=h
  repeat (first | refine st ?_ | refine cC f0 ?_ | refine cC f1 ?_)
  exact aR
 ·rw [decide_eq_false h]
  refine zaa Tryz.func206 rfl Tryz.call206 (by rw [Tryz.ntmps206]; simp) ?_
  rw [Tryz.ntmps206,Tryz.results206]
  have F:=h
  repeat (first | refine st ?_ | refine cC f0 ?_ | refine cC f1 ?_)
  exact aR
theorem zj1 {l:List Int} {n:Nat} (h: ∀j,n<=j->j<l.length->zdl l j=true) (hn:n<=1):zc9 l=true:=by
 unfold zc9
 rw [List.all_eq_true]
 intro j hj
 have hj:=List.mem_range.1 hj
 by_cases h0:n<=j
 ·exact h j h0 hj
 ·obtain rfl:j=0:=by omega
  rfl
theorem zlQ {l:List Int} {j:Nat} (hj:j<l.length) (h:zdl l j=false):zc9 l=false:=by
 unfold zc9
 rw [List.all_eq_false]
 exact⟨j,List.mem_range.2 hj,by rw [h]; simp⟩
theorem ziV (env:Env) (l:List Int) (hl:l.length<=9223372036854775807):Con Tryz.prog env 211 [.seq 1 (l.map intAV)] (B (zc9 l)):=by
 have w0:IntKind.i64.wrap ((l.length:Int)-1)=(l.length:Int)-1:=IntWalk.i64_in _ (by omega)
 refine zaa Tryz.func211 rfl Tryz.call211 (by rw [Tryz.ntmps211]; simp) ?_
 rw [Tryz.ntmps211,Tryz.results211]
 have F:=w0
 repeat refine st ?_
 refine zab (D:=Nat) (fun j vs=>[(0, .seq 1 (l.map intAV)),(3,I ((l.length:Int)-1-(j:Int)))]) (fun _ _=>[]) (fun j _ _=>j<=l.length/\ ∀m,l.length-j<=m->m<l.length->zdl l m=true) (fun j=>l.length-j) 0 ?_ ?_ ?_ ?_
 ·exact⟨Nat.zero_le _,fun m h1 h2=>absurd h2 (by omega)⟩
 ·(simp only [go_sem,Int.sub_zero])
  try rfl
 ·(simp only [go_sem,Int.sub_zero])
  try rfl
 rintro j ws esc ⟨hj,hall⟩
 by_cases hlt:0< (l.length:Int)-1-(j:Int)
 ·have hi: ∃i:Nat,(l.length:Int)-1-(j:Int)=(i:Int)/\i+j+1=l.length:=⟨l.length-1-j,by omega,by omega⟩
  obtain⟨i,e1,e2⟩:=hi
  have h1:i<l.length:=by omega
  have h2:i-1<l.length:=by omega
  have x1:l[i]? =some (l.getD i 0):=by rw [List.getD_eq_getElem?_getD,List.getElem?_eq_getElem h1]; rfl
  have x2:l[i-1]? =some (l.getD (i-1) 0):=by rw [List.getD_eq_getElem?_getD,List.getElem?_eq_getElem h2]; rfl
  have e3:IntKind.i64.wrap ((i:Int)-1)=((i-1:Nat):Int):=by rw [IntWalk.i64_in _ (by omega)]; omega
  have q1:(0:Int)< (i:Int):=by omega
  have q2:(i:Int)< (l.length:Int):=by omega
  have q3:((i-1:Nat):Int)< (l.length:Int):=by omega
  have hd:zdl l i=decide (¬l.getD i 0<l.getD (i-1) 0):=by
   unfold zdl
   rw [show (i==0)=false by simp; omega,Bool.false_or]
  rw [e1]
  generalize hX:l.getD i 0=X at*
  generalize hY:l.getD (i-1) 0=Y at*
  have f0:=znM env X Y
  by_cases hb:X<Y
  ·rw [decide_eq_true hb] at f0
   rw [zlQ h1 (by rw [hd,decide_eq_false (by simpa using hb)])]
   have F:=ai q1<|ai q2<|ai q3<|ai x1<|ai x2<|e3
   repeat (first | refine st ?_ | refine cC f0 ?_)
   exact aR
  ·rw [decide_eq_false hb] at f0
   have e4:(l.length:Int)-1-((j+1:Nat):Int)=((i-1:Nat):Int):=by omega
   have F:=ai q1<|ai q2<|ai q3<|ai x1<|ai x2<|e3
   repeat (first | refine st ?_ | refine cC f0 ?_)
   refine⟨j+1,⟨by omega,fun m g1 g2=> ?_⟩, ?_, ?_,by omega⟩
   ·by_cases hm:m=i
    ·rw [hm,hd,decide_eq_true hb]
    ·exact hall m (by omega) g2
   ·have F:=e4
    (simp only [go_sem,F])
   ·(simp only [go_sem,e4])
 ·rw [zj1 (n:=l.length-j) hall (by omega)]
  have F:=hlt
  repeat refine st ?_
  exact aR
theorem zmu (env:Env) (c:ChD) (h:Full c) (hs:Small c) (parent:Int) (l:List Int) (hl:l.length<=1000000) (hz: ∀x∈l,inZ c x=true):Con Tryz.prog env 212 [zai c,I parent, .seq 1 (l.map intAV)] (B (l.all (za6 c l))):=by
 have f0:=zaG env c hs
 unfold zai at f0 |-
 refine zaa Tryz.func212 rfl Tryz.call212 (by rw [Tryz.ntmps212]; simp) ?_
 rw [Tryz.ntmps212,Tryz.results212]
 have F:=chAV.eq_1
 repeat (first | refine st ?_ | refine cC f0 ?_)
 refine zab (D:=Nat) (fun j vs=>[(0, .ref 9 [tabCells c] 0 0),(2, .seq 1 (l.map intAV)),(7, .loc 7 (vs 7) 0 0),(16, .seq 1 (l.map intAV)),(17,I l.length),(18,I j)]) (fun _ _=>[(7,⟨5,[chAV c],26,false⟩)]) (fun j _ _=>j<=l.length/\ ∀m (y:Int),m<j->l[m]? =some y->za6 c l y=true) (fun j=>l.length-j) 0 ?_ ?_ ?_ ?_
 ·exact⟨Nat.zero_le _,fun m y hm=>absurd hm (by omega)⟩
 ·(simp only [go_sem,F])
  try rfl
 ·have F:=chAV.eq_1
  (simp only [go_sem,F])
  try rfl
 rintro j ws esc ⟨hj,hall⟩
 by_cases hlt:j<l.length
 ·obtain⟨x,hx⟩: ∃x,l[j]? =some x:=⟨l[j],List.getElem?_eq_getElem hlt⟩
  have q1:=nlt hlt
  have q2:=zac hlt (by omega)
  have hxl:=List.mem_of_getElem? hx
  obtain⟨k,s,rfl,hsk,hat⟩:=zb0 (hz x hxl)
  have hk:=(List.getElem?_eq_some_iff.1 hsk).1
  have q3:((k:Nat):Int)< (c.states.length:Int):=by omega
  have f1:=zbI env c h k
  rw [if_pos (.inr (hz _ hxl))] at f1
  have hcv:za6 c l (k:Int)= !(((s.kind==1)&&decide (1<manyI l (kidsL c k true)))||((s.kind==4)||(s.kind==5))):=by unfold za6; rw [hat]
  have hK:=zbz h.toRight k true
  have hlen:=h.few
  unfold zai at f1
  generalize kidsL c (k:Int) true=K at*
  have F:=ai hx<|ai q1<|q2
  repeat (first | refine st ?_ | refine cC f1 ?_)
  refine zab (D:=Nat) (fun m vs=>[(0, .ref 9 [tabCells c] 0 0),(2, .seq 1 (l.map intAV)),(7, .loc 7 (vs 7) 0 0),(9,I k),(10,I (manyI l (K.take m):Nat)),(16, .seq 1 (l.map intAV)),(17,I l.length),(18,I j),(24, .row 24 (vs 24)),(25,I K.length),(26,I m)]) (fun _ _=>[(7,⟨5,[chAV c],26,false⟩),(24,⟨1,K.map zae,3,true⟩)]) (fun m _ _=>m<=K.length) (fun m=>K.length-m) 0 ?_ ?_ ?_ ?_
  ·exact Nat.zero_le _
  ·(simp only [go_sem,F])
   try rfl
  ·have F:=chAV.eq_1
   (simp only [go_sem,F])
   try rfl
  rintro m us es hm
  by_cases hml:m<K.length
  ·obtain⟨y,hy⟩: ∃y,K[m]? =some y:=⟨K[m],List.getElem?_eq_getElem hml⟩
   have p1:=nlt hml
   have p2:=zac hml (by omega)
   have f2:=zb6 env l (y:Int) hl
   have hmt:=zkh (act:=l) hy
   have hle:=zkj l (K.take m)
   rw [List.length_take] at hle
   have p3:=zac (show manyI l (K.take m)<K.length by omega) (by omega)
   cases hb:l.contains (y:Int) with
   | true=>
     rw [hb] at f2 hmt
     rw [if_pos rfl] at hmt
     have F:=ai zae.eq_1<|ai hy<|ai p1<|ai p2<|p3
     repeat (first | refine st ?_ | refine cC f2 ?_)
     refine⟨m+1,hml, ?_, ?_,by omega⟩
     ·have F:=hmt
      (simp only [go_sem,F])
     ·have F:=chAV.eq_1
      (simp only [go_sem,F])
   | false=>
     rw [hb] at f2 hmt
     rw [if_neg Bool.false_ne_true,Nat.add_zero] at hmt
     have F:=ai zae.eq_1<|ai hy<|ai p1<|p2
     repeat (first | refine st ?_ | refine cC f2 ?_)
     refine⟨m+1,hml, ?_, ?_,by omega⟩
     ·have F:=hmt
      (simp only [go_sem,F])
     ·have F:=chAV.eq_1
      (simp only [go_sem,F])
  ·obtain rfl:m=K.length:=by omega
   have p1: ¬(K.length:Int)< (K.length:Int):=by omega
   rw [List.take_length]
   generalize manyI l K=N at*
   cases hC:za6 c l (k:Int) with
   | false=>
     rw [show l.all (za6 c l)=false from List.all_eq_false.2 ⟨_,hxl,by rw [hC]; simp⟩]
     cases h1:(s.kind==1)<;>cases h4:(s.kind==4)<;>cases h5:(s.kind==5)<;>by_cases hn:(1:Int)< (N:Int)
     all_goals first
      |(exfalso; have hn':(1<N)=((1:Int)< (N:Int)):=(by simp; omega); simp [hcv,h1,h4,h5,hn',hn] at hC; done)
      | skip
     all_goals
      have F:=ai chAV.eq_1<|ai stAV.eq_1<|ai hsk<|ai p1<|ai q3<|ai h1<|ai h4<|ai h5<|hn
      repeat refine st ?_
      exact aR
   | true=>
     cases h1:(s.kind==1)<;>cases h4:(s.kind==4)<;>cases h5:(s.kind==5)<;>by_cases hn:(1:Int)< (N:Int)
     all_goals first
      |(exfalso; have hn':(1<N)=((1:Int)< (N:Int)):=(by simp; omega); simp [hcv,h1,h4,h5,hn',hn] at hC; done)
      | skip
     all_goals
      have F:=ai chAV.eq_1<|ai stAV.eq_1<|ai hsk<|ai p1<|ai q2<|ai q3<|ai h1<|ai h4<|ai h5<|hn
      repeat refine st ?_
      refine⟨j+1,⟨hlt,fun m y hm hy=> ?_⟩, ?_, ?_,by omega⟩
      ·rcases Nat.lt_succ_iff_lt_or_eq.1 hm with e | e
       ·exact hall m y e hy
       ·rw [e,hx] at hy; cases hy; exact hC
      ·(simp only [go_sem,F])
      ·have F:=chAV.eq_1
       (simp only [go_sem,F])
 ·obtain rfl:j=l.length:=by omega
  have q1: ¬(l.length:Int)< (l.length:Int):=by omega
  rw [show l.all (za6 c l)=true from List.all_eq_true.2 fun y hy=>by
   obtain⟨m,hm⟩:=List.mem_iff_getElem?.1 hy
   exact hall m y (List.getElem?_eq_some_iff.1 hm).1 hm]
  have F:=q1
  repeat refine st ?_
  exact aR
end

end Go.Proofs.YtlmekdfleciejaaGreatDoor