/- The law EnterTargets. -/
import Derived.Test.YtbpmkofnfgdegaaGreatDoorM18
import Derived.Test.YtbpmkofnfgdegaaGreatDoorM8
import Derived.Test.YtbpmkofnfgdegaaGreatDoorM6
import Derived.Test.YtbpmkofnfgdegaaGreatDoorM11
import Derived.Test.YtbpmkofnfgdegaaGreatDoorM13
import Derived.Test.YtbpmkofnfgdegaaGreatDoorM9
import Derived.Test.YtbpmkofnfgdegaaGreatDoorM10
import Derived.Test.YtbpmkofnfgdegaaGreatDoorM17
import Derived.Test.YtbpmkofnfgdegaaGreatDoorM14
import Derived.Test.YtbpmkofnfgdegaaGreatDoorM7
set_option maxRecDepth 100000
set_option maxHeartbeats 16000000
set_option linter.unusedSimpArgs false
namespace Go.Proofs.YtbpmkofnfgdegaaGreatDoor
open Go.Proofs.Tryz
section
open Go.RowKit
theorem zbm {α:Type} {l:List α} {n:Nat} {x:α} (h:l[n]? =some x):l.take (n+1)=l.take n++[x]:=by rw [List.take_add_one,h]; rfl
theorem za0 {α:Type} {l:List α} {n:Nat} {x:α} (h:l[n]? =some x):l.drop n=x::l.drop (n+1):=by
 obtain⟨hn,he⟩:=List.getElem?_eq_some_iff.1 h;rw [List.drop_eq_getElem_cons hn,he]
def idxQ (p:Int->Bool):List Int->Option Nat
 | []=>none
 | d::l=>if p d=true then some 0 else(idxQ p l).map (· +1)
def idxJ:Option Nat->Int
 | some i=>i
 | none=> -1
theorem zjE {p:Int->Bool} : ∀ {l:List Int} {i:Nat},idxQ p l=some i->i<l.length/\l.take i=(l.take i).filter (fun d=> !p d)/\ ∃d,l[i]? =some d/\p d=true
 | [],i,h=>by simp [idxQ] at h
 | d::l,i,h=>by
   unfold idxQ at h;split at h
   ·rename_i hp;cases h;exact⟨by simp,by simp,d,rfl,hp⟩
   ·rename_i hp;cases hi:idxQ p l with
    | none=>rw [hi] at h; cases h
    | some j=>
      rw [hi] at h;cases h;obtain⟨h1,h2,x,h3,h4⟩:=zjE hi;refine⟨by simp; omega, ?_,x,by simpa using h3,h4⟩;have hp:p d=false:=by simpa using hp
      simp only [List.take_succ_cons,List.filter_cons,hp,Bool.not_false,if_true];rw [<-h2]
theorem zjF {p:Int->Bool} : ∀ {l:List Int},idxQ p l=none->l.filter (fun d=> !p d)=l/\ ∀d∈l,p d=false
 | [],h=>by simp
 | d::l,h=>by
   unfold idxQ at h;split at h
   ·cases h
   ·rename_i hp;have hp:p d=false:=by simpa using hp
    cases hi:idxQ p l with
    | some j=>rw [hi] at h; cases h
    | none=>
      obtain⟨h1,h2⟩:=zjF hi;refine⟨by simp only [List.filter_cons,hp,Bool.not_false,if_true,h1],fun x hx=> ?_⟩;rcases List.mem_cons.1 hx with rfl | hx
      ·exact hp
      ·exact h2 x hx
theorem zpx {p:Int->Bool} {l:List Int} {n:Nat} {d:Int} (hd:l[n]? =some d):idxQ p (l.drop n)=if p d=true then some 0 else(idxQ p (l.drop (n+1))).map (· +1):=by
 rw [za0 hd];rfl
theorem zlc (env:Env) (l:List Int) (p:Int->Bool) (g:FuncId) (caps:List (List AV)) (hp: ∀d,Con prog env g [I d, .ref 1 caps 0 0] (B (p d))) (hl:l.length<=4096):Con prog env 185 [.seq 1 (l.map intAV), .clo g [.ref 1 caps 0 0]] (I (idxJ (idxQ p l))):=by
 refine qf func185 call185 ntmps185 results185 ?_;repeat refine st0 ?_
 refine zab (D:=Nat) (fun n vs=>[(0, .seq 1 (l.map intAV)),(1, .clo g [.ref 1 caps 0 0]),(7,I l.length),(8,I n)]) (fun n vs=>[]) (fun n _ esc=>n<=l.length/\idxQ p l=(idxQ p (l.drop n)).map (· +n)) (fun n=>l.length-n) 0 ?_ ?_ ?_ ?_
 ·exact⟨Nat.zero_le _,by simp⟩
 ·exact qe0
 ·exact qe0
 rintro n vs esc ⟨hn,hi⟩;by_cases hlt:n<l.length
 ·obtain⟨d,hd⟩: ∃x,l[n]? =some x:=⟨l[n],List.getElem?_eq_getElem hlt⟩;have g1:=nlt hlt;have g2:=zaa hlt (by omega);have f1:=hp d;rw [zpx hd] at hi;cases h1:p d
  ·rw [h1] at hi f1;simp only [Bool.false_eq_true,if_false] at hi;have F:=ai3 hd g1 g2;repeat refine st ?_
   refine oC (zbi rfl (by simp only [go_sem,F]; exact iR)) (f1) (by simp only [go_sem,F]; exact iR) (by simp only [go_sem,F]; exact⟨rfl,rfl⟩) ?_;repeat refine st ?_
   refine⟨n+1,⟨hlt, ?_⟩, ?_, ?_, ?_⟩
   ·rw [hi];cases idxQ p (l.drop (n+1))
    ·rfl
    ·simp; omega
   ·exact qe
   ·exact qe
   ·omega
  ·rw [h1] at hi f1;simp only [if_true,Option.map_some,Nat.zero_add] at hi;rw [hi];have F:=ai5 hd g1 g2 idxJ.eq_1 idxJ.eq_2;repeat refine st ?_
   refine oC (zbi rfl (by simp only [go_sem,F]; exact iR)) (f1) (by simp only [go_sem,F]; exact iR) (by simp only [go_sem,F]; exact⟨rfl,rfl⟩) ?_;repeat refine st ?_
   exact aR
 ·have g1: ¬(n:Int)< (l.length:Int):=by omega
  rw [List.drop_of_length_le (by omega)] at hi;rw [hi];have F:=ai3 g1 idxJ.eq_1 idxJ.eq_2;repeat (first | refine oO rfl (by simp only [go_sem,idxQ,F]; exact⟨rfl,rfl⟩) ?_ | refine gR ?_ | refine gO ?_ | refine oZ (zls ?_) | refine oZ ?_ | refine oS ?_ | refine gT ?_ | refine gD mixed ?_ | refine oB ?_ | refine oK ?_ | (refine oX ?_; simp only [zcK,zdc, ↓reduceIte,Nat.reduceEqDiff,reduceCtorEq]) | refine oY (by simp only [go_sem,idxQ,F]; exact iR) ?_ | refine oN (by simp only [go_sem,idxQ,F]; exact iR) ?_)
  (refine zak ?_; show (zaz _ _ _).run _=some _; simp only [go_sem,idxQ,F])
end
section
open Go.RowKit
end
section
open Go.RowKit
def zt3 (G act:List Int):List Int:=act.filter fun i=> !G.contains i
def moved (G act:List Int) (T:List Nat):List Int:=Lib.compact (zaR (zt3 G act++zL T))
theorem zep (l:List Int):(zaR l).length=l.length:=by unfold zaR; rw [List.length_mergeSort]
end
section
open Go.RowKit Go.ChangeShapes
theorem Tryz.tabArr:prog.underlying 250=some (.array 32 5):=by kernel_rfl
theorem zs3:prog.cellsOf 5=1:=by kernel_rfl
theorem ztn {W:World} {g t:Nat} {cs:Array Value} {fuel:Nat} {p:List MemPlace} (hg:prog.globalNamed "math/bits.deBruijn32tab" =some g) (ht:(prog.globals[g]?).map (·.type)=some t) (hv:W.var? prog "math/bits.deBruijn32tab" =some cs)
 (hd:DataW.trod (fun _=>()) prog W 0 (fun _=>true) false fuel t cs.toList=some (Rows.laid_math_bits_deBruijn32tab,p)):TabAt W:=by
 obtain rfl:9=g:=Option.some.inj ((show prog.globalNamed "math/bits.deBruijn32tab" =some 9 by kernel_rfl).symm.trans hg);obtain rfl:250=t:=Option.some.inj ((show (prog.globals[9]?).map (·.type)=some 250 by kernel_rfl).symm.trans ht);obtain⟨xs,m,_,hx,_,hxl,hgx⟩:=DataW.trod_array Tryz.tabArr hd;simp only [Prod.mk.injEq] at hx;intro j hj;have h1:=hgx j hj;rw [zs3,Nat.mul_one] at h1;have hjx:xs[j]? =some (xs[j]'(by omega)):=List.getElem?_eq_getElem _;rw [hjx] at h1;obtain⟨nn,e1,e2,_⟩:=DataW.trod_int Tryz.underlying5 h1
 have hcell:cs[j]? =some (.int .u8 nn):=by
  have:((cs.toList.drop j).take 1)[0]? =some (.int .u8 nn):=by rw [e1]; rfl
  rw [List.getElem?_take,if_pos (by omega),List.getElem?_drop,Nat.add_zero] at this;simpa using this
 have hval:(Rows.laid_math_bits_deBruijn32tab:DataW Unit)= .agg (xs.map (·.1)):=hx.1
 have hlist:(xs.map (·.1))[j]? =(Lib.deBruijn32tab.map fun(k:Nat)=>DataW.lit (H:=Unit) (.int .u8 (k:Int)))[j]? :=by
  have e:(Lib.deBruijn32tab.map fun(k:Nat)=>DataW.lit (H:=Unit) (.int .u8 (k:Int)))=xs.map (·.1):=by
   have:DataW.agg (Lib.deBruijn32tab.map fun(k:Nat)=>DataW.lit (H:=Unit) (.int .u8 (k:Int)))=DataW.agg (xs.map (·.1)):=by
    rw [<-hval];rfl
   injection this
  rw [e]
 rw [List.getElem?_map,hjx,List.getElem?_map] at hlist
 have hdb:Lib.deBruijn32tab[j]? =some (Lib.deBruijn32tab.getD j 0):=by
  have:j<Lib.deBruijn32tab.length:=by simpa [Lib.deBruijn32tab] using hj
  simp [List.getD,List.getElem?_eq_getElem this]
 rw [hdb] at hlist;simp only [Option.map_some,Option.some.injEq,e2] at hlist
 have hn:nn=((Lib.deBruijn32tab.getD j 0:Nat):Int):=by
  have:=hlist;injection this with this
  injection this
 rw [World.var?_cell hg hv j,hcell,hn]
theorem zrP {P:Program} {env:Env} {f:FuncId} {cs:List AV} {u:Value} {w:World} {vs:List Value} (h:Con P env f cs (.lit u)) (hE:EnvOk env (fun b _=>b<w.heap.size) w) (hv:RAs (fun b _=>b<w.heap.size) w vs cs):
 Calls P f vs.toArray w fun e w'=>e= .returned u/\Below w.heap.size w w':=(zrQ h hE (fun _ _ _=>by simp) hv).mono (by
 rintro e w' ⟨v,rfl,hb,_,hv⟩
 exact⟨by rw [hv.lit_inv],hb⟩)
end
section
open Go.RowKit Go.ChangeShapes
theorem zpl {W:World} (h:laidMetH prog [("math/bits.deBruijn32tab",Rows.laid_math_bits_deBruijn32tab),("scrinium/api.ErrForm",Rows.laid_scrinium_api_ErrForm),("scrinium/api.ErrRange",Rows.laid_scrinium_api_ErrRange),("scrinium/api.ErrFull",Rows.laid_scrinium_api_ErrFull),("scrinium/api.ErrNone",Rows.laid_scrinium_api_ErrNone),("scrinium/api.ErrCorrupt",Rows.laid_scrinium_api_ErrCorrupt),("scrinium/api.ErrFuel",Rows.laid_scrinium_api_ErrFuel),("scrinium/api.ErrState",Rows.laid_scrinium_api_ErrState),("scrinium/api.ErrLong",Rows.laid_scrinium_api_ErrLong),("scrinium/api.ErrTwice",Rows.laid_scrinium_api_ErrTwice)] W):(∃ad,Sents W ad)/\TabAt W:=by
 rw [MakeChecks.laidMetH_plain _ _ _ (by kernel_rfl)] at h;obtain⟨ps,hv,hnd,hrows⟩:=h;obtain⟨g0,t0,cs0,f0,p0,q0,hg0,ht0,hv0,hd0,hrest,rfl⟩:=hv;refine⟨zh4 ?_,ztn hg0 ht0 hv0 hd0⟩;rw [MakeChecks.laidMetH_plain _ _ _ (by kernel_rfl)];exact⟨q0,hrest,(List.nodup_append.1 hnd).2.1,fun b off hh=>hrows b off (List.mem_append_right _ hh)⟩
def zaS:More:=⟨fun w=>TabAt w,fun _ _ h hb=>TabAt.below h hb⟩
theorem zrl (ad:Nat->Addr):ChEnv (zaP ad zaS) (ad 1) (ad 8):=⟨rfl,rfl⟩
theorem zph (ad:Nat->Addr): ∀W,(zaP ad zaS).inv W->TabAt W:=fun _ h=>h.2
end
section
open Go.RowKit
theorem zpF {c:ChD} (h:zg4 c=true):(chk c).1=0:=by
 unfold zg4 at h;rw [Bool.and_eq_true,beq_iff_eq] at h;exact h.2
end
section
open Go.RowKit
end
section
open Go.RowKit
end
section
open Go.RowKit
def chkM (a1:Addr) (c:ChD) (mem:List MemD):AV:=if zjq c mem=true then nilE else errV (-1) (sentV a1)
end
section
open Go.RowKit
end
section
open Go.RowKit
end
section
open Go.RowKit
end
section
open Go.RowKit
def zcJ (c:ChD) (x:Int):Bool:=match c.states[x.toNat]? with
 | some s=>decide (s.parent<0)&&(s.kind==3)
 | none=>false
def zfw (c:ChD) (act:List Int):Bool:=act.any (zcJ c)
theorem zmE {c:ChD} {act:List Int} {i:Nat} {x:Int} (ha:(act.take i).any (zcJ c)=false) (hx:act[i]? =some x) (h:zcJ c x=false):(act.take (i+1)).any (zcJ c)=false:=by
 rw [List.take_add_one,hx,List.any_append,ha];simp [h]
theorem zqA {c:ChD} {act:List Int} {i:Nat} {x:Int} (hx:act[i]? =some x) (h:zcJ c x=true):zfw c act=true:=List.any_eq_true.2 ⟨x,List.mem_of_getElem? hx,h⟩
theorem zq9 (env:Env) (c:ChD) (act:List Int) (hl:act.length<=1000000) (hr: ∀x∈act,0<=x/\x<c.states.length):Con prog env 128 [.agg (chAV c),ints34 act] (B (zfw c act)):=by
 refine qf func128 call128 ntmps128 results128 ?_;have F:=chAV.eq_1;repeat refine st ?_
 refine zab (D:=Nat) (fun i vs=>[(2, .loc 2 (vs 2) 0 0),(7,ints34 act),(8,I act.length),(9,I i)]) (fun _ _=>[(2,⟨5,[chAV c],26,false⟩)]) (fun i _ _=>i<=act.length/\(act.take i).any (zcJ c)=false) (fun i=>act.length-i) 0 ?_ ?_ ?_ ?_
 ·exact⟨Nat.zero_le _,rfl⟩
 ·exact qe
 ·have F:=chAV.eq_1;exact qe
 rintro i vs esc ⟨hi,ha⟩;by_cases hlt:i<act.length
 ·have g1:=nlt hlt;have g2:=zaa hlt (by omega);obtain⟨x,hx⟩: ∃x,act[i]? =some x:=⟨act[i],List.getElem?_eq_getElem hlt⟩;obtain⟨h0,h1⟩:=hr x (List.mem_of_getElem? hx);obtain⟨k,rfl⟩:=Int.eq_ofNat_of_zero_le h0;have hk:k<c.states.length:=by omega
  obtain⟨s,hs⟩: ∃s,c.states[k]? =some s:=⟨c.states[k],List.getElem?_eq_getElem hk⟩;have g3:=nlt hk;have ht:zcJ c k=(decide (s.parent<0)&&(s.kind==3)):=by unfold zcJ; rw [Int.toNat_natCast,hs]
  by_cases b1:s.parent<0
  ·by_cases b2:s.kind=3
   ·rw [zqA hx (by rw [ht,decide_eq_true b1,b2]; rfl)];have F:=ai10 chAV.eq_1 stAV.eq_1 intAV.eq_1 g1 g2 g3 hx hs b1 b2;repeat refine st ?_
    exact aR
   ·have b3:(s.kind==3)=false:=by simpa using b2
    have F:=ai10 chAV.eq_1 stAV.eq_1 intAV.eq_1 g1 g2 g3 hx hs b1 b3;repeat refine st ?_
    refine⟨i+1,⟨hlt,zmE ha hx (by rw [ht,b3,Bool.and_false])⟩, ?_, ?_,by omega⟩
    ·exact qe
    ·have F:=chAV.eq_1;exact qe
  ·have F:=ai9 chAV.eq_1 stAV.eq_1 intAV.eq_1 g1 g2 g3 hx hs b1;repeat refine st ?_
   refine⟨i+1,⟨hlt,zmE ha hx (by rw [ht,decide_eq_false b1,Bool.false_and])⟩, ?_, ?_,by omega⟩
   ·exact qe
   ·have F:=chAV.eq_1;exact qe
 have g1: ¬(i:Int)< (act.length:Int):=by omega
 rw [show zfw c act=false from by rwa [List.take_of_length_le (by omega)] at ha];have F:=g1;repeat refine st ?_
 exact aR
theorem zoN (env:Env) (c:ChD) (act:List Int) (hl:act.length<=1000000) (hr: ∀x∈act,0<=x/\x<c.states.length):Con prog env 54 [.agg (chAV c),ints34 act] (B (zfw c act)):=by
 refine qf func54 call54 ntmps54 results54 ?_;have F:=chAV.eq_1;repeat refine st ?_
 refine zab (D:=Nat) (fun i vs=>[(1,ints34 act),(2, .loc 2 (vs 2) 0 0),(5,I i)]) (fun _ _=>[(2,⟨5,[chAV c],26,false⟩)]) (fun i _ _=>i<=act.length/\(act.take i).any (zcJ c)=false) (fun i=>act.length-i) 0 ?_ ?_ ?_ ?_
 ·exact⟨Nat.zero_le _,rfl⟩
 ·exact qe
 ·have F:=chAV.eq_1;exact qe
 rintro i vs esc ⟨hi,ha⟩;by_cases hlt:i<act.length
 ·have g1:=nlt hlt;have g2:=zaa hlt (by omega);obtain⟨x,hx⟩: ∃x,act[i]? =some x:=⟨act[i],List.getElem?_eq_getElem hlt⟩;obtain⟨h0,h1⟩:=hr x (List.mem_of_getElem? hx);obtain⟨k,rfl⟩:=Int.eq_ofNat_of_zero_le h0;have hk:k<c.states.length:=by omega
  obtain⟨s,hs⟩: ∃s,c.states[k]? =some s:=⟨c.states[k],List.getElem?_eq_getElem hk⟩;have g3:=nlt hk;have ht:zcJ c k=(decide (s.parent<0)&&(s.kind==3)):=by unfold zcJ; rw [Int.toNat_natCast,hs]
  by_cases b1:s.parent<0
  ·by_cases b2:s.kind=3
   ·rw [zqA hx (by rw [ht,decide_eq_true b1,b2]; rfl)];have F:=ai10 chAV.eq_1 stAV.eq_1 intAV.eq_1 g1 g2 g3 hx hs b1 b2;repeat refine st ?_
    exact aR
   ·have b3:(s.kind==3)=false:=by simpa using b2
    have F:=ai10 chAV.eq_1 stAV.eq_1 intAV.eq_1 g1 g2 g3 hx hs b1 b3;repeat refine st ?_
    refine⟨i+1,⟨hlt,zmE ha hx (by rw [ht,b3,Bool.and_false])⟩, ?_, ?_,by omega⟩
    ·exact qe
    ·have F:=chAV.eq_1;exact qe
  ·have F:=ai9 chAV.eq_1 stAV.eq_1 intAV.eq_1 g1 g2 g3 hx hs b1;repeat refine st ?_
   refine⟨i+1,⟨hlt,zmE ha hx (by rw [ht,decide_eq_false b1,Bool.false_and])⟩, ?_, ?_,by omega⟩
   ·exact qe
   ·have F:=chAV.eq_1;exact qe
 have g1: ¬(i:Int)< (act.length:Int):=by omega
 rw [show zfw c act=false from by rwa [List.take_of_length_le (by omega)] at ha];have F:=g1;repeat refine st ?_
 exact aR
theorem zrg (env:Env) (l:List (List UInt8×Int)) (hl:l.length<=9223372036854775807) (hn: ∀t∈l,t.1.length<=9223372036854775807):Con prog env 127 [.seq 2 (l.map tmAV)] (B (zb3 l)):=by
 refine qf func127 call127 ntmps127 results127 ?_;repeat refine st0 ?_
 refine zab (D:=Nat) (fun i _=>[(0, .seq 2 (l.map tmAV)),(5, .seq 2 (l.map tmAV)),(6,I l.length),(7,I i)]) (fun _ _=>[]) (fun i _ _=>i<=l.length/\ ∀j,j<i->tmAt l j=true) (fun i=>l.length-i) 0 ?_ ?_ ?_ ?_
 ·exact⟨Nat.zero_le _,fun j hj=>by omega⟩
 ·exact qe0
 ·exact qe0
 rintro i vs esc ⟨hi,ha⟩;by_cases hlt:i<l.length
 ·have g1:=nlt hlt;have g2:=zaa hlt (by omega);obtain⟨x,hx⟩: ∃x,l[i]? =some x:=⟨l[i],List.getElem?_eq_getElem hlt⟩;have f1:=zbK env x.1 (hn x (ztt hx));have hnot:tmAt l i=false->zb3 l=false:=fun h=>by rw [zb3,zhM hlt h]; rfl
  cases a1:zax x.1
  ·rw [hnot (by unfold tmAt; rw [zb5 hx,a1]; rfl)];rw [a1] at f1;have F:=ai4 g1 g2 hx tmAV.eq_1;repeat (first | refine st ?_ | refine cC f1 ?_)
   exact aR
  rw [a1] at f1;by_cases a2:x.2<0
  ·rw [hnot (by unfold tmAt clkB; rw [zb5 hx,decide_eq_false (by omega),Bool.and_false]; rfl)];have F:=ai5 g1 g2 hx tmAV.eq_1 a2;repeat (first | refine st ?_ | refine cC f1 ?_)
   exact aR
  by_cases a3:1099511627776<x.2
  ·rw [hnot (by unfold tmAt clkB; rw [zb5 hx,decide_eq_false (by omega),Bool.and_false]; rfl)];have F:=ai6 g1 g2 hx tmAV.eq_1 a2 a3;repeat (first | refine st ?_ | refine cC f1 ?_)
   exact aR
  have a4:clkB x.2=true:=decide_eq_true ⟨by omega,by omega⟩;by_cases h0:i=0
  ·have g3: ¬(0:Int)< (i:Int):=by omega
   have F:=ai7 g1 g2 hx tmAV.eq_1 a2 a3 g3;repeat (first | refine st ?_ | refine cC f1 ?_)
   refine⟨i+1,⟨hlt,ziN ha ?_⟩, ?_, ?_,by omega⟩
   ·unfold tmAt;rw [zb5 hx,a1,a4,decide_eq_true h0];rfl
   ·exact qe
   ·exact qe
  have g3:(0:Int)< (i:Int):=by omega
  have g4:IntKind.i64.wrap ((i:Int)-1)=((i-1:Nat):Int):=i64m i 1 (by omega) (by omega);have g5:((i-1:Nat):Int)< (l.length:Int):=by omega
  obtain⟨y,hy⟩: ∃y,l[i-1]? =some y:=⟨l[i-1],List.getElem?_eq_getElem (by omega)⟩;have hv:tmAt l i= !(Op.bytesLess x.1 y.1||x.1==y.1):=by unfold tmAt; rw [zb5 hx,zb5 hy,a1,a4,decide_eq_false h0,zgp]; rfl
  by_cases hc:(Op.bytesLess x.1 y.1||x.1==y.1)=true
  ·rw [hnot (by rw [hv,hc]; rfl)];have F:=ai11 g1 g2 hx tmAV.eq_1 a2 a3 g3 g4 g5 hy hc;repeat (first | refine st ?_ | refine cC f1 ?_)
   exact aR
  have hc:(Op.bytesLess x.1 y.1||x.1==y.1)=false:=by simpa using hc
  have F:=ai11 g1 g2 hx tmAV.eq_1 a2 a3 g3 g4 g5 hy hc;repeat (first | refine st ?_ | refine cC f1 ?_)
  refine⟨i+1,⟨hlt,ziN ha (by rw [hv,hc]; rfl)⟩, ?_, ?_,by omega⟩
  ·exact qe
  ·exact qe
 have g1: ¬(i:Int)< (l.length:Int):=by omega
 have e:zb3 l=decide ((l.length:Int)<=8):=by
  rw [zb3,zgS (n:=l.length) fun j hj=>ha j (by omega),Bool.true_and];exact decide_eq_decide.2 (by omega)
 rw [e];have F:=g1;repeat refine st ?_
 exact aR
theorem zjp (env:Env) (a1 a8:Addr) (he:ChEnv env a1 a8) (s:List UInt8):Con prog env 34 [Sg s] (errV (-1) (sentV a1)):=by
 have h1:=zgx he.e1;have f1:=zbD env s a1;refine qf func34 call34 ntmps34 results34 ?_;have F:=h1;repeat (first | refine st ?_ | refine cC f1 ?_)
 exact aR
structure LiteI (r:Rc):Prop where
 active:r.active.length<=1000000
 vars:r.vars.length<=1000000
 mem:r.mem.length<=1000000
 timers:r.timers.length<=9223372036854775807
def zfx (l:List Int):Bool:=l.all zaj
def zbI (c:ChD) (r:Rc):Bool:=lgB c r.active&&zjq c r.mem&&(r.vars.length==c.vars.length)&&zb3 r.timers&&(r.over==zfw c r.active)&&zfx r.vars
def zny (a1:Addr) (c:ChD) (r:Rc):AV:=if zbI c r=true then nilE else errV (-1) (sentV a1)
theorem ztv {c:ChD} {act:List Int} (h:lgB c act=true): ∀x∈act,0<=x/\x<c.states.length:=fun x hx=>by
 obtain⟨i,hi⟩:=List.mem_iff_getElem?.1 hx;have h1:=(zpg.1 h).1 i (List.getElem?_eq_some_iff.1 hi).1;rw [zk8 hi,Bool.and_eq_true] at h1;have h2:=h1.2;unfold fitI at_ at h2;by_cases h0:0<=x
 ·rw [if_pos h0] at h2;cases hs:c.states[x.toNat]? with
  | none=>rw [hs] at h2; cases h2
  | some s=>have:=(List.getElem?_eq_some_iff.1 hs).1; omega
 ·rw [if_neg h0] at h2;cases h2
end
section
open Go.RowKit
theorem zpJ {l:List Int} {i:Nat} {x:Int} (ha:(l.take i).all zaj=true) (hx:l[i]? =some x) (h:zaj x=true):(l.take (i+1)).all zaj=true:=by
 rw [List.take_add_one,hx,List.all_append,ha];simp [h]
theorem zpK {l:List Int} {i:Nat} {x:Int} (hx:l[i]? =some x) (h:zaj x=false):zfx l=false:=by
 unfold zfx;rw [List.all_eq_false];exact⟨x,List.mem_of_getElem? hx,by rw [h]; exact Bool.false_ne_true⟩
theorem zk7 (env:Env) (a1 a8:Addr) (he:ChEnv env a1 a8) (c:ChD) (h:Full c) (hs:Small c) (r:Rc) (hl:LiteI r) (hn: ∀t∈r.timers,t.1.length<=9223372036854775807) (f3:Con prog env 126 [zai c,memsAV r.mem] (chkM a1 c r.mem)):Con prog env 68 [zai c, .agg (inAV r)] (zny a1 c r):=by
 have f1:=zav env c hs;have f2:=zbZ env a1 a8 he c h hs r.active hl.active;have f4:=zrg env r.timers hl.timers hn;have f6:=zjp env a1 a8 he [109,105,99,114,111,46,67,104,101,99,107];have bad:zbI c r=false->zny a1 c r=errV (-1) (sentV a1):=fun h=>by unfold zny; rw [h]; rfl
 unfold chkE at f2;unfold chkM at f3;unfold chAV at f1;unfold zai at f1 f2 f3 |-;cases b1:lgB c r.active
 ·rw [bad (by unfold zbI; rw [b1]; rfl)];rw [b1,if_neg Bool.false_ne_true] at f2;refine qf func68 call68 ntmps68 results68 ?_;have F:=inAV.eq_1;repeat (first | refine st ?_ | refine cC f1 ?_ | refine cC f2 ?_ | refine cC f6 ?_)
  exact aR
 rw [b1,if_pos rfl] at f2;cases b2:zjq c r.mem
 ·rw [bad (by unfold zbI; rw [b2,Bool.and_false]; rfl)];rw [b2,if_neg Bool.false_ne_true] at f3;refine qf func68 call68 ntmps68 results68 ?_;have F:=inAV.eq_1;repeat (first | refine st ?_ | refine cC f1 ?_ | refine cC f2 ?_ | refine cC f3 ?_ | refine cC f6 ?_)
  exact aR
 rw [b2,if_pos rfl] at f3;by_cases b3:r.vars.length=c.vars.length
 case neg=>
  rw [bad (by unfold zbI; rw [show (r.vars.length==c.vars.length)=false by simpa using b3,Bool.and_false]; rfl)];have b4:((r.vars.length:Int) != (c.vars.length:Int))=true:=by simp; omega
  refine qf func68 call68 ntmps68 results68 ?_;have F:=ai inAV.eq_1 b4;repeat (first | refine st ?_ | refine cC f1 ?_ | refine cC f2 ?_ | refine cC f3 ?_ | refine cC f6 ?_)
  exact aR
 have b4:((r.vars.length:Int) != (c.vars.length:Int))=false:=by simp [b3]
 cases b5:zb3 r.timers
 ·rw [bad (by unfold zbI; rw [b5,Bool.and_false]; rfl)];rw [b5] at f4;refine qf func68 call68 ntmps68 results68 ?_;have F:=ai inAV.eq_1 b4;repeat (first | refine st ?_ | refine cC f1 ?_ | refine cC f2 ?_ | refine cC f3 ?_ | refine cC f4 ?_ | refine cC f6 ?_)
  exact aR
 rw [b5] at f4;have f5:=zq9 env c r.active hl.active (ztv b1);unfold chAV at f5;cases b6:(r.over==zfw c r.active)
 ·rw [bad (by unfold zbI; rw [b6,Bool.and_false]; rfl)];refine qf func68 call68 ntmps68 results68 ?_;have F:=ai3 inAV.eq_1 b4 b6;repeat (first | refine st ?_ | refine cC f1 ?_ | refine cC f2 ?_ | refine cC f3 ?_ | refine cC f4 ?_ | refine cC f5 ?_ | refine cC f6 ?_)
  exact aR
 have hi:zbI c r=zfx r.vars:=by unfold zbI; rw [b1,b2,b5,b6,show (r.vars.length==c.vars.length)=true by simpa using b3]; rfl
 have hvl:=hl.vars;refine qf func68 call68 ntmps68 results68 ?_;have F:=ai3 inAV.eq_1 b4 b6;repeat (first | refine st ?_ | refine cC f1 ?_ | refine cC f2 ?_ | refine cC f3 ?_ | refine cC f4 ?_ | refine cC f5 ?_ | refine cC f6 ?_)
 try clear f1 f2 f3 f4 f5 b1 b2 b4 b5 b6
 refine zab (D:=Nat) (fun i _=>[(52,ints34 r.vars),(53,I r.vars.length),(54,I i)]) (fun _ _=>[]) (fun i _ _=>i<=r.vars.length/\(r.vars.take i).all zaj=true) (fun i=>r.vars.length-i) 0 ?_ ?_ ?_ ?_
 ·exact⟨Nat.zero_le _,rfl⟩
 ·exact qe
 ·exact qe
 rintro i vs esc ⟨hi2,ha⟩;by_cases hlt:i<r.vars.length
 ·have g1:=nlt hlt;have g2:=zaa hlt (by omega);obtain⟨x,hx⟩: ∃x,r.vars[i]? =some x:=⟨r.vars[i],List.getElem?_eq_getElem hlt⟩;have f7:=zbk env x;cases b8:zaj x
  ·rw [b8] at f7;rw [bad (by rw [hi]; exact zpK hx b8)];have F:=ai4 intAV.eq_1 g1 g2 hx;repeat (first | refine st ?_ | refine cC f6 ?_ | refine cC f7 ?_)
   exact aR
  ·rw [b8] at f7;have F:=ai4 intAV.eq_1 g1 g2 hx;repeat (first | refine st ?_ | refine cC f6 ?_ | refine cC f7 ?_)
   refine⟨i+1,⟨hlt,zpJ ha hx b8⟩, ?_, ?_,by omega⟩
   ·exact qe
   ·exact qe
 have g1: ¬(i:Int)< (r.vars.length:Int):=by omega
 rw [show zny a1 c r=nilE from by unfold zny; rw [if_pos (by rw [hi]; unfold zfx; rwa [List.take_of_length_le (by omega)] at ha)]];have F:=g1;repeat refine st ?_
 exact aR
theorem zkx (env:Env) (s:List UInt8):Con prog env 36 [Sg s,nilE] nilE:=by
 refine qf func36 call36 ntmps36 results36 ?_;repeat refine st0 ?_
 exact aR0
theorem zje (env:Env) (l:List Int) (hl:l.length<=1000000):Con prog env 56 [.agg [ints34 l,I 0,nilS]] (B (zfx l)):=by
 refine qf func56 call56 ntmps56 results56 ?_;repeat refine st0 ?_
 refine zab (D:=Nat) (fun i vs=>[(1, .loc 1 (vs 1) 0 0),(3,I i)]) (fun _ _=>[(1,⟨3,[[ints34 l,I 0,nilS]],107,false⟩)]) (fun i _ _=>i<=l.length/\(l.take i).all zaj=true) (fun i=>l.length-i) 0 ?_ ?_ ?_ ?_
 ·exact⟨Nat.zero_le _,rfl⟩
 ·exact qe0
 ·exact qe0
 rintro i vs esc ⟨hi,ha⟩;by_cases hlt:i<l.length
 ·have g1:=nlt hlt;have g2:=zaa hlt (by omega);obtain⟨x,hx⟩: ∃x,l[i]? =some x:=⟨l[i],List.getElem?_eq_getElem hlt⟩;have f7:=zbV env x;cases b8:zaj x
  ·rw [b8] at f7;rw [zpK hx b8];have F:=ai4 intAV.eq_1 g1 g2 hx;repeat (first | refine st ?_ | refine cC f7 ?_)
   exact aR
  ·rw [b8] at f7;have F:=ai4 intAV.eq_1 g1 g2 hx;repeat (first | refine st ?_ | refine cC f7 ?_)
   refine⟨i+1,⟨hlt,zpJ ha hx b8⟩, ?_, ?_,by omega⟩
   ·exact qe
   ·exact qe
 have g1: ¬(i:Int)< (l.length:Int):=by omega
 have f7:=zbV env 0;rw [show zfx l=true from by unfold zfx; rwa [List.take_of_length_le (by omega)] at ha];rw [show zaj 0=true from rfl] at f7;have F:=g1;repeat (first | refine st ?_ | refine cC f7 ?_)
 exact aR
theorem zkV (env:Env) (c:ChD) (h:Full c) (act:List Int) (hl:act.length<=1000000):Con prog env 16 [.agg (chAV c), .seq 1 (act.map intAV)] (B (lgB c act)):=by
 have f0:=zie env c h act hl;unfold lgB;refine qf func16 call16 ntmps16 results16 ?_;have F:=chAV.eq_1;repeat (first | refine st ?_ | refine cC f0 ?_)
 exact aR
theorem zic (env:Env) (c:ChD) (h:Full c) (r:Rc) (hl:LiteI r) (f3:Con prog env 53 [.agg (chAV c),memsAV r.mem] (B (zjq c r.mem))):Con prog env 19 [.agg (chAV c), .agg (inAV r)] (B (zbI c r)):=by
 have f2:=zkV env c h r.active hl.active;have hll:=hl.timers;unfold chAV at f2 f3;cases b1:lgB c r.active
 ·rw [show zbI c r=false from by unfold zbI; rw [b1]; rfl];rw [b1] at f2;refine qf func19 call19 ntmps19 results19 ?_;have F:=ai chAV.eq_1 inAV.eq_1;repeat (first | refine st ?_ | refine cC f2 ?_)
  exact aR
 rw [b1] at f2;cases b2:zjq c r.mem
 ·rw [show zbI c r=false from by unfold zbI; rw [b2,Bool.and_false]; rfl];rw [b2] at f3;refine qf func19 call19 ntmps19 results19 ?_;have F:=ai chAV.eq_1 inAV.eq_1;repeat (first | refine st ?_ | refine cC f2 ?_ | refine cC f3 ?_)
  exact aR
 rw [b2] at f3;by_cases b3:r.vars.length=c.vars.length
 case neg=>
  rw [show zbI c r=false from by unfold zbI; rw [show (r.vars.length==c.vars.length)=false by simpa using b3,Bool.and_false]; rfl];have b4:((r.vars.length:Int) != (c.vars.length:Int))=true:=by simp; omega
  refine qf func19 call19 ntmps19 results19 ?_;have F:=ai3 chAV.eq_1 inAV.eq_1 b4;repeat (first | refine st ?_ | refine cC f2 ?_ | refine cC f3 ?_)
  exact aR
 have b4:((r.vars.length:Int) != (c.vars.length:Int))=false:=by simp [b3]
 by_cases b5:8<r.timers.length
 ·have b6:(8:Int)< (r.timers.length:Int):=by omega
  rw [show zbI c r=false from by unfold zbI zb3; rw [decide_eq_false (show ¬r.timers.length<=8 by omega),Bool.and_false,Bool.and_false]; rfl];refine qf func19 call19 ntmps19 results19 ?_;have F:=ai4 chAV.eq_1 inAV.eq_1 b4 b6;repeat (first | refine st ?_ | refine cC f2 ?_ | refine cC f3 ?_)
  exact aR
 have b6: ¬(8:Int)< (r.timers.length:Int):=by omega
 have f5:=zoN env c r.active hl.active (ztv b1);unfold chAV at f5;cases b7:(r.over==zfw c r.active)
 ·rw [show zbI c r=false from by unfold zbI; rw [b7,Bool.and_false]; rfl];refine qf func19 call19 ntmps19 results19 ?_;have F:=ai5 chAV.eq_1 inAV.eq_1 b4 b6 b7;repeat (first | refine st ?_ | refine cC f2 ?_ | refine cC f3 ?_ | refine cC f5 ?_)
  exact aR
 have hi:zbI c r=(allB r.timers.length (tmAt r.timers)&&zfx r.vars):=by
  unfold zbI zb3;rw [b1,b2,b7,show (r.vars.length==c.vars.length)=true by simpa using b3,decide_eq_true (show r.timers.length<=8 by omega),Bool.and_true];simp
 rw [hi];refine qf func19 call19 ntmps19 results19 ?_;have F:=ai5 chAV.eq_1 inAV.eq_1 b4 b6 b7;repeat (first | refine st ?_ | refine cC f2 ?_ | refine cC f3 ?_ | refine cC f5 ?_)
 try clear f2 f3 f5 b1 b2 b4 b6 b7 hi
 have F:=inAV.eq_1;refine zab (D:=Nat) (fun i vs=>[(3, .loc 3 (vs 3) 0 0),(5,I i)]) (fun _ _=>[(3,⟨5,[inAV r],31,false⟩)]) (fun i _ _=>i<=r.timers.length/\ ∀j,j<i->tmAt r.timers j=true) (fun i=>r.timers.length-i) 0 ?_ ?_ ?_ ?_
 ·exact⟨Nat.zero_le _,fun j hj=>by omega⟩
 ·exact qe
 ·exact qe
 rintro i vs esc ⟨hi,ha⟩;by_cases hlt:i<r.timers.length
 ·have g1:=nlt hlt;have g2:=zaa hlt (by omega);obtain⟨x,hx⟩: ∃x,r.timers[i]? =some x:=⟨r.timers[i],List.getElem?_eq_getElem hlt⟩;have f1:=zbJ env x.1;have hnot:tmAt r.timers i=false->(allB r.timers.length (tmAt r.timers)&&zfx r.vars)=false:=fun h=>by rw [zhM hlt h]; rfl
  cases a1:zax x.1
  ·rw [hnot (by unfold tmAt; rw [zb5 hx,a1]; rfl)];rw [a1] at f1;have F:=ai5 inAV.eq_1 g1 g2 hx tmAV.eq_1;repeat (first | refine st ?_ | refine cC f1 ?_)
   exact aR
  rw [a1] at f1;by_cases a2:x.2<0
  ·rw [hnot (by unfold tmAt clkB; rw [zb5 hx,decide_eq_false (by omega),Bool.and_false]; rfl)];have F:=ai6 inAV.eq_1 g1 g2 hx tmAV.eq_1 a2;repeat (first | refine st ?_ | refine cC f1 ?_)
   exact aR
  by_cases a3:1099511627776<x.2
  ·rw [hnot (by unfold tmAt clkB; rw [zb5 hx,decide_eq_false (by omega),Bool.and_false]; rfl)];have F:=ai7 inAV.eq_1 g1 g2 hx tmAV.eq_1 a2 a3;repeat (first | refine st ?_ | refine cC f1 ?_)
   exact aR
  have a4:clkB x.2=true:=decide_eq_true ⟨by omega,by omega⟩;by_cases h0:i=0
  ·have g3: ¬(0:Int)< (i:Int):=by omega
   have F:=ai8 inAV.eq_1 g1 g2 hx tmAV.eq_1 a2 a3 g3;repeat (first | refine st ?_ | refine cC f1 ?_)
   refine⟨i+1,⟨hlt,ziN ha ?_⟩, ?_, ?_,by omega⟩
   ·unfold tmAt;rw [zb5 hx,a1,a4,decide_eq_true h0];rfl
   ·exact qe
   ·have F:=inAV.eq_1;exact qe
  have g3:(0:Int)< (i:Int):=by omega
  have g4:IntKind.i64.wrap ((i:Int)-1)=((i-1:Nat):Int):=i64m i 1 (by omega) (by omega);have g5:((i-1:Nat):Int)< (r.timers.length:Int):=by omega
  obtain⟨y,hy⟩: ∃y,r.timers[i-1]? =some y:=⟨r.timers[i-1],List.getElem?_eq_getElem (by omega)⟩;have hv:tmAt r.timers i= !(Op.bytesLess x.1 y.1||x.1==y.1):=by unfold tmAt; rw [zb5 hx,zb5 hy,a1,a4,decide_eq_false h0,zgp]; rfl
  by_cases hc:(Op.bytesLess x.1 y.1||x.1==y.1)=true
  ·rw [hnot (by rw [hv,hc]; rfl)];have F:=ai12 inAV.eq_1 g1 g2 hx tmAV.eq_1 a2 a3 g3 g4 g5 hy hc;repeat (first | refine st ?_ | refine cC f1 ?_)
   exact aR
  have hc:(Op.bytesLess x.1 y.1||x.1==y.1)=false:=by simpa using hc
  have F:=ai12 inAV.eq_1 g1 g2 hx tmAV.eq_1 a2 a3 g3 g4 g5 hy hc;repeat (first | refine st ?_ | refine cC f1 ?_)
  refine⟨i+1,⟨hlt,ziN ha (by rw [hv,hc]; rfl)⟩, ?_, ?_,by omega⟩
  ·exact qe
  ·have F:=inAV.eq_1;exact qe
 have g1: ¬(i:Int)< (r.timers.length:Int):=by omega
 have f4:=zje env r.vars hl.vars;rw [zgS (n:=r.timers.length) fun j hj=>ha j (by omega),Bool.true_and];have F:=ai inAV.eq_1 g1;repeat (first | refine st ?_ | refine cC f4 ?_)
 exact aR
end
section
open Go.RowKit
def bCell (b:Bool):List AV:=[B b]
def woAV (w:WoD):List AV:=[ints34 w.vars,I w.data, .seq 1 (w.act.map bCell)]
theorem zei {n:Int} (h:zaj n=true):IntKind.i64.wrap n=n:=by
 rw [zaZ] at h;exact zaw (by omega) (by omega)
theorem zcx {n:Int} (h:Big n):IntKind.i64.wrap n=n:=by
 unfold Big at h;exact zaw (by omega) (by omega)
theorem zdh (env:Env) (b:Bool):Con prog env 277 [B b] (I (trI b)):=by
 cases b
 ·show Con _ _ _ _ (I 0);refine qf func277 call277 ntmps277 results277 ?_;repeat refine st0 ?_
  exact aR0
 ·show Con _ _ _ _ (I 1);refine qf func277 call277 ntmps277 results277 ?_;repeat refine st0 ?_
  exact aR0
theorem zoj (env:Env) (k a:Int) (hk:k=5\/k=6) (ha:zaj a=true):Con prog env 268 [I k,I a] (.tuple [I (unI k a),B true]):=by
 have f0:=zdh env (a==0);rcases hk with rfl | rfl
 ·have q1:IntKind.i64.wrap (0-a)=unI 5 a:=zei (zok 5 ha);refine qf func268 call268 ntmps268 results268 ?_;have F:=q1;repeat (first | refine st ?_ | refine cC f0 ?_)
  exact aR
 ·have q1:trI (a==0)=unI 6 a:=rfl;refine qf func268 call268 ntmps268 results268 ?_;have F:=q1;repeat (first | refine st ?_ | refine cC f0 ?_)
  exact aR
theorem zq5 (env:Env) (k a b:Int) (hk:k=8\/k=9) (ha:zaj a=true):Con prog env 278 [I k,I a,I b] (.tuple [I (binI k a b).1,B (binI k a b).2]):=by
 by_cases hb:b=0
 ·subst hb;have q1:binI k a 0=(0,false):=by rcases hk with rfl | rfl<;>rfl
  rw [q1];refine qf func278 call278 ntmps278 results278 ?_;repeat refine st0 ?_
  exact aR0
 have q0:(b==0)=false:=by simpa using hb
 rcases hk with rfl | rfl
 ·have q1:binI 8 a b=(a.tdiv b,true):=by simp [binI,hb]
  have q2:=zei (zen (b:=b) ha);rw [q1];refine qf func278 call278 ntmps278 results278 ?_;have F:=ai3 q0 q2 hb;repeat refine st ?_
  exact aR
 ·have q1:binI 9 a b=(a.tmod b,true):=by simp [binI,hb]
  rw [q1];refine qf func278 call278 ntmps278 results278 ?_;have F:=ai q0 hb;repeat refine st ?_
  exact aR
theorem zlu (env:Env) (k a b:Int) (hk:12<=k/\k<=17):Con prog env 279 [I k,I a,I b] (B (cmpB k a b)):=by
 obtain rfl | rfl | rfl | rfl | rfl | rfl:k=12\/k=13\/k=14\/k=15\/k=16\/k=17:=by omega
 all_goals (refine zc7 func279 rfl call279 (by rw [ntmps279]; simp) ?_
            rw [ntmps279,results279])
 all_goals have F:=cmpB.eq_1
 all_goals (repeat refine st ?_)
 all_goals ((refine zak ?_; show (zaz _ _ _).run _=some _; simp only [go_sem,F]))
theorem znR (env:Env) (k a b:Int) (hk:7<=k/\k<=19) (ha:zaj a=true) (hb:zaj b=true):Con prog env 269 [I k,I a,I b] (.tuple [I (binI k a b).1,B (binI k a b).2]):=by
 have hbig:=(ziI k ha hb).1;by_cases h7:k=7
 ·subst h7;have f0:=zbk env (a*b);have q1:IntKind.i64.wrap (a*b)=a*b:=zcx hbig;show Con _ _ _ _ (.tuple [I (a*b),B (zaj (a*b))]);refine qf func269 call269 ntmps269 results269 ?_;have F:=q1;repeat (first | refine st ?_ | refine cC f0 ?_)
  exact aR
 by_cases h8:k=8\/k=9
 ·have f0:=zq5 env k a b h8 ha;generalize binI k a b=R at*;rcases h8 with rfl | rfl
  ·refine qf func269 call269 ntmps269 results269 ?_;repeat (first | refine st0 ?_ | refine cC0 f0 ?_)
   exact aR0
  ·refine qf func269 call269 ntmps269 results269 ?_;repeat (first | refine st0 ?_ | refine cC0 f0 ?_)
   exact aR0
 by_cases h10:k=10
 ·subst h10;have f0:=zbk env (a+b);have q1:IntKind.i64.wrap (a+b)=a+b:=zcx hbig;show Con _ _ _ _ (.tuple [I (a+b),B (zaj (a+b))]);refine qf func269 call269 ntmps269 results269 ?_;have F:=q1;repeat (first | refine st ?_ | refine cC f0 ?_)
  exact aR
 by_cases h11:k=11
 ·subst h11;have f0:=zbk env (a-b);have q1:IntKind.i64.wrap (a-b)=a-b:=zcx hbig;show Con _ _ _ _ (.tuple [I (a-b),B (zaj (a-b))]);refine qf func269 call269 ntmps269 results269 ?_;have F:=q1;repeat (first | refine st ?_ | refine cC f0 ?_)
  exact aR
 have hT: ∀t:Bool,Con prog env 69 [I (trI t)] (B true):=fun t=>by
  have:=zbk env (trI t);rwa [zcD] at this
 by_cases h18:k=18
 ·subst h18;show Con _ _ _ _ (.tuple [I (trI (a != 0&&b != 0)),B true]);have f0:=zdh env (a != 0&&b != 0);have f1:=hT (a != 0&&b != 0);cases h0:(a != 0)
  ·rw [h0] at f0 f1;refine qf func269 call269 ntmps269 results269 ?_;have F:=h0;repeat (first | refine st ?_ | refine cC f0 ?_ | refine cC f1 ?_)
   exact aR
  ·rw [h0] at f0 f1;refine qf func269 call269 ntmps269 results269 ?_;have F:=h0;repeat (first | refine st ?_ | refine cC f0 ?_ | refine cC f1 ?_)
   exact aR
 by_cases h19:k=19
 ·subst h19;show Con _ _ _ _ (.tuple [I (trI (a != 0||b != 0)),B true]);have f0:=zdh env (a != 0||b != 0);have f1:=hT (a != 0||b != 0);cases h0:(a != 0)
  ·rw [h0] at f0 f1;refine qf func269 call269 ntmps269 results269 ?_;have F:=h0;repeat (first | refine st ?_ | refine cC f0 ?_ | refine cC f1 ?_)
   exact aR
  ·rw [h0] at f0 f1;refine qf func269 call269 ntmps269 results269 ?_;have F:=h0;repeat (first | refine st ?_ | refine cC f0 ?_ | refine cC f1 ?_)
   exact aR
 have q1:binI k a b=(trI (cmpB k a b),true):=by
  unfold binI;rw [if_neg h7,if_neg (by omega),if_neg (by omega),if_neg h10,if_neg h11,if_neg h18,if_neg h19]
 rw [q1];have f0:=zlu env k a b (by omega);have f1:=zdh env (cmpB k a b);have f2:=hT (cmpB k a b);generalize cmpB k a b=R at*;obtain rfl | rfl | rfl | rfl | rfl | rfl:k=12\/k=13\/k=14\/k=15\/k=16\/k=17:=by omega
 all_goals (refine zc7 func269 rfl call269 (by rw [ntmps269]; simp) ?_
            rw [ntmps269,results269])
 all_goals (repeat (first | refine st0 ?_ | refine cC0 f0 ?_ | refine cC0 f1 ?_ | refine cC0 f2 ?_))
 all_goals ((refine zak ?_; show (zaz _ _ _).run _=some _; simp only [go_sem]))
theorem zrn (env:Env) (w:WoD) (o:OpD) (hk:1<=o.kind/\o.kind<=4) (h:numB o w.vars.length w.act.length=true):Con prog env 267 [.agg (opAV o), .agg (woAV w)] (I (leafI w o)):=by
 obtain⟨k,n⟩:=o;simp only at hk;unfold leafI;unfold numB at h;simp only at h |-;obtain rfl | rfl | rfl | rfl:k=1\/k=2\/k=3\/k=4:=by omega
 ·show Con _ _ _ _ (I n);refine qf func267 call267 ntmps267 results267 ?_;have F:=ai opAV.eq_1 woAV.eq_1;repeat refine st ?_
  exact aR
 ·have h:0<=n/\n<w.vars.length:=by simpa using h
  obtain⟨m,rfl⟩:=zcB h.1;have q1:(m:Int)< (w.vars.length:Int):=h.2;have q2:w.vars[m]? =some (w.vars.getD m 0):=by rw [List.getD_eq_getElem?_getD,List.getElem?_eq_getElem (by omega)]; rfl
  show Con _ _ _ _ (I (w.vars.getD ((m:Int).toNat) 0));rw [Int.toNat_natCast];refine qf func267 call267 ntmps267 results267 ?_;have F:=ai5 opAV.eq_1 woAV.eq_1 intAV.eq_1 q1 q2;repeat refine st ?_
  exact aR
 ·show Con _ _ _ _ (I w.data);refine qf func267 call267 ntmps267 results267 ?_;have F:=ai opAV.eq_1 woAV.eq_1;repeat refine st ?_
  exact aR
 ·have h:0<=n/\n<w.act.length:=by simpa using h
  obtain⟨m,rfl⟩:=zcB h.1;have q1:(m:Int)< (w.act.length:Int):=h.2;have q2:w.act[m]? =some (w.act.getD m false):=by rw [List.getD_eq_getElem?_getD,List.getElem?_eq_getElem (by omega)]; rfl
  show Con _ _ _ _ (I (trI (w.act.getD ((m:Int).toNat) false)));rw [Int.toNat_natCast];have f0:=zdh env (w.act.getD m false);generalize w.act.getD m false=t at*;refine qf func267 call267 ntmps267 results267 ?_;have F:=ai5 opAV.eq_1 woAV.eq_1 bCell.eq_1 q1 q2;repeat (first | refine st ?_ | refine cC f0 ?_)
  exact aR
end
section
open Go.RowKit
def innP (c:ChD) (l:List Nat) (k:Nat):Bool:=manyI (zL l) (kidsL c k true)==0
def lnTo (c:ChD) (l:List Nat) (j:Nat):List Nat:=(l.take j).filter (innP c l)
def innL (c:ChD) (l:List Nat):List Nat:=sortL c (zL (lnTo c l l.length))
theorem zpe {c:ChD} {l:List Nat} {j k:Nat} (h:l[j]? =some k):lnTo c l (j+1)=if innP c l k then lnTo c l j++[k] else lnTo c l j:=by
 unfold lnTo;rw [List.take_add_one,h,List.filter_append];cases hb:innP c l k<;>simp [hb]
theorem zl7 (c:ChD) (l:List Nat) (j:Nat):(lnTo c l j).length<=l.length:=by
 unfold lnTo;exact Nat.le_trans (List.length_filter_le ..) (by rw [List.length_take]; omega)
theorem zla (env:Env) (c:ChD) (h:Full c) (l:List Nat) (hl:l.length<=1000) (hk: ∀k∈l,k<c.states.length):Con prog env 80 [zai c, .seq 1 (l.map zae)] (.own 3 1 ((innL c l).map zae)):=by
 have hlen:=h.few;have f0:=zdx env c (by omega) (zL l) (by rw [zcj]; omega);rw [zg9] at f0;have f1:=fun k:Nat=>zcl env c h k;have f2:=fun k:Nat=>zih env c.states.length (zL l) (kidsL c k true) (by omega) (by have:=zbF h.toRight k true; omega) (fun j hj=>by have:=zaG h.toRight (zao hj).1; omega);have f3:=zaM env c;have f4:=zbU env c h.toRight (zL (lnTo c l l.length)) (by rw [zcj]; have:=zl7 c l l.length; omega);rw [zg9] at f4;show Con _ _ _ _ (.own _ 1 ((sortL c (zL (lnTo c l l.length))).map zae));generalize sortL c (zL (lnTo c l l.length))=R at*;unfold zan at f3 f4;unfold zai at f0 f1 f3 |-;generalize hFL:flagA c.states.length (zL l)=FL at*;try clear hFL
 refine qf func80 call80 ntmps80 results80 ?_;repeat refine st0 ?_
 refine zaT 5 5 3 1 ?_;refine zab (D:=Nat) (fun j vs=>[(0, .ref 9 [tabCells c] 0 0),(1, .seq 1 (l.map zae)),(5, .row 5 (vs 5)),(8, .seq 1 (l.map zae)),(9,I l.length),(10,I j)]) (fun j _=>[(5,⟨1,(lnTo c l j).map zae,3,true⟩)]) (fun j _ esc=>j<=l.length/\esc 5=false) (fun j=>l.length-j) 0 ?_ ?_ ?_ ?_
 ·exact⟨Nat.zero_le _,rfl⟩
 ·exact qe0
 ·(simp only [go_sem])
  try rfl
 rintro j ws esc ⟨hj,e0⟩;by_cases hlt:j<l.length
 ·obtain⟨k,hx⟩: ∃k,l[j]? =some k:=⟨l[j],List.getElem?_eq_getElem hlt⟩;have hkl:=hk k (List.mem_of_getElem? hx);have q1:=nlt hlt;have q2:=zaa hlt (by omega);have f1:=f1 k;rw [if_pos (.inr (zay.2 hkl))] at f1;have f2:=f2 k;have hle:=zl7 c l j;have hf:Fits ((lnTo c l j).length+1) 8:=zaf (by omega) (by omega);have hn:=zpe (c:=c) hx;have hp:innP c l k=(manyI (zL l) (kidsL c k true)==0):=rfl;cases hb:innP c l k with
  | true=>
    rw [hb,if_pos rfl] at hn;rw [hb] at hp
    have b0:(((manyI (zL l) (kidsL c k true):Nat):Int)==0)=true:=by
     have:=beq_iff_eq.1 hp.symm;simp; omega
    have F:=ai7 zae.eq_1 hx q1 q2 b0 hf e0;repeat (first | refine st ?_ | refine cC f0 ?_ | refine cC f1 ?_ | refine cC f2 ?_)
    refine⟨j+1,⟨hlt,by simp only [go_sem,e0]⟩, ?_, ?_,by omega⟩
    ·exact qe
    ·have F:=ai3 zae.eq_1 hn @List.map_append.{0,0};exact qe
  | false=>
    rw [hb,if_neg Bool.false_ne_true] at hn;rw [hb] at hp
    have b0:(((manyI (zL l) (kidsL c k true):Nat):Int)==0)=false:=by
     have: ¬manyI (zL l) (kidsL c k true)=0:=fun q=>by rw [q] at hp; cases hp
     simp; omega
    have F:=ai6 zae.eq_1 hx q1 q2 b0 e0;repeat (first | refine st ?_ | refine cC f0 ?_ | refine cC f1 ?_ | refine cC f2 ?_)
    refine⟨j+1,⟨hlt,by simp only [go_sem,e0]⟩, ?_, ?_,by omega⟩
    ·exact qe
    ·have F:=ai zae.eq_1 hn;exact qe
 ·obtain rfl:j=l.length:=by omega
  have q1: ¬(l.length:Int)< (l.length:Int):=by omega
  have F:=ai q1 e0;repeat (first | refine st ?_ | refine cC f3 ?_ | refine cC f4 ?_)
  exact aR
theorem zoY (env:Env) (a1 a8:Addr) (he:ChEnv env a1 a8) (c:ChD) (h:Full c) (hsm:Small c) (l:List Nat) (hl:l.length<=1000) (hk: ∀k∈l,k<c.states.length) (hb:lgB c (zL l)=true):Con prog env 38 [zai c, .seq 1 (l.map zae)] (.tuple [.seq 1 ((innL c l).map zae),nilE]):=by
 have f0:=zbZ env a1 a8 he c h hsm (zL l) (by rw [zcj]; omega);unfold chkE at f0;rw [if_pos hb,zg9] at f0;have f1:=zla env c h l hl hk;unfold zai at f0 f1 |-;generalize innL c l=R at*;refine qf func38 call38 ntmps38 results38 ?_;repeat (first | refine st0 ?_ | refine cC0 f0 ?_ | refine cC0 f1 ?_)
 exact aR0
end
section
open Go.RowKit
def trAt (c:ChD) (n:Nat):TrD:=c.trans.getD n ⟨0,[],[],[],0⟩
def zrO (c:ChD) (act:List Int) (a b:Nat):Bool:=(zhr c act (trAt c a)).any fun i=>(zhr c act (trAt c b)).contains i
def zub (c:ChD) (act:List Int) (n k:Nat):Bool:= !zrO c act k n||aboveB c (trAt c k).src (trAt c n).src
def ztm (c:ChD) (act:List Int) (l:List Nat) (n:Nat):List Nat:=if l.all (zub c act n) then(l.filter fun k=> !zrO c act k n)++[n] else l
structure Fit (c:ChD) (act:List Int) (l:List Nat):Prop where
 real: ∀n∈l,∃t,c.trans[n]? =some t/\t.src∈act
 two:l.Pairwise fun k n=>k≠n/\zrO c act k n=false
theorem Fit.nil (c:ChD) (act:List Int):Fit c act []:=⟨fun _ h=>by simp at h, .nil⟩
theorem Fit.take {c:ChD} {act:List Int} {l:List Nat} (h:Fit c act l) {n:Nat} (hn: ∃t,c.trans[n]? =some t/\t.src∈act) (hl:n∉l):Fit c act (ztm c act l n):=by
 unfold ztm;split
 ·refine⟨fun m hm=> ?_, ?_⟩
  ·rcases List.mem_append.1 hm with hm | hm
   ·exact h.real m (List.mem_filter.1 hm).1
   ·rw [List.mem_singleton.1 hm]; exact hn
  ·refine List.pairwise_append.2 ⟨h.two.sublist List.filter_sublist,List.pairwise_singleton ..,fun a ha b hb=> ?_⟩;rw [List.mem_singleton.1 hb];obtain⟨h1,h2⟩:=List.mem_filter.1 ha;exact⟨fun e=>hl (e ▸ h1),by simpa using h2⟩
 ·exact h
end
section
open Go.RowKit
end
section
open Go.RowKit
end
section
open Go.RowKit Go.Extern.Stop Go.Stop Go.Extern
end
section
open Go.RowKit
end
section
open Go.RowKit
end
section
open Go.RowKit
end
section
end
section
open Go.RowKit
def zsB (c:ChD) (t:TrD) (mem:List MemD):List Nat:=if t.target<0 then [] else tgtL c t.src t.target mem
end

end Go.Proofs.YtbpmkofnfgdegaaGreatDoor