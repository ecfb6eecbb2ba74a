/- The law MicroEnabled. -/
import Derived.Test.YtbpmkofnfgdegaaGreatDoorM24
import Derived.Test.YtbpmkofnfgdegaaGreatDoorM8
import Derived.Test.YtbpmkofnfgdegaaGreatDoorM6
import Derived.Test.YtbpmkofnfgdegaaGreatDoorM11
import Derived.Test.YtbpmkofnfgdegaaGreatDoorM19
import Derived.Test.YtbpmkofnfgdegaaGreatDoorM17
import Derived.Test.YtbpmkofnfgdegaaGreatDoorM22
import Derived.Test.YtbpmkofnfgdegaaGreatDoorM21
import Derived.Test.YtbpmkofnfgdegaaGreatDoorM23
import Derived.Test.YtbpmkofnfgdegaaGreatDoorM10
import Derived.Test.YtbpmkofnfgdegaaGreatDoorM5
import Derived.Lib.Overlaps
import Derived.Lib.AppendZerosOnto
import Derived.Deep.RegionLaw
import Derived.Test.YtbpmkofnfgdegaaGreatDoorM18
import Derived.Test.YtbpmkofnfgdegaaGreatDoorM14
import Derived.Test.YtbpmkofnfgdegaaGreatDoorM9
set_option maxRecDepth 100000
set_option maxHeartbeats 16000000
set_option linter.unusedSimpArgs false
namespace Go.Proofs.YtbpmkofnfgdegaaGreatDoor
open Go.Proofs.Tryz
section
open Go.RowKit
theorem zon {l:List (List UInt8×Int)} (h:TmsOk l) (hl:l.length<=8):zb3 l=true:=by
 unfold zb3;rw [decide_eq_true hl,Bool.and_true];refine zgS fun j hj=> ?_;have e:l.getD j ([],0)=l[j]:=by simp [List.getD_eq_getElem?_getD,List.getElem?_eq_getElem hj]
 obtain⟨e1,e2,e3⟩:=h.each _ (List.getElem_mem hj);unfold tmAt;rw [e,e1];have hc:clkB l[j].2=true:=by unfold clkB; simp [e2,e3]
 rw [hc];by_cases h0:j=0
 ·simp [h0]
 ·have hp:=List.pairwise_iff_getElem.1 h.rise (j-1) j (by omega) hj (by omega);have e4:l.getD (j-1) ([],0)=l[j-1]'(by omega):=by simp [List.getD_eq_getElem?_getD,List.getElem?_eq_getElem (show j-1<l.length by omega)]
  rw [e4,hp];simp
def inR (r:RunD):InD:=(r.act,r.vars,r.mem,r.tms,r.over)
theorem zoD {c:ChD} {r:RunD} (h:RunOk c r) (hb:lgB c r.act=true) (hm:zjq c r.mem=true) (ho:r.over=zfw c r.act):zbI c (rcI (inR r))=true:=by
 unfold zbI;show (lgB c r.act&&zjq c r.mem&&(r.vars.length==c.vars.length)&&zb3 r.tms&&(r.over==zfw c r.act)&&zfx r.vars)=true;rw [hb,hm,h.len,zon h.tms h.tml,ho,show zfx r.vars=true from List.all_eq_true.2 h.vars];simp
theorem zsI {c:ChD} {act:List Int} (h: ∀x∈act,inZ c x=true):zfw c act=act.any fun x=>za7 c x==3&&decide (parZ c x<0):=by
 unfold zfw;rw [Bool.eq_iff_iff,List.any_eq_true,List.any_eq_true]
 have e: ∀x∈act,zcJ c x=(za7 c x==3&&decide (parZ c x<0)):=fun x hx=>by
  obtain⟨k,s,rfl,hs,_⟩:=zgR (h x hx);unfold zcJ;rw [Int.toNat_natCast,hs,zc5 hs,zgi hs,Bool.and_comm]
 exact⟨fun⟨x,hx,q⟩=>⟨x,hx,by rw [<-e x hx]; exact q⟩,fun⟨x,hx,q⟩=>⟨x,hx,by rw [e x hx]; exact q⟩⟩
theorem zli {c:ChD} (h:Full c) {now:Int} (hn:0<=now/\now<=1099511627776) (hv: ∀v∈c.vars,zaj v.start=true) (he:(firstP c now).2=none):zbI c (rcI (inR (firstP c now).1))=true/\RunOk c (firstP c now).1/\(firstP c now).1.mem=[]:=by
 obtain⟨k1,k2⟩:=zrG (zb1 h) (l:=zL (tbegL c (-1))) (show zaj 0=true by rfl) hn (start_ok hv) .nil
 have hce:(zaN c 0 now (startR c) [] (zL (tbegL c (-1)))).1.2=none:=by
  cases hx:(zaN c 0 now (startR c) [] (zL (tbegL c (-1)))).1.2 with
  | none=>rfl
  | some e=>rw [show firstP c now=enterP c 0 now (startR c) (zL (tbegL c (-1))) from rfl,zj9 hx,hx] at he; cases he
 have hb:=(zd5 h hn hv hce);have kE:=k2 he;change zbI c (rcI (inR (enterP c 0 now (startR c) (zL (tbegL c (-1)))).1))=true/\RunOk c (enterP c 0 now (startR c) (zL (tbegL c (-1)))).1/\(enterP c 0 now (startR c) (zL (tbegL c (-1)))).1.mem=[]
 have hact:(enterP c 0 now (startR c) (zL (tbegL c (-1)))).1.act=zL (zf8 c (tbegL c (-1))):=by
  obtain⟨_,kc⟩:=zeg (zb1 h) (l:=zL (tbegL c (-1))) (f:=[]) (show zaj 0=true by rfl) hn (start_ok hv) .nil;rw [<-hb.2];exact zkP kE.rise (kc hce).rise fun x=>by rw [kE.mem,(kc hce).mem]
 have hin: ∀x∈zL (zf8 c (tbegL c (-1))),inZ c x=true:=fun x hx=>by
  obtain⟨j,hj,rfl⟩:=List.mem_map.1 hx;exact zay.2 (List.mem_range.1 (List.mem_filter.1 hj).1)
 refine⟨zoD k1 (by rw [hact, <-hb.2]; exact hb.1) (by rw [kE.mm]; rfl) ?_,k1,kE.mm⟩;rw [kE.over,hact,zsI hin,Bool.eq_iff_iff];show (false||_)=true↔_;rw [Bool.false_or,List.any_eq_true,List.any_eq_true]
 have hm: ∀x,x∈zL (zf8 c (tbegL c (-1)))↔x∈zL (tbegL c (-1)):=fun x=>by
  rw [<-hact,kE.mem];simp [startR]
 constructor
 ·rintro⟨x,hx,q⟩;exact⟨x,(hm x).2 hx,by simpa [startR] using q⟩
 ·rintro⟨x,hx,q⟩;exact⟨x,(hm x).1 hx,by simpa [startR] using q⟩
theorem zrk {c:ChD} {act:List Int} (h:lgB c act=true):act.length<=c.states.length:=by
 have hL:=zma h
 have:=hL.nodup.length_le_of_subset (l₂:=zL (List.range c.states.length)) fun x hx=>by
  obtain⟨_,_,hz,_⟩:=hL.of hx;obtain⟨h0,h1⟩:=zas.1 hz;exact List.mem_map.2 ⟨x.toNat,List.mem_range.2 (by omega),by simp; omega⟩
 rw [zcj,List.length_range] at this;exact this
theorem zm9 (env:Env) (c:ChD) (h:Full c) (hvl:c.vars.length<=8) (now:Int) (hn:0<=now/\now<=1099511627776) (hv: ∀v∈c.vars,zaj v.start=true):Con prog env 24 [.agg (chAV c),I now] (.agg (rrA (firstP c now).1 0 now (firstP c now).2)):=by
 have hbl:(tbegL c (-1)).length<=1000:=by
  rw [zqS h];have:=zlS h (iniN c);omega
 have f0:=znc env c h (-1);have f1:=zna env c h (by omega) 0 now (show zaj 0=true by rfl) hn (startR c) (start_ok hv) .nil (fun x hx=>by simp [startR] at hx) (Nat.zero_le _) (tbegL c (-1)) (fun i hi=>zhX h hi) hbl (fun hh=>(zd5 h hn hv hh).1);change Con _ _ _ _ (.agg (rrA (firstP c now).1 0 now (firstP c now).2)) at f1;have f2:=f1.args (cs':=[.agg (chAV c), .agg [nilS,ints34 (c.vars.map (·.start)),nilS,nilS,B false,nilS,nilS,I 0,I now,I 0,I (-1)], .seq 1 ((tbegL c (-1)).map zae)]) (.cons (.refl _) (.cons (.agg (.cons (.nil 1) (.cons (.refl _) (.cons (.nil 2) (.cons (.nil 2) (.cons (.refl _) (.cons (.nil 1) (.cons (.nil 2) (.cons (.refl _) (.cons (.refl _) (.cons (.refl _) (.cons (.refl _) .nil)))))))))))) (.cons (.refl _) .nil)));try clear f1
 generalize tbegL c (-1)=G at*;generalize firstP c now=X at*;unfold chAV at f0 f2;unfold ints34 at f2;have hF: ∀k,k<=c.vars.length->((c.vars.take k).map (·.start)).length=k:=fun k hk=>by simp; omega
 refine qf func24 call24 ntmps24 results24 ?_;repeat refine st0 ?_
 refine nC0 5 9001 0 1 3 1 ?_;refine zab (D:=Nat) (fun j vs=>[(2, .loc 2 (vs 2) 0 0),(4, .loc 4 (vs 4) 0 0),(5, .loc 5 (vs 5) 0 0),(6,I j)]) (fun j vs=>[(2,⟨5,[chAV c],26,false⟩),(4,⟨11,[[nilS,nilS,nilS,nilS,B false,nilS,nilS,I 0,I 0,I 0,I 0]],59,false⟩),(5,⟨11,[[nilS, .row 9001 (vs 9001),nilS,nilS,B false,nilS,nilS,I 0,I now,I 0,I (-1)]],59,false⟩),(9001,⟨1,((c.vars.take j).map (·.start)).map intAV,3,true⟩)]) (fun j _ esc=>j<=c.vars.length/\esc 4=false/\esc 5=false/\esc 9001=false) (fun j=>c.vars.length-j) 0 ?_ ?_ ?_ ?_
 ·exact⟨Nat.zero_le _,by simp only [go_sem,and_self]⟩
 ·exact qe0
 ·have F:=chAV.eq_1
  (simp only [go_sem,F])
  try rfl
 rintro j ws es ⟨hj,e0,e1,e2⟩;by_cases hlt:j<c.vars.length
 ·obtain⟨v,hx⟩: ∃v,c.vars[j]? =some v:=⟨c.vars[j],List.getElem?_eq_getElem hlt⟩;have q1:=nlt hlt;have q2:=zaa hlt (by omega);have q3:Fits (((c.vars.take j).map (·.start)).length+1) 8:=by rw [hF j hj]; exact zaf (by omega) (by omega)
  have q4:((c.vars.take (j+1)).map (·.start)).map intAV=((c.vars.take j).map (·.start)).map intAV++[[I v.start]]:=by rw [zbm hx]; simp
  generalize hU:(c.vars.take j).map (·.start)=U at*;have F:=ai9 chAV.eq_1 zca.eq_1 hx q1 q2 q3 e0 e1 e2;repeat refine st ?_
  refine⟨j+1,⟨hlt, ?_⟩, ?_, ?_,by omega⟩
  ·simp only [go_sem,e0,e1,e2,and_self]
  ·exact qe
  ·simp only [q4];exact qe
 ·obtain rfl:j=c.vars.length:=by omega
  have q1: ¬(c.vars.length:Int)< (c.vars.length:Int):=by omega
  have q5:((c.vars.take c.vars.length).map (·.start)).map intAV=(c.vars.map (·.start)).map intAV:=by rw [List.take_length]
  simp only [q5];rcases X with⟨r1,_ | ⟨k,ps⟩⟩
  ·unfold rrA at f2 |-;simp only at f2 |-;have F:=ai5 chAV.eq_1 q1 e0 e1 e2;repeat (first | refine st ?_ | refine cC f0 ?_ | refine cC f2 ?_)
   exact aR
  ·unfold rrA at f2 |-;simp only at f2 |-;have F:=ai5 chAV.eq_1 q1 e0 e1 e2;repeat (first | refine st ?_ | refine cC f0 ?_ | refine cC f2 ?_)
   exact aR
theorem zh5 (env:Env) (l:List Int) (hl:l.length<=1000000):Con prog env 20 [.seq 1 (l.map intAV), .seq 1 (l.map intAV)] (B true):=by
 refine qf func20 call20 ntmps20 results20 ?_;repeat refine st0 ?_
 refine zab (D:=Nat) (fun j vs=>[(0, .seq 1 (l.map intAV)),(1, .seq 1 (l.map intAV)),(5,I j)]) (fun _ _=>[]) (fun j _ _=>j<=l.length) (fun j=>l.length-j) 0 ?_ ?_ ?_ ?_
 ·exact Nat.zero_le _
 ·exact qe0
 ·exact qe0
 rintro j ws es hj;by_cases hlt:j<l.length
 ·obtain⟨x,hx⟩: ∃x,l[j]? =some x:=⟨l[j],List.getElem?_eq_getElem hlt⟩;have q1:=nlt hlt;have q2:=zaa hlt (by omega);have F:=ai4 intAV.eq_1 hx q1 q2;repeat refine st ?_
  refine⟨j+1,hlt, ?_, ?_,by omega⟩
  ·exact qe
  ·exact qe
 ·obtain rfl:j=l.length:=by omega
  have q1: ¬(l.length:Int)< (l.length:Int):=by omega
  have F:=q1;repeat refine st ?_
  exact aR
theorem zf4 (env:Env) (l:List (List UInt8×Int)) (hl:l.length<=1000000):Con prog env 25 [.seq 2 (l.map tmAV), .seq 2 (l.map tmAV)] (B true):=by
 refine qf func25 call25 ntmps25 results25 ?_;repeat refine st0 ?_
 refine zab (D:=Nat) (fun j vs=>[(0, .seq 2 (l.map tmAV)),(1, .seq 2 (l.map tmAV)),(5,I j)]) (fun _ _=>[]) (fun j _ _=>j<=l.length) (fun j=>l.length-j) 0 ?_ ?_ ?_ ?_
 ·exact Nat.zero_le _
 ·exact qe0
 ·exact qe0
 rintro j ws es hj;by_cases hlt:j<l.length
 ·obtain⟨x,hx⟩: ∃x,l[j]? =some x:=⟨l[j],List.getElem?_eq_getElem hlt⟩;have q1:=nlt hlt;have q2:=zaa hlt (by omega);have F:=ai4 tmAV.eq_1 hx q1 q2;repeat refine st ?_
  refine⟨j+1,hlt, ?_, ?_,by omega⟩
  ·exact qe
  ·exact qe
 ·obtain rfl:j=l.length:=by omega
  have q1: ¬(l.length:Int)< (l.length:Int):=by omega
  have F:=q1;repeat refine st ?_
  exact aR
end
section
open Go.RowKit
end
section
open Go.RowKit
end
section
open Go.RowKit
def wakeM:ChD:=⟨[99],0,[],[⟨[97],1, -1, -1,[],[]⟩,⟨[98],1, -1, -1,[],[]⟩],[⟨0,[120],[],[],1⟩]⟩
def zoe:List AV:=[Sg [99],I 0,nilS, .seq 6 [[Sg [97],I 1,I (-1),I (-1),nilS,nilS],[Sg [98],I 1,I (-1),I (-1),nilS,nilS]], .seq 5 [[I 0,Sg [120],nilS,nilS,I 1]]]
theorem zov (n:List UInt8) (k p i:Int):Strs [Sg n,I k,I p,I i,nilS,nilS] (stAV ⟨n,k,p,i,[],[]⟩):= .cons (.refl _) (.cons (.refl _) (.cons (.refl _) (.cons (.refl _) (.cons (.nil 4) (.cons (.nil 4) .nil)))))
theorem zob:Strs [.agg zoe] [.agg (chAV wakeM)]:=by
 refine .one (.agg (.cons (.refl _) (.cons (.refl _) (.cons (.nil 2) (.cons (.seqs ?_) (.cons (.seqs ?_) .nil))))))
 ·exact .cons (zov ..) (.cons (zov ..) .nil)
 ·exact .cons (.cons (.refl _) (.cons (.refl _) (.cons (.nil 2) (.cons (.nil 4) (.cons (.refl _) .nil))))) .nil
theorem zoc:zdZ wakeM:=by simp [zdZ,zjT,zjS,wakeM,maxLen]
theorem zek:chk wakeM=(0, -1):=by decide+kernel
theorem zfS:lgB wakeM [0]=true:=by decide+kernel
theorem zod:tbegL wakeM (-1)=[0]:=by decide+kernel
theorem zqP:evI wakeM [120]=0:=by decide+kernel
theorem zqQ:tatL wakeM 0 0=[0]:=by decide+kernel
theorem zmJ:zhr wakeM [0] ⟨0,[120],[],[],1⟩=[0]:=by decide+kernel
theorem zqO:upL wakeM 0=[-1]:=by decide+kernel
end
section
open Go.RowKit
section
variable {P:Program} {env:Env} {s:St}
end
end
section
open Go.RowKit
end
section
open Go.RowKit
end
section
open Go.RowKit
end
section
open Go.RowKit
end
section
open Go.RowKit
/-! As the document says -/
end
section
open Go.RowKit
theorem Con.lendE {P:Program} {env:Env} {f:FuncId} {cs:List AV} {sz:Nat} (h:Con P env f cs (.tuple [.seq sz [],nilE])):ConF P env f cs (.tuple [.seq sz [],nilE]):=by
 refine⟨h.enter,fun w S vs hE hl hv=>(h.calls w S vs hE hl hv).mono ?_⟩;rintro e w' ⟨v,rfl,hb,S',_,_,_,hr⟩;refine⟨v,rfl,hb,fun _ _=>False,fun _ _ h=>h.elim, ?_⟩;have hr:RV S' w' v (.tuple [.seq sz [],nilE]):=hr;show RV _ w' v (.tuple [.seq sz [],nilE]);cases hr with
 | tuple vs cs h hc=>
   refine .tuple vs _ h fun i v c hv hcc=> ?_
   match i,hcc with
   | 0,hcc=>
     cases hcc;have h0:=hc 0 v _ hv rfl;cases h0 with
     | seq A n cap sz es b o u hn hcap hA hz hc hr=>exact .seq A n cap _ [] b o u hn hcap hA (fun i e he=>by simp at he) (fun i j c hc=>by simp [cellAt] at hc) (fun i j c hc=>by simp [cellAt] at hc)
   | 1,hcc=>
     cases hcc;exact(hc 1 v _ hv rfl).flat rfl
   | n+2,hcc=>simp at hcc
theorem znY (env:Env) (a1 a8:Addr) (he:ChEnv env a1 a8) (c:ChD) (h:Full c) (hs:Small c) (act:List Int) (hl:act.length<=1000000) (k:Nat) (t:TrD) (ht:c.trans[k]? =some t) (hb:lgB c act=true) (h0: ¬t.target<0):
 ConI prog env 73 [1001,35] (fun i=>i==35) (fun g=>[zai c, .row 1001 (g 1001),I k]) (fun _=>[(1001,⟨1,act.map intAV,3,true⟩)]) (fun _=>[(1001,⟨1,act.map intAV,3,true⟩),(35,⟨1,(zhr c act t).map intAV,3,true⟩)]) (fun g=> .tuple [.row 35 (g 35),nilE]):=by
 have f0:=zbZ env a1 a8 he c h hs act hl;have f1:=zlL env c hs k t ht;have f2:=zhD env c h.toRight hs t (h.src ht).1;have f3:=(zrm env c h.toRight act hl (domE c t.src t.target)).lend (zaJ (fun _=>rfl) _);unfold chkE at f0;rw [hb] at f0;simp only [if_true] at f0;have f0:=f0.lend rfl;unfold zhr;rw [if_neg h0];unfold trAV at f1 f2;unfold zai at f0 f1 f2 f3 |-;generalize (undR c act (domE c t.src t.target)).reverse=R at*;refine qi func73 call73 ntmps73 results73 ?_;intro vs esc hesc;have e0:=hesc 1001 (by simp);have F:=ai h0 e0;repeat refine st ?_
 refine lL f0 ?_;repeat (first | refine st ?_ | refine cC f1 ?_ | refine cC f2 ?_)
 refine lL f3 ?_;repeat refine st ?_
 exact rI
/-! A step in which nothing is done: the chart of awake -/
def wkS:List (List AV):=[[Sg [97],I 1,I (-1),I (-1), .seq 4 [], .seq 4 []],[Sg [98],I 1,I (-1),I (-1), .seq 4 [], .seq 4 []]]
def wkT:List (List AV):=[[I 0,Sg [120], .seq 2 [], .seq 4 [],I 1]]
theorem zhQ:chAV wakeM=[Sg [99],I 0, .seq 2 [], .seq 6 wkS, .seq 5 wkT]:=rfl
theorem zfA:Right wakeM:=zfD (by rw [zek])
theorem zn9:wkS.length=2:=rfl
theorem zsd {k:Nat} (hk:k<2): ∃nm,wkS[k]? =some [Sg nm,I 1,I (-1),I (-1), .seq 4 [], .seq 4 []]:=by
 rcases (show k=0\/k=1 by omega) with rfl | rfl
 ·exact⟨_,rfl⟩
 ·exact⟨_,rfl⟩
theorem ziQ:IntKind.i64.wrap 1=1:=by decide
theorem zmi:Fits 1 8:=zaf (by omega) (by omega)
def RMe (g:Nat->Nat):List AV:=[.row 1001 (g 1001), .row 1002 (g 1002), .seq 2 [], .seq 2 [],B false,nilS,nilS, .ref 9 [tabCells wakeM] 0 0,Sg [99],I 0, .seq 2 [], .seq 6 wkS, .seq 5 wkT,I 0,I 0]
def RM (A:List (List AV)) (g:Nat->Nat):List (Nat×Row):=[(1000,⟨15,[RMe g],79,false⟩),(1001,⟨1,A,3,true⟩),(1002,⟨1,[],3,true⟩)]
def RMl (A L:List (List AV)) (g:Nat->Nat):List (Nat×Row):=[(1000,⟨15,[RMe g],79,false⟩),(1001,⟨1,A,3,true⟩),(1002,⟨1,[],3,true⟩),(1003,⟨1,L,3,true⟩)]
end
section
open Go.RowKit
theorem ziO (env:Env) (A:List (List AV)):ConI prog env 78 [1000,1001,1002] (fun _=>false) (fun g=>[.loc 1000 (g 1000) 0 0, .seq 4 []]) (RM A) (RM A) (fun _=>nilE):=by
 refine qi func78 call78 ntmps78 results78 ?_;intro vs esc hesc;have e0:=hesc 1000 (by simp);have e1:=hesc 1001 (by simp);have e2:=hesc 1002 (by simp);have F:=ai5 RM.eq_1 RMe.eq_1 e0 e1 e2;repeat (first | refine zag ?_ | refine st ?_ | refine zad 40 ?_)
 exact rI
theorem zqh (env:Env) (k:Nat) (hk:k<2):ConI prog env 109 [1000,1001,1002,1003] (fun i=>i==1001) (fun g=>[.loc 1000 (g 1000) 0 0, .row 1003 (g 1003)]) (RMl [] [[I k]]) (RMl [[I k]] [[I k]]) (fun _=> .tuple [nilS,nilE]):=by
 obtain⟨nm,hx⟩:=zsd hk;have f0:Con prog env 40 [.seq 1 [],I k] (B false):=zbg env [] k (by simp);have f1:=ziO env [[I (k:Int)]];have q1:(k:Int)<2:=by omega
 have q2:=zn9;have q3:=zmi;have q4:=ziQ;have g1:=zf2 [(k:Int)] (by simp);have hs:zaR [(k:Int)]=[(k:Int)]:=by simp [zaR]
 rw [hs] at g1;unfold RM RMe at f1;refine qi func109 call109 ntmps109 results109 ?_;intro vs esc hesc;have e0:=hesc 1000 (by simp);have e1:=hesc 1001 (by simp);have e2:=hesc 1002 (by simp);have e3:=hesc 1003 (by simp);have F:=ai11 RMl.eq_1 RMe.eq_1 e0 e1 e2 e3 hx q1 q2 q3 q4;repeat (first | refine zag ?_ | refine st ?_ | refine zad 40 ?_)
 refine lL (f0.lend rfl) ?_;repeat (first | refine zag ?_ | refine st ?_ | refine zad 40 ?_)
 refine zgz 1001 rfl (row:=⟨1,[[I k]],3,true⟩) g1 (Nat.succ_ne_zero 0) rfl (litEs_int [(k:Int)]).symm (by simp only [go_sem,e1]; exact iR) (by simp only [go_sem,e1]; exact iR) (by simp only [go_sem,e1]; exact iR) (by simp only [go_sem,e1]; exact iR) ?_;rw [show zaL [intC (k:Int)]=[[I k]] from litEs_int [(k:Int)]];repeat (first | refine zag ?_ | refine st ?_ | refine zad 40 ?_)
 refine iL [(1000,1000),(1001,1001),(1002,1002)] f1 ?_;repeat (first | refine zag ?_ | refine st ?_ | refine zad 40 ?_)
 exact rI
end
section
open Go.RowKit
theorem zqK:sortL wakeM []=[]:=by decide+kernel
theorem zqJ:sortL wakeM [0]=[0]:=by decide+kernel
theorem zqI:sortL wakeM [1]=[1]:=by decide+kernel
theorem zlk (env:Env) (A:List (List AV)):ConI prog env 110 [1000,1001,1002] (fun _=>false) (fun g=>[.loc 1000 (g 1000) 0 0,nilS]) (RM A) (RM A) (fun _=>nilE):=by
 have f0:=zaM env wakeM;have f1:Con prog env 66 [zan wakeM,nilS] (.own 3 1 ((sortL wakeM []).map zae)):=(zbU env wakeM zfA [] (by simp)).args (.cons (.refl _) (.cons (.nil 1) .nil));rw [zqK] at f1;unfold zai at f0;unfold zan at f0 f1;refine qi func110 call110 ntmps110 results110 ?_;intro vs esc hesc;have e0:=hesc 1000 (by simp);have e1:=hesc 1001 (by simp);have e2:=hesc 1002 (by simp);have F:=ai5 RM.eq_1 RMe.eq_1 e0 e1 e2;repeat (first | refine zag ?_ | refine st ?_ | refine cC f0 ?_ | refine cC f1 ?_ | refine zad 40 ?_)
 exact rI
theorem zhC (env:Env) (k:Nat) (hk:k<2):ConI prog env 59 [1000,1001,1002,1003] (fun i=>i==1001) (fun g=>[.loc 1000 (g 1000) 0 0, .row 1003 (g 1003)]) (RMl [] [[I k]]) (RMl [[I k]] [[I k]]) (fun _=>nilE):=by
 have f0:=zqh env k hk;have f1:=zlk env [[I (k:Int)]];unfold RM RMe at f1;unfold RMl RMe at f0;refine qi func59 call59 ntmps59 results59 ?_;intro vs esc hesc;have e0:=hesc 1000 (by simp);have e1:=hesc 1001 (by simp);have e2:=hesc 1002 (by simp);have e3:=hesc 1003 (by simp);have F:=ai6 RMl.eq_1 RMe.eq_1 e0 e1 e2 e3;repeat refine st ?_
 refine iL [(1000,1000),(1001,1001),(1002,1002),(1003,1003)] f0 ?_;repeat refine st ?_
 refine iL [(1000,1000),(1001,1001),(1002,1002)] f1 ?_;repeat refine st ?_
 exact rI
end
section
open Go.RowKit
theorem znu (env:Env) (G d:Int):Con prog env 139 [I d, .ref 1 [[I G]] 0 0] (B (d==G)):=by
 refine qf func139 call139 ntmps139 results139 ?_;repeat refine st0 ?_
 exact aR0
theorem znv (env:Env):ConI prog env 77 [1000,1001,1002,1003] (fun i=>i==1001) (fun g=>[.loc 1000 (g 1000) 0 0, .row 1003 (g 1003)]) (RMl [[I 0]] [[I 0]]) (RMl [] [[I 0]]) (fun _=>nilE):=by
 obtain⟨nm,hx⟩:=zsd (show 0<2 by omega);have f1:=ziO env [[I 0]];have f2:ConI prog env _ _ _ _ _ (fun _=>[(1000,⟨1,[],3,true⟩),(1001,⟨1,[[I 0]],3,false⟩)]) _:=zke env [0] (fun d=>d==0) 139 0 3 (znu env 0) (by simp);have q2:=zn9;have q4:=ziQ;have g1:=zhh [0] (by simp);unfold RM RMe at f1;refine qi func77 call77 ntmps77 results77 ?_;intro vs esc hesc;have e0:=hesc 1000 (by simp);have e1:=hesc 1001 (by simp);have e2:=hesc 1002 (by simp);have e3:=hesc 1003 (by simp);have F:=ai10 RMl.eq_1 RMe.eq_1 intAV.eq_1 e0 e1 e2 e3 hx q2 q4;repeat (first | refine zag ?_ | refine st ?_ | refine zad 40 ?_)
 refine zgz 1003 rfl (row:=⟨1,[[I 0]],3,true⟩) g1 (Nat.succ_ne_zero 0) rfl (litEs_int [(0:Int)]).symm (by simp only [go_sem,e3]; exact iR) (by simp only [go_sem,e3]; exact iR) (by simp only [go_sem,e3]; exact iR) (by simp only [go_sem,e3]; exact iR) ?_;rw [show zaL (List.map intC (List.reverse [(0:Int)]))=[[I 0]] from litEs_int [(0:Int)]];repeat (first | refine zag ?_ | refine st ?_ | refine zad 40 ?_)
 refine iL [(1000,1000),(1001,1001),(1002,1002)] f1 ?_;repeat (first | refine zag ?_ | refine st ?_ | refine zad 40 ?_)
 refine iL [(1000,1001),(1001,6)] f2 ?_;repeat (first | refine zag ?_ | refine st ?_ | refine zad 40 ?_)
 exact rI
theorem zry (env:Env):ConI prog env 33 [1000,1001,1002] (fun _=>false) (fun g=>[.loc 1000 (g 1000) 0 0, .seq 1 [[I 0]]]) (RM [[I 0]]) (RM [[I 0]]) (fun _=>B true):=by
 have f0:Con prog env 40 [.seq 1 [[I 0]],I 0] (B true):=zbg env [0] 0 (by simp);have q4:=ziQ;refine qi func33 call33 ntmps33 results33 ?_;intro vs esc hesc;have e0:=hesc 1000 (by simp);have e1:=hesc 1001 (by simp);have e2:=hesc 1002 (by simp);have F:=ai7 RM.eq_1 RMe.eq_1 wkT.eq_1 e0 e1 e2 q4;repeat (first | refine zag ?_ | refine st ?_ | refine zad 40 ?_)
 refine lL (f0.lend rfl) ?_;repeat (first | refine zag ?_ | refine st ?_ | refine zad 40 ?_)
 exact rI
end
section
open Go.RowKit
theorem zst:memL wakeM 0=[]:=by decide+kernel
theorem zlt (env:Env):Con prog env 186 [.seq 2 []] nilS:=by
 refine qf func186 call186 ntmps186 results186 ?_;repeat (first | refine zag ?_ | refine st0 ?_ | refine zad 40 ?_)
 exact aR0
theorem zh8 (env:Env) (h:Full wakeM) (hs:Small wakeM):Con prog env 135 [zai wakeM, .seq 1 [[I 0]], .seq 1 [[I 0]], .seq 2 []] nilS:=by
 have f0:=zav env wakeM hs;have f1:=zlt env;have f2:=zmO env wakeM h 0;rw [zst] at f2;have q0:IntKind.i64.wrap 1=1:=by decide
 rw [show chAV wakeM=[Sg [99],I 0, .seq 2 [], .seq 6 [[Sg [97],I 1,I (-1),I (-1), .seq 4 [], .seq 4 []],[Sg [98],I 1,I (-1),I (-1), .seq 4 [], .seq 4 []]], .seq 5 [[I 0,Sg [120], .seq 2 [], .seq 4 [],I 1]]] from rfl] at f0;unfold zai at f0 f2 |-;refine qf func135 call135 ntmps135 results135 ?_;have F:=q0;repeat (first | refine zag ?_ | refine st ?_ | refine cC f0 ?_ | refine cC f1 ?_ | refine cC f2 ?_ | refine zad 40 ?_)
 exact aR
theorem ze5 (env:Env):Con prog env 126 [zai wakeM, .seq 2 []] nilE:=by
 unfold zai;refine qf func126 call126 ntmps126 results126 ?_;repeat (first | refine zag ?_ | refine st0 ?_ | refine zad 40 ?_)
 exact aR0
theorem ziP (env:Env) (a1 a8:Addr) (he:ChEnv env a1 a8) (h:Full wakeM) (hs:Small wakeM):Con prog env 75 [zai wakeM, .seq 1 [[I 0]], .seq 1 [[I 0]], .seq 2 []] (.tuple [.seq 2 [],nilE]):=by
 have f0:Con prog env 79 [zai wakeM, .seq 1 [[I 0]]] nilE:=by
  have:=zbZ env a1 a8 he wakeM h hs [0] (by simp);unfold chkE at this;rwa [if_pos zfS] at this
 have f1:=ze5 env;have f2:Con prog env 40 [.seq 1 [[I 0]],I 0] (B true):=zbg env [0] 0 (by simp);have f3:=zh8 env h hs;have q0:IntKind.i64.wrap 1=1:=by decide
 unfold zai at f0 f1 f3 |-;refine qw func75 call75 ntmps75 results75 ?_;have F:=q0;repeat (first | refine zag ?_ | refine st ?_ | refine cC f0 ?_ | refine cC f1 ?_ | refine cC f2 ?_ | refine cC f3 ?_ | refine zad 40 ?_)
 (refine zak ?_; refine⟨_,(by show (zaz _ _ _).run _=some _; simp only [go_sem,F]; rfl), ?_⟩)
 exact .of (.tuple (.cons (.nil 2) (.cons (.refl _) .nil))) (fun _ _ _ h=>by cases h) (fun _ _ _ h=>by cases h)
end
section
open Go.RowKit
theorem zfQ:Right wakeM:=zfD (by rw [zek])
theorem zsc:chAV wakeM=[Sg [99],I 0, .seq 2 [], .seq 6 [[Sg [97],I 1,I (-1),I (-1), .seq 4 [], .seq 4 []],[Sg [98],I 1,I (-1),I (-1), .seq 4 [], .seq 4 []]], .seq 5 [[I 0,Sg [120], .seq 2 [], .seq 4 [],I 1]]]:=rfl
theorem ztj:upL wakeM 1=[-1]:=by decide+kernel
theorem zqL:sortL wakeM [1]=[1]:=by decide+kernel
theorem zsw:domE wakeM 0 1= -1:=by decide+kernel
theorem ztk:(if (1:Int)= -1\/inZ wakeM 1=true then kidsL wakeM 1 true else [])=[]:=by decide+kernel
theorem znw (env:Env) (hs:Small wakeM):Con prog env 193 [zai wakeM,I 1, .seq 2 []] (.own 3 1 [[I 1]]):=by
 have f0:=zav env wakeM hs;rw [zsc] at f0;unfold zai at f0 |-;refine qf func193 call193 ntmps193 results193 ?_;repeat (first | refine st0 ?_ | refine cC0 f0 ?_)
 exact aR0
theorem zsy (env:Env):Con prog env 192 [zai wakeM, .seq 1 [[I 1]],I (-1)] (.own 3 1 [[I 1]]):=by
 have f1:=zaM env wakeM;have f2:=zkC env wakeM zfQ 1;rw [ztj] at f2;have fa:=zoh env [] 1 (by simp) 27;rw [show addU [] 1=[1] from rfl] at fa;have q0:IntKind.i64.wrap 1=1:=by decide
 unfold zai zan at f1;unfold zan at f2;unfold zai;refine qf func192 call192 ntmps192 results192 ?_;repeat refine st0 ?_
 refine nC0 7 9000 0 0 3 1 ?_;have F:=ai q0 intAV.eq_1;repeat (first | refine zag ?_ | refine st ?_ | refine zad 40 ?_)
 refine zmD [(1000,7),(1001,9000)] (zbi rfl (by simp only [go_sem,F]; exact iR)) (fa) (by decide) (by decide) (by simp only [go_sem,F]<;>rfl) (by simp only [go_sem,F,and_self]<;>trivial) (by simp only [go_sem,F,and_self]<;>trivial) (by intro o; simp only [go_sem,F,behind,and_self]<;>trivial) (by intro o; simp only [go_sem,F]<;>rfl) (by simp only [go_sem,F,behind]; exact iR) (by simp only [go_sem,F,behind]; exact iR) ?_;repeat (first | refine zag ?_ | refine st ?_ | refine cC f1 ?_ | refine cC f2 ?_ | refine zad 40 ?_)
 exact aR
theorem zpE (env:Env) (h:Full wakeM) (hs:Small wakeM):Con prog env 191 [zai wakeM, .seq 1 [[I 1]]] (.seq 1 [[I 1]]):=by
 have f0:=zav env wakeM hs;rw [zsc] at f0;have f1:=zcl env wakeM h 1;rw [ztk] at f1;have q0:IntKind.i64.wrap 1=1:=by decide
 unfold zai at f0 f1 |-;refine qf func191 call191 ntmps191 results191 ?_;repeat refine st0 ?_
 refine zqs ?_;have F:=q0;repeat (first | refine zag ?_ | refine st ?_ | refine cC f0 ?_ | refine zad 40 ?_)
 refine zqu ?_;show awp _ _ _ _ _ _;repeat (first | refine zag ?_ | refine st ?_ | refine cC f1 ?_ | refine zad 40 ?_)
 exact aR
theorem zkE (env:Env) (h:Full wakeM) (hs:Small wakeM):Con prog env 136 [zai wakeM, .agg [I 0,Sg [120], .seq 2 [], .seq 4 [],I 1], .seq 2 []] (.own 3 1 [[I 1]]):=by
 have f1:=zaM env wakeM;have f2:=znw env hs
 have f3:Con prog env 134 [zai wakeM, .agg [I 0,Sg [120], .seq 2 [], .seq 4 [],I 1]] (I (-1)):=by
  have:=zhD env wakeM zfQ hs ⟨0,[120],[],[],1⟩ (by decide);rw [zsw] at this;exact this
 have f4:=zsy env;have f5:=zpE env h hs
 have f6:Con prog env 66 [zan wakeM, .seq 1 [[I 1]]] (.own 3 1 [[I 1]]):=by
  have:=zbU env wakeM zfQ [1] (by simp);rw [zqL] at this;exact this
 unfold zan at f1 f6;unfold zai at f1 f2 f3 f4 f5 |-;refine qf func136 call136 ntmps136 results136 ?_;repeat (first | refine st0 ?_ | refine cC0 f1 ?_ | refine cC0 f2 ?_ | refine cC0 f3 ?_ | refine cC0 f4 ?_ | refine cC0 f5 ?_ | refine cC0 f6 ?_)
 exact aR0
theorem zlH (env:Env) (h:Full wakeM) (hs:Small wakeM):Con prog env 76 [zai wakeM,I 0, .seq 2 []] (.tuple [.seq 1 [[I 1]],nilE]):=by
 have f0:=ze5 env;have f1:Con prog env 131 [zai wakeM,I 0] (.tuple [.agg [I 0,Sg [120], .seq 2 [], .seq 4 [],I 1],B true]):=zlL env wakeM hs 0 ⟨0,[120],[],[],1⟩ rfl;have f2:=zkE env h hs;unfold zai at f0 f1 f2 |-;refine qf func76 call76 ntmps76 results76 ?_;repeat (first | refine st0 ?_ | refine cC0 f0 ?_ | refine cC0 f1 ?_ | refine cC0 f2 ?_)
 exact aR0
end
section
open Go.RowKit
theorem zsv:zhr wakeM [0] ⟨0,[120],[],[],1⟩=[0]:=zmJ
theorem zot (env:Env) (a1 a8:Addr) (he:ChEnv env a1 a8) (h:Full wakeM) (hs:Small wakeM):ConI prog env 35 [1000,1001,1002] (fun i=>i==1001) (fun g=>[.loc 1000 (g 1000) 0 0, .seq 1 [[I 0]]]) (RM [[I 0]]) (RM [[I 1]]) (fun _=>nilE):=by
 have f0:=znY env a1 a8 he wakeM h hs [0] (by simp) 0 ⟨0,[120],[],[],1⟩ rfl zfS (by decide);rw [zsv,show ((0:Nat):Int)=0 from rfl] at f0;have f1:=zaM env wakeM;have f2:=zbU env wakeM zfA [0] (by simp);rw [zqJ] at f2;have f3:=ziP env a1 a8 he h hs;have f4:=zlH env h hs;have f5:=znv env;have f6:=ziO env [];have f7:=zbU env wakeM zfA [1] (by simp);rw [zqI] at f7;have f8:=zhC env 1 (by omega);have q3:=zmi;have q4:=ziQ;unfold RM RMe at f6;unfold RMl RMe at f5 f8;unfold zai at f0 f1 f3 f4;unfold zan at f1 f2 f7;refine qi func35 call35 ntmps35 results35 ?_;intro vs esc hesc;refine zkn 9001 rfl ?_;have e0:=hesc 1000 (by simp);have e1:=hesc 1001 (by simp);have e2:=hesc 1002 (by simp);have F:=ai10 RM.eq_1 RMe.eq_1 wkT.eq_1 intAV.eq_1 zae.eq_1 e0 e1 e2 q3 q4;repeat (first | refine zag ?_ | refine st ?_ | refine zad 40 ?_)
 refine iL [(1001,1001),(35,9001)] f0 ?_;repeat (first | refine zag ?_ | refine st ?_ | refine cC f1 ?_ | refine zad 40 ?_)
 refine lL (f2.lend rfl) ?_;repeat (first | refine zag ?_ | refine st ?_ | refine zad 40 ?_)
 refine lL f3.lendE ?_;repeat (first | refine zag ?_ | refine st ?_ | refine cC f4 ?_ | refine zad 40 ?_)
 refine iL [(1000,1000),(1001,1001),(1002,1002),(1003,54)] f5 ?_;repeat (first | refine zag ?_ | refine st ?_ | refine zad 40 ?_)
 refine iL [(1000,1000),(1001,1001),(1002,1002)] f6 ?_;repeat (first | refine zag ?_ | refine st ?_ | refine cC f1 ?_ | refine zad 40 ?_)
 refine lL (f7.lend rfl) ?_;repeat (first | refine zag ?_ | refine st ?_ | refine zad 40 ?_)
 refine iL [(1000,1000),(1001,1001),(1002,1002),(1003,139)] f8 ?_;repeat (first | refine zag ?_ | refine st ?_ | refine zad 40 ?_)
 exact rI
end
section
open Go.RowKit
def wkI:List AV:=[.seq 1 [[I 0]], .seq 1 [], .seq 2 [], .seq 2 [],B false]
def wkE:List AV:=[.seq 1 [[I 0]], .seq 1 [], .seq 2 [], .seq 2 [],B false,nilS,nilS, .ref 9 [tabCells wakeM] 0 0,Sg [99],I 0, .seq 2 [], .seq 6 wkS, .seq 5 wkT,I 0,I 0]
theorem zsu:zbI wakeM ⟨0,0,0,[0],[],[],[],false⟩=true:=by decide+kernel
theorem zhi (env:Env) (a1 a8:Addr) (he:ChEnv env a1 a8) (h:Full wakeM) (hs:Small wakeM) (op:List UInt8):Con prog env 29 [Sg op,zai wakeM, .agg wkI,I 0] nilE:=by
 have f0:Con prog env 68 [zai wakeM, .agg wkI] nilE:=by
  have:=zk7 env a1 a8 he wakeM h hs ⟨0,0,0,[0],[],[],[],false⟩ ⟨by simp,by simp,by simp,by simp⟩ (by simp) (ze5 env);unfold zny at this;rw [if_pos zsu] at this;exact this
 have f1:Con prog env 69 [I 0] (B true):=zbk env 0;unfold wkI at f0 |-;unfold zai at f0 |-;refine qf func29 call29 ntmps29 results29 ?_;repeat (first | refine st0 ?_ | refine cC0 f0 ?_ | refine cC0 f1 ?_)
 exact aR0
theorem zmI (env:Env):Con prog env 147 [.ref 15 [wkE] 0 0] (.agg [.seq 1 [],I 0, .seq 1 (flagA 2 [0])]):=by
 have f0:Con prog env 141 [zai wakeM, .seq 1 [[I 0]]] (.own 4 1 (flagA 2 [0])):=zdx env wakeM (by decide) [0] (by simp);unfold zai at f0;generalize flagA 2 [0]=L at*;unfold wkE;refine qf func147 call147 ntmps147 results147 ?_;repeat (first | refine st0 ?_ | refine cC0 f0 ?_)
 exact aR0
theorem zkz (env:Env) (L:List (List AV)):Con prog env 198 [.agg [.seq 1 [],I 0, .seq 1 L]] nilE:=by
 have f1:Con prog env 69 [I 0] (B true):=zbk env 0;refine qf func198 call198 ntmps198 results198 ?_;repeat (first | refine zag ?_ | refine st0 ?_ | refine cC0 f1 ?_ | refine zad 40 ?_)
 exact aR0
theorem zom (env:Env) (L:List (List AV)):Con prog env 146 [.seq 2 [], .agg [.seq 1 [],I 0, .seq 1 L]] (.tuple [B true,nilE]):=by
 have f0:=zkz env L;have f1:=zkx env [118,97,108,117,101,46,84,114,117,101];refine qf func146 call146 ntmps146 results146 ?_;repeat (first | refine st0 ?_ | refine cC0 f0 ?_ | refine cC0 f1 ?_)
 exact aR0
theorem znB (env:Env):Con prog env 82 [.ref 15 [wkE] 0 0, .seq 1 [[I 0]]] (.tuple [I 0,nilE]):=by
 have f0:=zmI env;have f1:=zom env (flagA 2 [0]);generalize flagA 2 [0]=L at*;unfold wkE wkT at*;refine qf func82 call82 ntmps82 results82 ?_;repeat (first | refine zag ?_ | refine st0 ?_ | refine cC0 f0 ?_ | refine cC0 f1 ?_ | refine zad 40 ?_)
 exact aR0
theorem zsK (env:Env):Con prog env 83 [.ref 15 [wkE] 0 0,I 0,Sg [120]] (.own 3 1 [[I 0]]):=by
 have f0:Con prog env 65 [zai wakeM,Sg [120]] (I 0):=by
  have:=ziY env wakeM (by decide) [120];rw [zqP] at this;exact this
 have f1:Con prog env 150 [zai wakeM,I 0,I 0] (.own 3 1 [[I 0]]):=by
  have:=zor env wakeM (by decide) 0 0;rw [zqQ] at this;exact this
 unfold zai at f0 f1;unfold wkE;refine qf func83 call83 ntmps83 results83 ?_;repeat (first | refine st0 ?_ | refine cC0 f0 ?_ | refine cC0 f1 ?_)
 exact aR0
theorem zpM (env:Env):Con prog env 39 [.ref 15 [wkE] 0 0,I 0,Sg [120]] (.tuple [I 0,nilE]):=by
 have f0:=zaM env wakeM
 have f1:Con prog env 81 [zan wakeM,I 0] (.own 3 1 [[I (-1)]]):=by
  have:=zkC env wakeM zfA 0;rw [zqO] at this;exact this
 have f2:=zsK env;have f3:=znB env;have q3:Fits 2 8:=zaf (by omega) (by omega);have q5:Fits (1+1) 8:=q3;unfold zai at f0;unfold zan at f0 f1;unfold wkE at*;refine qf func39 call39 ntmps39 results39 ?_;have F:=ai q3 q5;repeat (first | refine zag ?_ | refine st ?_ | refine cC f0 ?_ | refine cC f1 ?_ | refine cC f2 ?_ | refine cC f3 ?_ | refine zad 40 ?_)
 exact aR
theorem zoq (env:Env):Con prog env 41 [.ref 15 [wkE] 0 0,nilS,I 0] (.own 3 1 [[I 0]]):=by
 have q3:=zmi;unfold wkE;refine qf func41 call41 ntmps41 results41 ?_;have F:=q3;repeat (first | refine zag ?_ | refine st ?_ | refine zad 40 ?_)
 exact aR
theorem zti:innL wakeM [0]=[0]:=by decide+kernel
theorem zkv (env:Env) (a1 a8:Addr) (he:ChEnv env a1 a8) (h:Full wakeM) (hs:Small wakeM):Con prog env 12 [zai wakeM, .agg wkI,Sg [120],I 0] (.tuple [.seq 1 [[I 0]],nilE]):=by
 have f0:=zhi env a1 a8 he h hs [109,105,99,114,111,46,69,110,97,98,108,101,100];have f1:=zav env wakeM hs;rw [zhQ] at f1
 have f2:Con prog env 38 [zai wakeM, .seq 1 [[I 0]]] (.tuple [.seq 1 [[I 0]],nilE]):=by
  have:=zoY env a1 a8 he wakeM h hs [0] (by simp) (by decide) zfS;rw [zti] at this;exact this
 have f3:=zpM env;have f4:Con prog env 40 [nilS,I 0] (B false):=(show Con prog env 40 [.seq 1 [],I 0] (B false) from zbg env [] 0 (by simp)).args (.cons (.nil 1) (.cons (.refl _) .nil));have f5:=zoq env;have q3:=zmi;have q4:=ziQ;unfold wkE at f3 f5;unfold wkI at f0 |-;unfold zai at f0 f1 f2 |-;refine qf func12 call12 ntmps12 results12 ?_;have F:=ai q3 q4;repeat (first | refine zag ?_ | refine st ?_ | refine cC f0 ?_ | refine cC f1 ?_ | refine cC f2 ?_ | refine cC f3 ?_ | refine cC f4 ?_ | refine cC f5 ?_ | refine zad 40 ?_)
 exact aR
end
section
open Go.RowKit
end
section
open Go.RowKit
theorem zeh (env:Env) (es:List (List AV)) (hl:Fits es.length 8):Con prog env 70 [.seq 1 es] (.own 3 1 es):=by
 cases es with
 | nil=>
   refine Con.empty fun A cap=> ?_;cases A with
   | none=>
     refine qw func70 call70 ntmps70 results70 ?_;repeat refine st0 ?_
     (refine zak ?_; refine⟨_,(by show (zaz _ _ _).run _=some _; simp only [go_sem]; rfl), ?_⟩)
     exact RStr.own_nil _ _ (by decide)
   | some A=>
     refine qf func70 call70 ntmps70 results70 ?_;repeat refine st0 ?_
     exact aR0
 | cons d l=>
   have g1:Fits (l.length+1) 8:=hl;refine qf func70 call70 ntmps70 results70 ?_;have F:=g1;repeat refine st ?_
   exact aR
theorem zlv (env:Env) (es:List (List AV)) (hl:Fits es.length 24):Con prog env 71 [.seq 2 es] (.own 86 2 es):=by
 cases es with
 | nil=>
   refine Con.empty fun A cap=> ?_;cases A with
   | none=>
     refine qw func71 call71 ntmps71 results71 ?_;repeat refine st0 ?_
     (refine zak ?_; refine⟨_,(by show (zaz _ _ _).run _=some _; simp only [go_sem]; rfl), ?_⟩)
     exact RStr.own_nil _ _ (by decide)
   | some A=>
     refine qf func71 call71 ntmps71 results71 ?_;repeat refine st0 ?_
     exact aR0
 | cons d l=>
   have g1:Fits (l.length+1) 24:=hl;refine qf func71 call71 ntmps71 results71 ?_;have F:=g1;repeat refine st ?_
   exact aR
theorem znt (env:Env) (x:InD) (hA:x.1.length<=4096) (hV:x.2.1.length<=4096) (hM:x.2.2.1.length<=4096) (hMs: ∀m∈x.2.2.1,Fits m.2.length 8) (hT:Fits x.2.2.2.1.length 24):
 ConI prog env 30 [8,11] (fun i=>i==8||i==11) (fun _=>[.agg [.seq 1 (x.1.map intAV), .seq 1 (x.2.1.map intAV), .seq 2 (x.2.2.1.map mmAV), .seq 2 (x.2.2.2.1.map tmAV),B x.2.2.2.2]]) (fun _=>[]) (fun _=>[(8,⟨1,x.1.map intAV,3,true⟩),(11,⟨1,x.2.1.map intAV,3,true⟩)]) (fun g=> .agg [.row 8 (g 8), .row 11 (g 11), .seq 2 (x.2.2.1.map mmAV), .seq 2 (x.2.2.2.1.map tmAV),B x.2.2.2.2]):=by
 have f0:=zeh env (x.1.map intAV) (by rw [List.length_map]; exact zaf hA (by omega));have f1:=zeh env (x.2.1.map intAV) (by rw [List.length_map]; exact zaf hV (by omega));have f2:=zlv env (x.2.2.2.1.map tmAV) (by rw [List.length_map]; exact hT);obtain⟨A,V,M,T,O⟩:=x;simp only at*;refine qi func30 call30 ntmps30 results30 ?_;intro vs esc hesc;have e0:=hesc 8 (by simp);have e1:=hesc 11 (by simp);have F:=ai e0 e1;repeat (first | refine st ?_ | refine cC f0 ?_ | refine cC f1 ?_ | refine cC f2 ?_)
 refine nC 3 9000 0 2 130 2 ?_
 refine zab (D:=Nat) (fun j vs=>[(1, .loc 1 (vs 1) 0 0),(2, .loc 2 (vs 2) 0 0),(3, .loc 3 (vs 3) 0 0),(19, .seq 2 (M.map mmAV)),(20,I M.length),(21,I j)])
  (fun j vs=>[(1,⟨5,[[.seq 1 (A.map intAV), .seq 1 (V.map intAV), .seq 2 (M.map mmAV), .seq 2 (T.map tmAV),B O]],31,false⟩),(2,⟨5,[[nilS,nilS,nilS,nilS,B false]],31,false⟩),(3,⟨5,[[.row 8 (vs 8), .row 11 (vs 11), .row 9000 (vs 9000), .row 14 (vs 14),B O]],31,false⟩),(8,⟨1,A.map intAV,3,true⟩),(11,⟨1,V.map intAV,3,true⟩),(14,⟨2,T.map tmAV,86,true⟩),(9000,⟨2,(M.take j).map mmAV,130,true⟩)])
  (fun j _ esc=>j<=M.length/\esc 2=false/\esc 3=false/\esc 8=false/\esc 11=false/\esc 9000=false) (fun j=>M.length-j) 0 ?_ ?_ ?_ ?_
 ·refine⟨Nat.zero_le _, ?_, ?_, ?_, ?_, ?_⟩<;>simp only [go_sem,e0,e1]
 ·exact qe
 ·exact qe
 try clear e0 e1
 rintro j ws esc ⟨hj,e2,e3,e0,e1,e4⟩;by_cases hlt:j<M.length
 ·obtain⟨m,hm⟩: ∃m,M[j]? =some m:=⟨M[j],List.getElem?_eq_getElem hlt⟩;have q1:=nlt hlt;have q2:=zaa hlt (by omega);have f3:=zeh env (m.2.map intAV) (by rw [List.length_map]; exact hMs m (List.mem_of_getElem? hm));have htl:(M.take j).length=j:=by rw [List.length_take]; omega
  have hf:Fits (j+1) 32:=zaf (by omega) (by omega);have htk:M.take (j+1)=M.take j++[m]:=by rw [List.take_add_one,hm]; rfl
  have F:=ai11 mmAV.eq_1 q1 q2 hm htl hf e0 e1 e2 e3 e4;repeat (first | refine st ?_ | refine cC f3 ?_)
  refine⟨j+1,⟨hlt, ?_, ?_, ?_, ?_, ?_⟩, ?_, ?_,by omega⟩;all_goals (first | (show _=false; simp only [go_sem,e0,e1,e2,e3,e4]; done) | skip)
  ·exact qe
  ·have F:=ai8 mmAV.eq_1 htk @List.map_append.{0,0} e0 e1 e2 e3 e4;exact qe
 obtain rfl:j=M.length:=by omega
 have q1: ¬(M.length:Int)< (M.length:Int):=by omega
 have hta:M.take M.length=M:=List.take_length;have F:=ai7 q1 hta e0 e1 e2 e3 e4;repeat refine st ?_
 refine zcw [(14,⟨2,T.map tmAV,86,true⟩),(9000,⟨2,M.map mmAV,130,true⟩)] ?_ ?_
 ·exact qe
 have F:=ai5 e0 e1 e2 e3 e4;exact rI
end
section
open Go.RowKit
theorem zhG (env:Env):Con prog env 32 [I 0] (B true):=by
 refine qf func32 call32 ntmps32 results32 ?_;repeat refine st0 ?_
 exact aR0
theorem zn1 (env:Env) (h:Full wakeM) (hs:Small wakeM):Con prog env 21 [zai wakeM,I 0] (.tuple [.agg wkI, .agg [nilS,nilS],nilE]):=by
 have f0:=zhG env;have f1:=zav env wakeM hs;have f2:=zex env wakeM hs;rw [zhQ] at f1 f2
 have f3:Con prog env 60 [zai wakeM,I (-1)] (.own 3 1 [[I 0]]):=by
  have:=zfe env wakeM h (-1);rw [zod] at this;exact this
 have f4:=zhC env 0 (by omega);rw [show ((0:Nat):Int)=0 from rfl] at f4;unfold RMl RMe at f4;unfold wkI;unfold zai at f1 f3 |-;refine qf func21 call21 ntmps21 results21 ?_;repeat (first | refine st0 ?_ | refine cC0 f0 ?_ | refine cC0 f1 ?_ | refine cC0 f2 ?_)
 refine nC0 29 9001 0 0 3 1 ?_;refine nC0 29 9002 0 1 3 1 ?_;refine nC0 29 9003 0 2 130 2 ?_;refine nC0 29 9004 0 3 86 2 ?_;refine zcw [(9003,⟨2,[],130,true⟩),(9004,⟨2,[],86,true⟩)] ?_ ?_
 ·exact qe0
 refine zfP [(0, .ref 9 [tabCells wakeM] 0 0),(4, .loc 4 1 0 0),(5, .loc 5 1 0 0),(6,nilE),(7, .loc 29 1 0 0),(34, .seq 2 []),(35,I 0),(36,I 0)] [(4,⟨5,[[nilS,nilS,nilS,nilS,B false]],31,false⟩),(5,⟨2,[[nilS,nilS]],41,false⟩),(29,⟨15,[[.row 9001 1, .row 9002 1, .seq 2 [], .seq 2 [],B false,nilS,nilS, .ref 9 [tabCells wakeM] 0 0,Sg [99],I 0, .seq 2 [], .seq 6 wkS, .seq 5 wkT,I 0,I 0]],79,false⟩),(9001,⟨1,[],3,true⟩),(9002,⟨1,[],3,true⟩)] ?_ ?_ ?_
 ·simp only [seenSt,seesR,zcY,Row.see,AV.see,AV.see.seeL,Option.getD_none,Option.getD_some,go_sem];try rfl
 ·simp only [seenSt,seesR,zcY,Row.see,AV.see,AV.see.seeL,Option.getD_none,Option.getD_some,go_sem];try rfl
 have b0:(True):=trivial;have F:=b0;repeat (first | refine zag ?_ | refine st ?_ | refine cC f3 ?_ | refine zad 40 ?_)
 refine iL [(1000,29),(1001,9001),(1002,9002),(1003,56)] f4 ?_;repeat (first | refine zag ?_ | refine st ?_ | refine zad 40 ?_)
 exact aR
theorem zqD (env:Env) (a1 a8:Addr) (he:ChEnv env a1 a8) (h:Full wakeM) (hs:Small wakeM):Con prog env 10 [zai wakeM, .agg wkI, .seq 1 [[I 0]],I 0,I 0] (.tuple [.agg [.seq 1 [[I 1]], .seq 1 [], .seq 2 [], .seq 2 [],B false], .agg [nilS,nilS],nilE]):=by
 have f0:=zhi env a1 a8 he h hs [109,105,99,114,111,46,83,116,101,112];have f1:=zav env wakeM hs;rw [zhQ] at f1;have f2:=znt env ([0],[],[],[],false) (by simp) (by simp) (by simp) (by simp) (zaf (by simp) (by omega));have f3:=zhG env;have f4:=zry env;have f5:=zot env a1 a8 he h hs;unfold RM RMe at f4 f5;unfold wkI at f0 |-;unfold zai at f0 f1 |-;refine qf func10 call10 ntmps10 results10 ?_;have F:=ai f3 intAV.eq_1;repeat (first | refine st ?_ | refine cC f0 ?_ | refine cC f1 ?_)
 refine iL [(8,9001),(11,9002)] f2 ?_;repeat (first | refine st ?_ | refine cC f1 ?_ | refine cC f3 ?_)
 refine iL [(1000,33),(1001,9001),(1002,9002)] f4 ?_;repeat refine st ?_
 refine iL [(1000,33),(1001,9001),(1002,9002)] f5 ?_;repeat refine st ?_
 exact aR
end
section
open Go.RowKit
theorem zhl (env:Env) (n:List UInt8):Con prog env 28 [Sg n] (.agg [Sg n,I 1,I (-1),I (-1),nilS,nilS]):=by
 refine qf func28 call28 ntmps28 results28 ?_;repeat refine st0 ?_
 exact aR0
theorem zlD (env:Env) (a1 a8:Addr) (he:ChEnv env a1 a8) (hT: ∀W,env.inv W->TabAt W):Con prog env 9 [] (B true):=by
 have h0:(chk wakeM).1=0:=by rw [zek]
 have h:=full_of h0;have hs:=zh2 h0;have f0:=(ziX env a1 a8 he hT wakeM zek zoc).args zob;have f1:=zn1 env h hs;have f2:=zkv env a1 a8 he h hs;have f3:=zqD env a1 a8 he h hs
 have f4:Con prog env 20 [.seq 1 [[I 1]], .seq 1 [[I 1]]] (B true):=by
  have:=zi5 env [1] [1] (by decide);rw [decide_eq_true rfl] at this;exact this
 have p1:=zhl env [97];have p2:=zhl env [98];unfold zoe at f0;unfold wkI at f1 f2 f3;unfold zai at f0 f1 f2 f3;generalize tabCells wakeM=T at*;refine qf func9 call9 ntmps9 results9 ?_;repeat (first | refine st0 ?_ | refine cC0 p1 ?_ | refine cC0 p2 ?_ | refine cC0 f0 ?_ | refine cC0 f1 ?_ | refine cC0 f2 ?_ | refine cC0 f3 ?_ | refine cC0 f4 ?_)
 exact aR0
end
section
open Go.RowKit Go.ChangeShapes Go.WideShapes Go.ChangeAt Go.Deep
def WB {H:Type} (P:Program) (t:TypeId) (d:DataW H):Prop:= ∀z∈DataW.weights P t d,z<=reachBytes
section
variable {H:Type} {enc:TypeId×Value->H} {P:Program} {w:World} {base:Nat} {spare:Nat->Bool} {held:Bool}
theorem WB.size {t e:TypeId} {es rs:List (DataW H)} (ht:P.underlying t=some (.slice e)) (h:WB P t (.slice es rs)):es.length*P.bytesOf e<=reachBytes:=by
 refine Nat.le_trans ?_ (h ((es.length+rs.length)*P.bytesOf e) ?_)
 ·exact Nat.mul_le_mul_right _ (Nat.le_add_right ..)
 ·unfold DataW.weights;rw [ht];exact List.mem_cons_self ..
theorem ziS: ∀ {ts:List TypeId} {l:List (DataW H)} {i:Nat} {t:TypeId} {d:DataW H},ts[i]? =some t->l[i]? =some d-> ∀z∈DataW.weights P t d,z∈DataW.weightsEach P ts l
 | t::ts,d::l,0,_,_,rfl,rfl,z,hz=>by unfold DataW.weightsEach; exact List.mem_append_left _ hz
 | t::ts,d::l,i+1,_,_,h1,h2,z,hz=>by
   unfold DataW.weightsEach;exact List.mem_append_right _ (ziS (i:=i) (by simpa using h1) (by simpa using h2) z hz)
 | [],_,i,_,_,h1,_,z,hz=>by simp at h1
 | _::_,[],i,_,_,_,h2,z,hz=>by simp at h2
theorem WB.part {t:TypeId} {fs:Array Field} {ps:List (DataW H)} (ht:P.underlying t=some (.struct fs)) (h:WB P t (.agg ps)) {i:Nat} {f:Field} {d:DataW H} (hf:fs[i]? =some f) (hd:ps[i]? =some d):WB P f.type d:=fun z hz=>by
 refine h z ?_;unfold DataW.weights;rw [ht];refine ziS (i:=i) ?_ hd z hz;rw [List.getElem?_map,Array.getElem?_toList,hf];rfl
end
section
variable {H:Type} {enc:TypeId×Value->H} {P:Program} {w:World} {base:Nat} {spare:Nat->Bool} {held:Bool}
end
section
variable {H:Type} {enc:TypeId×Value->H} {w:World} {base:Nat} {spare:Nat->Bool} {held:Bool}
end
end
section
open Go.RowKit Go.ChangeShapes Go.WideShapes Go.ChangeAt Go.Deep
section
variable {H:Type} {enc:TypeId×Value->H} {w:World} {base:Nat} {spare:Nat->Bool} {held:Bool}
end
end
section
open Go.RowKit
theorem zk6 (env:Env) (c:ChD) (h:zg4 c=false):Con prog env 6 [.agg (chAV c)] (.lit (.pointer none)):=by
 have f0:=zeb env c;have f1:=zeT env c;unfold zg4 at h;cases h1:zgo c
 ·rw [h1] at f0;refine qf func6 call6 ntmps6 results6 ?_;repeat (first | refine st0 ?_ | refine cC0 f0 ?_ | refine cC0 f1 ?_)
  exact aR0
 rw [h1] at f0;rw [h1,Bool.true_and] at h;rw [h] at f1;refine qf func6 call6 ntmps6 results6 ?_;repeat (first | refine st0 ?_ | refine cC0 f0 ?_ | refine cC0 f1 ?_)
 exact aR0
end

end Go.Proofs.YtbpmkofnfgdegaaGreatDoor