/- Flags of active states, how many are active, plain; slices.Sort of ints. -/
import Derived.Test.YtbpmkofnfgdegaaGreatDoorQ9
import Derived.Test.YtbpmkofnfgdegaaGreatDoorQ8
import Derived.Test.YtbpmkofnfgdegaaGreatDoorQ6
import Derived.Test.YtbpmkofnfgdegaaGreatDoorQ11
import Derived.Test.YtbpmkofnfgdegaaGreatDoorQ12
import Derived.Test.YtbpmkofnfgdegaaGreatDoorQ10
import Derived.Shelf.Slices.In.SortNone
set_option maxRecDepth 100000
set_option maxHeartbeats 4000000
set_option linter.unusedSimpArgs false
namespace Go.Proofs.YtbpmkofnfgdegaaGreatDoor
open Go.Proofs.Tryz
section
open Go.RowKit
def rankAll:List Nat->Nat->List Nat->List Nat
 |[],_,rk=>rk
 |k::l,n,rk=>rankAll l (n+1) (rk.set k n)
theorem zhf: ∀(l:List Nat) (n:Nat) (rk:List Nat),(rankAll l n rk).length=rk.length
 |[],_,_=>rfl
 |k::l,n,rk=>by unfold rankAll;rw[zhf,List.length_set]
theorem zhg: ∀(l1 l2:List Nat) (n:Nat) (rk:List Nat),rankAll (l1++l2) n rk=rankAll l2 (n+l1.length) (rankAll l1 n rk)
 |[],_,_,_=>rfl
 | k::l1,l2,n,rk=>by
   show rankAll (l1++l2) (n+1) (rk.set k n)=rankAll l2 (n+(l1.length+1)) (rankAll l1 (n+1) (rk.set k n));rw[zhg,Nat.add_assoc,Nat.add_comm 1]
def TR (ps ks ms bs:List (List AV)) (lf:Value) (g:Nat->Nat) (rk l:List Nat):List (Nat×Row):=
 [(1000,⟨7,[[.seq 1 ps, .seq 1 ks, .seq 1 ms, .seq 1 bs, .row 1001 (g 1001), .row 1002 (g 1002), .lit lf]],173,false⟩),(1001,⟨1,rk.map zac,3,true⟩),(1002,⟨1,l.map zac,3,true⟩)]
def wkTo (c:ChD) (K:List Nat) (j:Nat):List Nat:=(K.take j).flatMap fun k=>k::walkL c k
theorem zqv {c:ChD} {K:List Nat} {j k:Nat} (h:K[j]? =some k):wkTo c K (j+1)=wkTo c K j++k::walkL c k:=by
 unfold wkTo;rw[List.take_add_one,h,List.flatMap_append];simp
theorem ztA {c:ChD} (K:List Nat):wkTo c K K.length=K.flatMap fun k=>k::walkL c k:=by
 unfold wkTo;rw[List.take_length]
theorem zvA {c:ChD} (K:List Nat) (j:Nat):(wkTo c K j).length<=(K.flatMap fun k=>k::walkL c k).length:=by
 conv=>rhs;rw[<-List.take_append_drop j K,List.flatMap_append,List.length_append]
 exact Nat.le_add_right _ _
def zqk (P:Program) (env:Env) (f:FuncId) (c:ChD) (ps ks ms bs:List (List AV)) (lf:Value) (i:Int) (l rk:List Nat):Prop:=
 ConI P env f [1000,1001,1002] (fun k=>k==1002) (fun g=>[.loc 1000 (g 1000) 0 0, .agg (chAV c),I i]) (fun g=>TR ps ks ms bs lf g rk l) (fun g=>TR ps ks ms bs lf g (rankAll (walkL c i) l.length rk) (l++walkL c i)) (fun _=> .lit (.tuple #[]))
theorem zkr (env:Env) (c:ChD) (hc:Right c) (ps ks ms bs:List (List AV)) (lf:Value) (i:Int) (l rk:List Nat) (hi: -1<=i) (hrk:rk.length=c.states.length) (hfew:l.length+(walkL c i).length<=1000000)
 (ih: ∀k∈kidsL c i false,∀l rk,rk.length=c.states.length->l.length+(walkL c k).length<=1000000->zqk prog env 120 c ps ks ms bs lf k l rk):zqk prog env 120 c ps ks ms bs lf i l rk:=by
 unfold zqk at*
 ·have hlen:=hc.few;have f0:=zhk env c i (by omega);rw[walk_eq hc hi]at hfew |-;have hK32:(kidsL c i false).length<=32:=Nat.le_trans (zbM c i false _) hlen;generalize hK:kidsL c i false=K at*;refine qi func120 call120 ntmps120 results120 ?_;intro vs esc hesc;have e0:=hesc 1000 (by simp);have e1:=hesc 1001 (by simp);have e2:=hesc 1002 (by simp);have F:=ai5 TR.eq_1 e0 e1 e2 chAV.eq_1;repeat refine tz1 f0 ?_
  refine zab (D:=Nat) (fun j vs'=>[(0, .loc 1000 (vs' 1000) 0 0),(4, .loc 4 (vs' 4) 0 0),(10, .row 10 (vs' 10)),(11,I K.length),(12,I j)]) (fun j vs'=>TR ps ks ms bs lf vs' (rankAll (wkTo c K j) l.length rk) (l++wkTo c K j)++[(4,⟨5,[chAV c],26,false⟩),(10,⟨1,K.map zac,3,true⟩)]) (fun j vs' esc'=>(j<=K.length/\vs' 1000=vs 1000/\vs' 1001=vs 1001)/\esc' 1000=false/\esc' 1001=false/\esc' 1002=false) (fun j=>K.length-j) 0 ?_ ?_ ?_ ?_
  ·exact⟨⟨Nat.zero_le _,by simp only[go_sem],by simp only[go_sem]⟩,by simp only[go_sem,e0],by simp only[go_sem,e1],by simp only[go_sem,e2]⟩
  ·exact qe
  ·have F:=ai TR.eq_1 chAV.eq_1
   (simp only[go_sem,F])
   refine⟨rfl,?_⟩;show _=(⟨1,List.map zac (l++[]),3,true⟩:Row);rw[List.append_nil]
  try clear e0 e1 e2
  rintro j ws esc' ⟨⟨hj,v0,v1⟩,e0,e1,e2⟩;by_cases hlt:j<K.length
  ·obtain⟨k,hk⟩:=gE hlt;have hkm:k∈kidsL c i false:=by rw[hK];exact List.mem_of_getElem? hk
   have hg:=zaJ hc hkm;have hnext:=zqv (c:=c) hk;have hle:=zvA (c:=c) K (j+1);have hrl:=zhf (wkTo c K j) l.length rk;have hra:=zhg (wkTo c K j) (k::walkL c k) l.length rk;rw[hnext]at hle;rw[List.length_append,List.length_cons]at hle;generalize rankAll (wkTo c K j) l.length rk=rk1 at*;have f1:=ih k (List.mem_of_getElem? hk) (l++wkTo c K j++[k]) (rk1.set k (l++wkTo c K j).length) (by rw[List.length_set,hrl,hrk]) (by simp only[List.length_append,List.length_cons,List.length_nil];omega);have k1:=nlt hlt;have k2:=zaa hlt (by omega);have k3:((k:Nat):Int)< (rk1.length:Int):=by rw[hrl,hrk];omega
   obtain⟨r0,hr0⟩: ∃r0,rk1[k]? =some r0:=⟨rk1[k]'(by omega),List.getElem?_eq_getElem _⟩;have hf:Fits (l.length+(wkTo c K j).length+1) 8:=⟨by omega,by omega⟩;have F:=ai12 TR.eq_1 e0 e1 e2 chAV.eq_1 k1 k2 k3 hk hf zac.eq_1<|ai3 @List.map_append.{0,0} hr0 @List.map_set.{0,0};have hra2:rankAll (wkTo c K (j+1)) l.length rk=rankAll (walkL c k) (l.length+(wkTo c K j).length+1) (rk1.set k (l.length+(wkTo c K j).length)):=by rw[hnext,hra];rfl
   repeat refine st ?_
   refine iL [(1000,1000),(1001,1001),(1002,1002)] f1 ?_;repeat refine st ?_
   refine⟨j+1,⟨⟨hlt,?_,?_⟩,?_,?_,?_⟩,?_,?_,by omega⟩
   ·simp only[go_sem];exact v0
   ·simp only[go_sem];exact v1
   ·simp only[go_sem,e0]
   ·simp only[go_sem,e1]
   ·simp only[go_sem,e2]
   ·exact qe
   ·have F:=ai8 TR.eq_1 chAV.eq_1 zac.eq_1 @List.map_append.{0,0} @List.map_set.{0,0} hra2 hnext @List.append_assoc.{0}
    (simp only[go_sem,F])
    rw[hra];rfl
  ·obtain rfl:j=K.length:=by omega
   have k1:=nl K.length;have hall:=ztA (c:=c) K;have F:=ai9 TR.eq_1 e0 e1 e2 chAV.eq_1 k1 hall v0 v1;repeat refine st ?_
   exact rN
theorem znC (env:Env) (c:ChD) (hc:Right c) (ps ks ms bs:List (List AV)) (lf:Value): ∀(n:Nat) (i:Int) (l rk:List Nat), -1<=i->(c.states.length:Int)<=i+n->rk.length=c.states.length->l.length+(walkL c i).length<=1000000->zqk prog env 120 c ps ks ms bs lf i l rk
 |0,i,l,rk,hi,hn,hrk,hfew=>zkr env c hc ps ks ms bs lf i l rk hi hrk hfew fun k hk=>by have:=zaJ hc hk;omega
 |n+1,i,l,rk,hi,hn,hrk,hfew=>zkr env c hc ps ks ms bs lf i l rk hi hrk hfew fun k hk l rk h1 h2=>by have:=zaJ hc hk;exact znC env c hc ps ks ms bs lf n k l rk (by omega) (by omega) h1 h2
end
section
open Go.RowKit
def umAV (m:Nat):List AV:=[.lit (.int .u32 m)]
def mkTo (c:ChD) (i:Nat):List Nat:=(List.range c.states.length).map fun j=>if j<i then mask c j else 0
def zrV (c:ChD) (i:Nat) (s:StD):Bool:=s.kind != 4&&s.kind != 5&&(((kidsL c i true).length:Int)==0)
def zbL (c:ChD):Nat->Nat
 |0=>0
 | i+1=>match c.states[i]? with
   |some s=>if zrV c i s then zbL c i||| 2^i else zbL c i
   |none=>zbL c i
theorem zk0 (c:ChD):(mkTo c 0).map umAV=List.replicate c.states.length [.lit (.int .u32 0)]:=by
 unfold mkTo;rw[List.map_map]
 have: ∀n:Nat,(List.range n).map (umAV ∘ fun(j:Nat)=>if j<0 then mask c j else 0)=List.replicate n [.lit (.int .u32 0)]:=fun n=>by
  rw[List.eq_replicate_iff];refine⟨by simp,fun b hb=> ?_⟩;obtain⟨j,_,rfl⟩:=List.mem_map.1 hb;rfl
 exact this _
theorem zeY {c:ChD} {i j:Nat} (hj:j<c.states.length):(mkTo c i)[j]? =some (if j<i then mask c j else 0):=by
 unfold mkTo;rw[List.getElem?_map,List.getElem?_range hj];rfl
theorem zbU (c:ChD) (i:Nat):(mkTo c i).length=c.states.length:=by simp[mkTo]
theorem zn6 {c:ChD} {i:Nat} (hi:i<c.states.length):(mkTo c i).set i (mask c i)=mkTo c (i+1):=by
 apply List.ext_getElem?;intro k;by_cases hk:k<c.states.length
 ·rw[zeY hk,List.getElem?_set,zbU];by_cases e:i=k
  ·subst e;simp[hi]
  ·rw[if_neg e,zeY hk];by_cases e2:k<i
   ·rw[if_pos e2,if_pos (by omega)]
   ·rw[if_neg e2,if_neg (by omega)]
 ·rw[List.getElem?_eq_none (by rw[List.length_set,zbU];omega),List.getElem?_eq_none (by rw[zbU];omega)]
theorem zrE {c:ChD} {i:Nat} (hi:i<c.states.length) (h0:mask c i=0):mkTo c i=mkTo c (i+1):=by
 rw[<-zn6 hi,h0];apply List.ext_getElem?;intro k;rw[List.getElem?_set,zbU];by_cases e:i=k
 ·subst e;rw[zeY hi];simp[hi]
 ·rw[if_neg e]
theorem zn0 {a b:Nat} (ha:a<4294967296) (hb:b<4294967296):bitV .or .u32 (a:Int) (b:Int)=((a||| b:Nat):Int):=by
 have hx:a||| b<2^32:=Nat.or_lt_two_pow (by omega) (by omega);show IntKind.u32.wrap ((BitVec.ofInt 32 (a:Int)||| BitVec.ofInt 32 (b:Int)).toNat:Int)=_;rw[BitVec.toNat_or,ofInt_u32 a ha,ofInt_u32 b hb,IntKind.wrap_u32];omega
theorem zjo {p:Nat} (hp:p<32):IntKind.u32.wrap (1*2^min p 32)=((2^p:Nat):Int):=by
 have h:=zd5 p hp;have key: ∀q:Nat,q<4294967296->(q:Int)%4294967296=q:=fun q h=>by omega
 rw[show min p 32=p by omega,IntKind.wrap_u32,Int.one_mul,show ((2:Int)^p)=((2^p:Nat):Int) by rw[Int.natCast_pow];rfl];exact key _ h
theorem zgg {c:ChD} : ∀ {i:Nat},i<=32->zbL c i<4294967296
 |0,_=>by show 0<4294967296;decide
 | i+1,h=>by
   have ih:=zgg (c:=c) (i:=i) (by omega);have h2:=zd5 i (by omega);unfold zbL;split
   ·split
    ·exact Nat.or_lt_two_pow (n:=32) ih h2
    ·exact ih
   ·exact ih
/-! What is beneath -/
def bitL (m:Nat):List Nat:=(List.range 32).filter fun(b:Nat)=>m/2^b%2==1
theorem ziw (m:Nat):setOf m=(bitL m).map fun(b:Nat)=>(b:Int):=rfl
theorem ztd (m b:Nat):(m/2^b%2==1)=m.testBit b:=by
 rw[Nat.testBit_eq_decide_div_mod_eq];rfl
theorem zkf {m b:Nat} :b∈bitL m↔b<32/\m.testBit b=true:=by
 unfold bitL;rw[List.mem_filter,List.mem_range,ztd]
theorem zqb (m:Nat):(bitL m).Nodup:=List.Nodup.sublist List.filter_sublist List.nodup_range
def benN (c:ChD):Nat->Nat->Nat
 |0,_=>0
 |i+1,j=>if (mask c i).testBit j then benN c i j||| 2^i else benN c i j
theorem zi4 {c:ChD} : ∀ {i:Nat} (j:Nat),i<=32->benN c i j<4294967296
 |0,_,_=>by show 0<4294967296;decide
 | i+1,j,h=>by
   have ih:=zi4 (c:=c) (i:=i) j (by omega);have h2:=zd5 i (by omega);unfold benN;split
   ·exact Nat.or_lt_two_pow (n:=32) ih h2
   ·exact ih
def bnTo (c:ChD) (i:Nat):List Nat:=(List.range c.states.length).map (benN c i)
def zgy (c:ChD) (i m:Nat):List Nat:=(List.range c.states.length).map fun(j:Nat)=>if j∈(bitL (mask c i)).take m then benN c i j||| 2^i else benN c i j
theorem zfC (c:ChD) (i m:Nat):(zgy c i m).length=c.states.length:=by simp[zgy]
theorem zqa (c:ChD) (i:Nat):zgy c i 0=bnTo c i:=by
 unfold zgy bnTo;apply List.map_congr_left;intro j _;simp
theorem ztc {c:ChD} (h:c.states.length<=32) (i:Nat):zgy c i (bitL (mask c i)).length=bnTo c (i+1):=by
 unfold zgy bnTo;apply List.map_congr_left;intro j hj;have hj:=List.mem_range.1 hj;rw[List.take_length];show _=if (mask c i).testBit j then benN c i j||| 2^i else benN c i j
 by_cases hb:(mask c i).testBit j=true
 ·rw[if_pos (zkf.2 ⟨by omega,hb⟩),if_pos hb]
 ·rw[if_neg (fun hm=>hb (zkf.1 hm).2),if_neg hb]
theorem zuU {c:ChD} {i m k:Nat} (hk:(bitL (mask c i))[m]? =some k) (hn:k<c.states.length):(zgy c i m)[k]? =some (benN c i k):=by
 unfold zgy;rw[List.getElem?_map,List.getElem?_range hn];simp only[Option.map_some,Option.some.injEq];rw[if_neg];intro hm;obtain⟨q,hq⟩:=List.mem_iff_getElem?.1 hm;rw[List.getElem?_take]at hq;split at hq
 ·rename_i hlt;obtain⟨h1,h2⟩:=List.getElem?_eq_some_iff.1 hk;obtain⟨h3,h4⟩:=List.getElem?_eq_some_iff.1 hq;exact(List.pairwise_iff_getElem.1 (zqb (mask c i))) q m h3 h1 hlt (h4.trans h2.symm)
 ·cases hq
theorem ztb {c:ChD} {i m k:Nat} (hk:(bitL (mask c i))[m]? =some k) (hn:k<c.states.length):(zgy c i m).set k (benN c i k||| 2^i)=zgy c i (m+1):=by
 apply List.ext_getElem?;intro j;rw[List.getElem?_set,zfC];by_cases hj:j<c.states.length
 ·unfold zgy;rw[List.getElem?_map,List.getElem?_range hj,List.getElem?_map,List.getElem?_range hj,List.take_add_one,hk];simp only[Option.map_some,Option.toList_some,List.mem_append,List.mem_singleton];by_cases e:k=j
  ·subst e;simp[hn]
  ·rw[if_neg e];simp[Ne.symm e]
 ·rw[List.getElem?_eq_none (by rw[zfC];omega),List.getElem?_eq_none (by rw[zfC];omega)];by_cases e:k=j
  ·omega
  ·rw[if_neg e]
theorem zta (c:ChD):(bnTo c 0).map umAV=List.replicate c.states.length [.lit (.int .u32 0)]:=by
 rw[<-zk0];unfold bnTo mkTo
 congr 1
theorem zqc {c:ChD} (h:Right c) {i m k:Nat} (hk:(bitL (mask c i))[m]? =some k):k<i:=by
 have:=(zkf.1 (List.mem_of_getElem? hk)).2;rw[zjI h,decide_eq_true_eq]at this;have:=ze8 h 40 _ _ this;omega
theorem znB {c:ChD} (h:Right c):(walkL c (-1)).length<=c.states.length:=by
 have:=(zet h 40 (-1) (by omega) (by have:=h.few;omega)).length_le_of_subset (l₂:=List.range c.states.length) fun m hm=>List.mem_range.2 ((zes h m).1 hm);simpa using this
def znT (c:ChD):List Nat:=rankAll (walkL c (-1)) 0 (List.replicate c.states.length 0)
def zaj (c:ChD):AV:= .ref 7 [[.seq 1 (c.states.map fun s=>[I s.parent]), .seq 1 (c.states.map fun s=>[I s.kind]), .seq 1 ((mkTo c c.states.length).map umAV), .seq 1 ((bnTo c c.states.length).map umAV), .seq 1 ((znT c).map zac), .seq 1 ((walkL c (-1)).map zac), .lit (.int .u32 (zbL c c.states.length))]] 0 0
end
section
open Go.RowKit
theorem ztJ (env:Env) (a1 a8:Addr) (he:ChEnv env a1 a8) (hT: ∀W,env.inv W->TabAt W) (c:ChD) (hc:Right c) (hch:zkb a1 a8 c= .lit .nilIface) (hcf:zeP c):Con prog env 63 [.agg (chAV c)] (.tuple [zaj c, .lit .nilIface]):=by
 have hlen:=hc.few;have f0:=zpr env a1 a8 he c hcf;rw[hch]at f0;refine zlT func63 rfl call63 (by rw[ntmps63];simp) ?_;rw[ntmps63,results63];have F:=chAV.eq_1;refine zaZ ?_;repeat refine tz1 f0 ?_
 refine zaZ ?_;repeat refine tz1 f0 ?_
 refine zaZ ?_;repeat refine tz1 f0 ?_
 have m0: ¬(c.states.length:Int)<0:=by omega
 have m1: ¬(16777216:Int)< (c.states.length:Int):=by omega
 have m2: ¬(281474976710656:Int)<4*(c.states.length:Int):=by omega
 have m3: ¬(281474976710656:Int)<8*(c.states.length:Int):=by omega
 have F:=ai5 chAV.eq_1 m0 m1 m2 m3;refine zaZ ?_;repeat refine tz1 f0 ?_
 refine zaZ ?_;repeat refine tz1 f0 ?_
 refine nC 28 9000 0 0 3 1 ?_;refine nC 28 9001 0 1 3 1 ?_
 refine zab (D:=Nat) (fun i vs'=>[(1, .loc 1 (vs' 1) 0 0),(6, .loc 6 (vs' 6) 0 0),(30,stsAV c.states),(31,I c.states.length),(32,I i)])
  (fun i vs'=>[(1,⟨5,[chAV c],26,false⟩),(6,⟨1,[[.loc 28 (vs' 28) 0 0]],115,false⟩),(28,⟨7,[[.row 9000 (vs' 9000), .row 9001 (vs' 9001), .row 22 (vs' 22), .row 24 (vs' 24), .row 26 (vs' 26),nilS, .lit (.int .u32 (zbL c i))]],173,false⟩),
   (22,⟨1,(mkTo c i).map umAV,171,true⟩),(24,⟨1,List.replicate c.states.length [.lit (.int .u32 0)],171,true⟩),(26,⟨1,List.replicate c.states.length [I 0],3,true⟩),
   (9000,⟨1,(c.states.take i).map fun s=>[I s.parent],3,true⟩),(9001,⟨1,(c.states.take i).map fun s=>[I s.kind],3,true⟩)])
  (fun i vs' esc'=>i<=c.states.length/\esc' 22=false/\esc' 24=false/\esc' 26=false/\esc' 28=false/\esc' 9000=false/\esc' 9001=false) (fun i=>c.states.length-i) 0 ?_ ?_ ?_ ?_
 ·refine⟨Nat.zero_le _,?_,?_,?_,?_,?_,?_⟩<;>simp only[go_sem]
 ·exact qe
 ·have F:=ai chAV.eq_1 zbL.eq_1
  (simp only[go_sem,F])
  rw[zk0]
 rintro i ws esc ⟨hi,e0,e1,e2,e3,e4,e5⟩;by_cases hlt:i<c.states.length
 ·obtain⟨s,hs,_⟩:=zak hlt;have g1:=nlt hlt;have g2:=zaa hlt (by omega);have f1:=zdl env c i (by omega);have hpar:=hc.par i s hs;have hf:Fits (i+1) 8:=⟨by omega,by omega⟩;have hti:(c.states.take i).length=i:=by rw[List.length_take];omega
  have htk:c.states.take (i+1)=c.states.take i++[s]:=by rw[List.take_add_one,hs];rfl
  have hmi:=zeY (c:=c) (i:=i) hlt;rw[if_neg (Nat.lt_irrefl i)]at hmi
  have hl:zbL c (i+1)=if zrV c i s then zbL c i||| 2^i else zbL c i:=by
   show (match c.states[i]? with|some s=>if zrV c i s then zbL c i||| 2^i else zbL c i|none=>zbL c i)=_;rw[hs]
  have g6:=zn0 (a:=zbL c i) (b:=2^i) (zgg (by omega)) (zd5 i (by omega));have g7:=zjo (p:=i) (by omega);by_cases hp:0<=s.parent
  ·obtain⟨p,hp⟩: ∃p:Nat,s.parent=p:=⟨s.parent.toNat,by omega⟩;have hmp:=zeY (c:=c) (i:=i) (j:=p) (by omega);rw[if_pos (by omega)]at hmp;have g3:((p:Nat):Int)< (c.states.length:Int):=by omega
   have g4:=zjo (p:=p) (by omega)
   have hnx:mask c i=mask c p||| 2^p:=by
    have:=zk3 hc (zar.2 hlt);rw[zck hs,hp]at this;rw[this,if_pos (by omega),Int.toNat_natCast]
   have g5:=zn0 (a:=mask c p) (b:=2^p) (zfP hc (by omega)) (zd5 p (by omega));rw[<-hnx]at g5;have hms:=zn6 (c:=c) hlt;cases q4:(s.kind != 4)<;>cases q5:(s.kind != 5)<;>cases q0:(((kidsL c i true).length:Int)==0);all_goals have F:=ai12 chAV.eq_1 stAV.eq_1 g1 g2 g6 g7 hs hp hf hti hmi<|ai12 @zbU umAV.eq_1 q4 q5 q0 e0 e1 e2 e3 e4 e5<|ai4 g3 g4 g5 hmp
   all_goals (repeat refine tz1 f1 ?_)
   all_goals (refine⟨i+1,⟨hlt,?_,?_,?_,?_,?_,?_⟩,?_,?_,by omega⟩)
   all_goals (first|(show _=false;simp only[go_sem,e0,e1,e2,e3,e4,e5];done)|skip)
   all_goals have F:=ai12 chAV.eq_1 stAV.eq_1 g1 g2 g6 g7 hs hp hf hti hmi<|ai12 @zbU umAV.eq_1 q4 q5 q0 e0 e1 e2 e3 e4 e5<|ai9 g3 g4 g5 hmp hl zrV.eq_1 htk @List.map_append.{0,0} @List.map_set.{0,0}
   all_goals ((simp only[go_sem, <-hms,F]))
  ·have hp:s.parent= -1:=by omega
   have hm0:mask c i=0:=by
    have:=zk3 hc (zar.2 hlt);rw[zck hs,hp]at this;rw[this,if_neg (by omega)]
   have hms:=zrE hlt hm0;cases q4:(s.kind != 4)<;>cases q5:(s.kind != 5)<;>cases q0:(((kidsL c i true).length:Int)==0);all_goals have F:=ai12 chAV.eq_1 stAV.eq_1 g1 g2 g6 g7 hs hp hf hti hmi<|ai11 @zbU umAV.eq_1 q4 q5 q0 e0 e1 e2 e3 e4 e5
   all_goals (repeat refine tz1 f1 ?_)
   all_goals (refine⟨i+1,⟨hlt,?_,?_,?_,?_,?_,?_⟩,?_,?_,by omega⟩)
   all_goals (first|(show _=false;simp only[go_sem,e0,e1,e2,e3,e4,e5];done)|skip)
   all_goals have F:=ai12 chAV.eq_1 stAV.eq_1 g1 g2 g6 g7 hs hp hf hti hmi<|ai12 @zbU umAV.eq_1 q4 q5 q0 e0 e1 e2 e3 e4 e5<|ai5 hl zrV.eq_1 htk @List.map_append.{0,0} hms
   all_goals ((simp only[go_sem,F]))
 obtain rfl:i=c.states.length:=by omega
 have g1:=nl c.states.length;have hta:c.states.take c.states.length=c.states:=List.take_length;have F:=ai9 chAV.eq_1 g1 e0 e1 e2 e3 e4 e5 hta;repeat refine tz1 f0 ?_
 refine zki ?_;refine zaZ ?_;repeat refine tz1 f0 ?_
 refine zf4 ?_
 refine zti (D:=Nat) (fun i vs'=>[(1, .loc 1 (vs' 1) 0 0),(6, .loc 6 (vs' 6) 0 0),(108, .row 22 (vs' 22)),(109,I c.states.length),(110,I i)])
  (fun i vs'=>[(1,⟨5,[chAV c],26,false⟩),(6,⟨1,[[.loc 28 (vs' 28) 0 0]],115,false⟩),(28,⟨7,[[.row 9000 (vs' 9000), .row 9001 (vs' 9001), .row 22 (vs' 22), .row 24 (vs' 24), .row 26 (vs' 26),nilS, .lit (.int .u32 (zbL c c.states.length))]],173,false⟩),
   (22,⟨1,(mkTo c c.states.length).map umAV,171,true⟩),(24,⟨1,(bnTo c i).map umAV,171,true⟩),(26,⟨1,List.replicate c.states.length [I 0],3,true⟩),
   (9000,⟨1,c.states.map fun s=>[I s.parent],3,true⟩),(9001,⟨1,c.states.map fun s=>[I s.kind],3,true⟩)])
  (fun i vs' esc'=>i<=c.states.length/\esc' 22=false/\esc' 24=false/\esc' 26=false/\esc' 28=false/\esc' 9000=false/\esc' 9001=false) (fun i=>c.states.length-i) 0 ?_ ?_ ?_ ?_
 ·refine⟨Nat.zero_le _,?_,?_,?_,?_,?_,?_⟩<;>simp only[go_sem,e0,e1,e2,e3,e4,e5]
 ·have F:=@zbU;exact qe
 ·have F:=ai chAV.eq_1 hta
  (simp only[go_sem,F])
  rw[zta]
 try clear e0 e1 e2 e3 e4 e5
 rintro i ws esc ⟨hi,e0,e1,e2,e3,e4,e5⟩;by_cases hlt:i<c.states.length
 ·have g1:=nlt hlt;have g2:=zaa hlt (by omega);have hm:=zeY (c:=c) (i:=c.states.length) hlt;rw[if_pos hlt]at hm;have F:=ai12 chAV.eq_1 g1 g2 hm @zbU umAV.eq_1 e0 e1 e2 e3 e4 e5;refine zaZ ?_;repeat refine tz1 f0 ?_
  refine zaZ ?_;repeat refine tz1 f0 ?_
  refine zki ?_;refine zf4 ?_;refine zaZ ?_;repeat refine tz1 f0 ?_
  refine zaZ ?_;repeat refine tz1 f0 ?_
  refine zf4 ?_
  refine zqg (D:=Unit) (f:=119) (first:= #[.int .u32 (mask c i)]) (ks:=(setOf (mask c i)).map (Value.int .i64))
   (fun m _ vs'=>[(1,⟨5,[chAV c],26,false⟩),(6,⟨1,[[.loc 28 (vs' 28) 0 0]],115,false⟩),(9,⟨1,[[I i]],3,false⟩),(28,⟨7,[[.row 9000 (vs' 9000), .row 9001 (vs' 9001), .row 22 (vs' 22), .row 24 (vs' 24), .row 26 (vs' 26),nilS, .lit (.int .u32 (zbL c c.states.length))]],173,false⟩),
    (22,⟨1,(mkTo c c.states.length).map umAV,171,true⟩),(24,⟨1,(zgy c i m).map umAV,171,true⟩),(26,⟨1,List.replicate c.states.length [I 0],3,true⟩),
    (9000,⟨1,c.states.map fun s=>[I s.parent],3,true⟩),(9001,⟨1,c.states.map fun s=>[I s.kind],3,true⟩)])
   (fun m _ vs' esc'=>(vs' 1=ws 1/\vs' 6=ws 6/\vs' 22=ws 22/\vs' 9=ws 9+1)/\esc' 22=false/\esc' 24=false/\esc' 26=false/\esc' 28=false/\esc' 9000=false/\esc' 9001=false) ()
   (by simp only[go_sem,hm,umAV]) (by decide) ((zp0 (mask c i) (zfP hc (by omega))).mono hT) ?_ ?_ ?_ ?_
  ·refine⟨⟨?_,?_,?_,?_⟩,?_,?_,?_,?_,?_,?_⟩<;>simp only[go_sem,e0,e1,e2,e3,e4,e5]
  ·(simp only[go_sem,F])
   rw[zqa]
  ·rintro m _ v vs' esc' -⟨⟨q1,q2,q3,q4⟩,e0,e1,e2,e3,e4,e5⟩ hk
   obtain⟨k,hkL,rfl⟩: ∃k,(bitL (mask c i))[m]? =some k/\v= .int .i64 (k:Nat):=by
    rw[ziw,List.map_map,List.getElem?_map]at hk;obtain⟨k,h1,h2⟩:=Option.map_eq_some_iff.1 hk;exact⟨k,h1,h2.symm⟩
   have hki:=zqc hc hkL;have g3:((k:Nat):Int)< (c.states.length:Int):=by omega
   have hb:=zuU hkL (by omega);have hs:=ztb hkL (by omega);have g4:=zjo (p:=i) (by omega);have g5:=zn0 (a:=benN c i k) (b:=2^i) (zi4 k (by omega)) (zd5 i (by omega));have F:=ai12 chAV.eq_1 q1 q2 q3 q4 g3 g4 g5 hb @zfC umAV.eq_1<|ai6 e0 e1 e2 e3 e4 e5;repeat refine st ?_
   refine⟨(),⟨⟨?_,?_,?_,?_⟩,?_,?_,?_,?_,?_,?_⟩,?_⟩;all_goals (first|(simp only[go_sem,q1,q2,q3,q4,e0,e1,e2,e3,e4,e5];done)|skip)
   have F:=ai7 chAV.eq_1 q1 q2 q3 q4 @List.map_set.{0,0} umAV.eq_1
   (simp only[go_sem, <-hs,F])
  ·rintro _ vs' esc' -⟨⟨q1,q2,q3,q4⟩,e0,e1,e2,e3,e4,e5⟩;have hks:(setOf (mask c i)).length=(bitL (mask c i)).length:=by rw[ziw,List.length_map]
   have hall:=ztc (c:=c) hlen i;refine znt ?_;have F:=ai7 chAV.eq_1 q1 q2 q3 q4 g1 g2;repeat refine st ?_
   refine⟨i+1,⟨hlt,?_,?_,?_,?_,?_,?_⟩,?_,?_,by omega⟩;all_goals (first|(show _=false;simp only[go_sem,e0,e1,e2,e3,e4,e5];done)|skip)
   ·have F:=ai5 chAV.eq_1 q1 q2 q3 q4;exact qe
   ·have F:=ai7 chAV.eq_1 q1 q2 q3 q4 hks hall;exact qe
 ·obtain rfl:i=c.states.length:=by omega
  have g1:=nl c.states.length;have F:=ai8 chAV.eq_1 g1 e0 e1 e2 e3 e4 e5;refine zaZ ?_;repeat refine st ?_
  refine zaZ ?_;repeat refine st ?_
  refine znt ?_;refine nC 28 9002 0 5 3 1 ?_;refine zds [(9000,⟨1,c.states.map fun s=>[I s.parent],3,true⟩),(9001,⟨1,c.states.map fun s=>[I s.kind],3,true⟩),(22,⟨1,(mkTo c c.states.length).map umAV,171,true⟩),(24,⟨1,(bnTo c c.states.length).map umAV,171,true⟩)] ?_ ?_
  ·exact qe
  refine zgU [(1, .loc 1 (ws 1) 0 0),(6, .loc 6 (ws 6) 0 0)] [(1,⟨5,[chAV c],26,false⟩),(6,⟨1,[[.loc 28 (ws 28) 0 0]],115,false⟩),(28,⟨7,[[.seq 1 (c.states.map fun s=>[I s.parent]), .seq 1 (c.states.map fun s=>[I s.kind]), .seq 1 ((mkTo c c.states.length).map umAV), .seq 1 ((bnTo c c.states.length).map umAV), .row 26 (ws 26), .row 9002 (ws 9002+1), .lit (.int .u32 (zbL c c.states.length))]],173,false⟩),
   (26,⟨1,List.replicate c.states.length [I 0],3,true⟩),(9002,⟨1,[],3,true⟩)] ?_ ?_ ?_
  ·exact qe0
  ·have F:=chAV.eq_1;exact qe
  have hwl:=znB hc
  have f1:zqk prog env 120 c (c.states.map fun s=>[I s.parent]) (c.states.map fun s=>[I s.kind]) ((mkTo c c.states.length).map umAV) ((bnTo c c.states.length).map umAV) (.int .u32 (zbL c c.states.length)) (-1) [] (List.replicate c.states.length 0):=
   znC env c hc _ _ _ _ _ 40 (-1) [] (List.replicate c.states.length 0) (by omega) (by omega) (by simp) (by simp;omega)
  unfold zqk at f1;have F:=ai10 chAV.eq_1 TR.eq_1 zac.eq_1 @List.map_replicate.{0,0} e0 e1 e2 e3 e4 e5;repeat refine st ?_
  refine iL [(1000,28),(1001,26),(1002,9002)] f1 ?_;repeat refine st ?_
  refine zds [(26,⟨1,(znT c).map zac,3,true⟩),(9002,⟨1,(walkL c (-1)).map zac,3,true⟩)] ?_ ?_
  ·have F:=znT.eq_1;exact qe
  refine zgU [(2, .loc 28 (ws 28) 0 0),(3, .lit .nilIface)] [(28,⟨7,[[.seq 1 (c.states.map fun s=>[I s.parent]), .seq 1 (c.states.map fun s=>[I s.kind]), .seq 1 ((mkTo c c.states.length).map umAV), .seq 1 ((bnTo c c.states.length).map umAV), .seq 1 ((znT c).map zac), .seq 1 ((walkL c (-1)).map zac), .lit (.int .u32 (zbL c c.states.length))]],173,false⟩)] ?_ ?_ ?_
  ·exact qe0
  ·have F:=chAV.eq_1;exact qe
  (refine zal ?_;refine⟨_,(by show (zaG _ _ _).run _=some _;simp only[go_sem];rfl),?_⟩)
  exact RStr.refl _
end
section
open Go.RowKit
abbrev U32 (m:Nat):AV:= .lit (.int .u32 m)
theorem znE (env:Env) (c:ChD):Con prog env 183 [zaj c] (I c.states.length):=by
 refine qf func183 call183 ntmps183 results183 ?_;have F:=zaj.eq_1;repeat refine st ?_
 exact aR
theorem zjg (env:Env) (c:ChD) (i:Int):Con prog env 124 [zaj c,I i] (B (inZ c i)):=by
 have f0:=znE env c;refine qf func124 call124 ntmps124 results124 ?_;unfold inZ;by_cases h0:0<=i
 ·by_cases h1:i< (c.states.length:Int)
  ·have F:=ai h0 h1;repeat refine tz1 f0 ?_
   exact aR
  ·have F:=ai h0 h1;repeat refine tz1 f0 ?_
   exact aR
 ·have F:=h0;repeat refine tz1 f0 ?_
  exact aR
theorem zmb (env:Env) (c:ChD) (hc:Right c) (i:Int):Con prog env 81 [zaj c,I i] (.own 3 1 ((upL c i).map fun k=>[I k])):=by
 have hlen:=hc.few;refine qf func81 call81 ntmps81 results81 ?_;repeat refine st0 ?_
 refine zap 5 5 3 1 ?_;have hul:(upL c i).length<=40:=zf9 40 i;refine zab (D:=Int×List Int) (fun d vs=>[(0,zaj c),(1,I d.1),(5, .row 5 (vs 5))]) (fun d _=>[(5,⟨1,d.2.map fun k=>[I k],3,true⟩)]) (fun d _ esc=>upL c i=d.2++upL c d.1/\esc 5=false) (fun d=>(d.1+1).toNat) (i,[]) ?_ ?_ ?_ ?_
 ·exact⟨rfl,rfl⟩
 ·exact qe0
 ·exact qe0
 rintro⟨d,l⟩ ws esc ⟨hu,e0⟩;simp only at hu;have f0:=zjg env c d;cases hz:inZ c d with
 | false=>
   rw[zbr hz,List.append_nil]at hu;rw[hz]at f0;have F:=ai hu e0;repeat refine tz1 f0 ?_
   exact aR
 | true=>
   obtain⟨k,s,rfl,hs,ha⟩:=zb9 hz;have hp:=zck hs;have hlt:=zb0 hc hz;rw[hp]at hlt;rw[zjf hc hz,hp]at hu;rw[hz]at f0
   have hl:l.length+1<=40:=by
    have:=congrArg List.length hu;rw[List.length_append,List.length_cons]at this;omega
   have g1:((k:Nat):Int)< (c.states.length:Int):=by have:=(zag.1 hz).2;omega
   have hf:Fits (l.length+1) 8:=⟨by omega,by omega⟩;have F:=ai5 zaj.eq_1 g1 hs hf e0;repeat refine tz1 f0 ?_
   refine⟨(s.parent,l++[s.parent]),⟨?_,?_⟩,?_,?_,?_⟩
   ·show upL c i=(l++[s.parent])++upL c s.parent;rw[hu,List.append_assoc];rfl
   ·show _=false;simp only[go_sem,e0]
   ·have F:=zaj.eq_1;exact qe
   ·have F:=ai zaj.eq_1 @List.map_append.{0,0};exact qe
   ·show (s.parent+1).toNat< ((k:Int)+1).toNat;omega
theorem znF (env:Env) (m:Nat) (hm:m<4294967296) (k:Nat) (hk:k<32):Con prog env 151 [U32 m,I k] (B (m.testBit k)):=by
 have hq:m/2^k<4294967296:=Nat.lt_of_le_of_lt (Nat.div_le_self ..) hm
 have g0:((m:Int)).fdiv (2^min k 32)=((m/2^k:Nat):Int):=by
  rw[show min k 32=k by omega,show ((2:Int)^k)=((2^k:Nat):Int) by rw[Int.natCast_pow];rfl];exact(Int.ofNat_fdiv _ _).symm
 have g1:bitV .and .u32 ((m/2^k:Nat):Int) 1=((m/2^k%2:Nat):Int):=by
  have:=u32_and (m/2^k) 1 hq (by decide);rw[Nat.and_one_is_mod]at this;exact this
 have g2:((((m/2^k%2:Nat):Int))==1)=m.testBit k:=by
  rw[<-ztd];rcases Nat.mod_two_eq_zero_or_one (m/2^k) with h|h<;>rw[h]<;>rfl
 refine qf func151 call151 ntmps151 results151 ?_;have F:=ai3 g0 g1 g2;repeat refine st ?_
 exact aR
def zij (m:Nat) (l:List Nat) (j:Nat):List Nat:=(l.take j).filter fun k=>m.testBit k
theorem zrn {m:Nat} {l:List Nat} {j k:Nat} (h:l[j]? =some k):zij m l (j+1)=if m.testBit k then zij m l j++[k] else zij m l j:=by
 unfold zij;rw[List.take_add_one,h,List.filter_append];cases hb:m.testBit k<;>simp[hb]
theorem zt0 (m:Nat) (l:List Nat) (j:Nat):(zij m l j).length<=l.length:=by
 unfold zij;exact Nat.le_trans (List.length_filter_le ..) (by rw[List.length_take];omega)
theorem zmd (env:Env) (c:ChD) (hc:Right c) (m:Nat) (hm:m<4294967296):Con prog env 125 [zaj c,U32 m] (.own 3 1 (((walkL c (-1)).filter fun k=>m.testBit k).map zac)):=by
 have hlen:=hc.few;have hwl:=znB hc;have htop:=zes hc;refine qf func125 call125 ntmps125 results125 ?_;have F:=zaj.eq_1;repeat refine st ?_
 generalize walkL c (-1)=W at*;refine zap 5 5 3 1 ?_;refine zab (D:=Nat) (fun j vs=>[(1,U32 m),(5, .row 5 (vs 5)),(13, .seq 1 (W.map zac)),(14,I W.length),(15,I j)]) (fun j _=>[(5,⟨1,(zij m W j).map zac,3,true⟩)]) (fun j _ esc=>j<=W.length/\esc 5=false) (fun j=>W.length-j) 0 ?_ ?_ ?_ ?_
 ·exact⟨Nat.zero_le _,rfl⟩
 ·exact qe
 ·(simp only[go_sem,F])
  rfl
 rintro j ws esc ⟨hj,e0⟩;by_cases hlt:j<W.length
 ·obtain⟨k,hk⟩:=gE hlt;have hk32:k<32:=by have:=(htop k).1 (List.mem_of_getElem? hk);omega
  have f0:=znF env m hm k hk32;have g1:=nlt hlt;have g2:=zaa hlt (by omega);have hpl:=zt0 m W j;have hf:Fits ((zij m W j).length+1) 8:=⟨by omega,by omega⟩;have hn:=zrn (m:=m) hk;cases hb:m.testBit k with
  | true=>
    rw[hb]at f0;rw[hb,if_pos rfl]at hn;have F:=ai6 g1 g2 hk zac.eq_1 hf e0;repeat refine tz1 f0 ?_
    refine⟨j+1,⟨hlt,by simp only[go_sem,e0]⟩,?_,?_,by omega⟩
    ·exact qe
    ·have F:=ai3 hn zac.eq_1 @List.map_append.{0,0};exact qe
  | false=>
    rw[hb]at f0;rw[hb,if_neg Bool.false_ne_true]at hn;have F:=ai6 g1 g2 hk zac.eq_1 hf e0;repeat refine tz1 f0 ?_
    refine⟨j+1,⟨hlt,by simp only[go_sem,e0]⟩,?_,?_,by omega⟩
    ·exact qe
    ·have F:=ai3 hn zac.eq_1 @List.map_append.{0,0};exact qe
 ·obtain rfl:j=W.length:=by omega
  have g1:=nl W.length;have hall:zij m W W.length=W.filter fun k=>m.testBit k:=by unfold zij;rw[List.take_length]
  have F:=ai3 g1 hall e0;repeat refine st ?_
  exact aR
def orTo (l:List Int) (j:Nat):Nat:=(l.take j).foldl (fun m k=>m||| 2^k.toNat) 0
theorem zry {l:List Int} {j:Nat} {k:Int} (h:l[j]? =some k):orTo l (j+1)=orTo l j||| 2^k.toNat:=by
 unfold orTo;rw[List.take_add_one,h,List.foldl_append];rfl
theorem zj2: ∀(l:List Int) (m b:Nat),(l.foldl (fun m k=>m||| 2^k.toNat) m).testBit b=(m.testBit b||l.any fun k=>k.toNat==b)
 |[],m,b=>by simp
 | k::l,m,b=>by
   rw[List.foldl_cons,zj2 l,Nat.testBit_or,Nat.testBit_two_pow,List.any_cons,Bool.or_assoc];rfl
theorem ziB {c:ChD} (hc:Right c) {l:List Int} : ∀ {j:Nat},(∀k∈l.take j,inZ c k=true)->orTo l j<4294967296:=fun {j} h=>by
 have hlen:=hc.few;apply Nat.lt_pow_two_of_testBit (n:=32);intro b hb;unfold orTo;rw[zj2,Nat.zero_testBit,Bool.false_or,List.any_eq_false];intro k hk;have:=zag.1 (h k hk);simp;omega
theorem zrz {c:ChD} {l:List Int} (h:l.all (inZ c)=true):((walkL c (-1)).filter fun k=>(orTo l l.length).testBit k)=sortL c l:=by
 unfold sortL;rw[if_pos h];apply List.filter_congr;intro k _;unfold orTo;rw[zj2,Nat.zero_testBit,Bool.false_or,List.take_length,Bool.eq_iff_iff,List.any_eq_true,List.contains_iff_mem];constructor
 ·rintro⟨x,h1,h2⟩;have:=(zag.1 (List.all_eq_true.1 h x h1)).1;have h2:x.toNat=k:=by simpa using h2
  rw[show (k:Int)=x by omega];exact h1
 ·exact fun h1=>⟨k,h1,by simp⟩
theorem ztL {c:ChD} {l:List Int} {j:Nat} {k:Int} (h:(l.take j).all (inZ c)=true) (hk:l[j]? =some k) (hz:inZ c k=true):(l.take (j+1)).all (inZ c)=true:=by
 rw[List.take_add_one,hk,List.all_append,h];simp[hz]
theorem ztQ {c:ChD} {l:List Int} {j:Nat} {k:Int} (hk:l[j]? =some k) (hz:inZ c k=false):sortL c l=[]:=by
 unfold sortL;rw[if_neg];intro h;have:=List.all_eq_true.1 h k (List.mem_of_getElem? hk);rw[hz]at this;cases this
abbrev intAV (k:Int):List AV:=[I k]
theorem zcG (env:Env) (c:ChD) (hc:Right c) (l:List Int) (hl:l.length<=1000000):Con prog env 66 [zaj c, .seq 1 (l.map intAV)] (.own 3 1 ((sortL c l).map zac)):=by
 have hlen:=hc.few;refine qw func66 call66 ntmps66 results66 ?_;repeat refine st0 ?_
 refine zab (D:=Nat) (fun j _=>[(0,zaj c),(5,U32 (orTo l j)),(8, .seq 1 (l.map intAV)),(9,I l.length),(10,I j)]) (fun _ _=>[]) (fun j _ _=>j<=l.length/\(l.take j).all (inZ c)=true) (fun j=>l.length-j) 0 ?_ ?_ ?_ ?_
 ·exact⟨Nat.zero_le _,rfl⟩
 ·(simp only[go_sem])
  rfl
 ·exact qe0
 rintro j ws esc ⟨hj,hall⟩;by_cases hlt:j<l.length
 ·obtain⟨k,hk⟩:=gE hlt;have g1:=nlt hlt;have g2:=zaa hlt (by omega);have f0:=zjg env c k;cases hz:inZ c k with
  | false=>
    rw[hz]at f0;have F:=ai3 g1 g2 hk;repeat refine tz1 f0 ?_
    (refine zal ?_;refine⟨_,(by show (zaG _ _ _).run _=some _;simp only[go_sem,F];rfl),?_⟩)
    rw[ztQ hk hz];exact RStr.own_nil _ _ (by decide)
  | true=>
    rw[hz]at f0;have hr:=zag.1 hz;obtain⟨p,rfl⟩: ∃p:Nat,k=p:=⟨k.toNat,by omega⟩;have g3:=zjo (p:=p) (by omega);have hsm:=ziB hc (j:=j) (fun k hk=>List.all_eq_true.1 hall k hk);have g4:=zn0 hsm (zd5 p (by omega));have hn:=zry hk;rw[Int.toNat_natCast]at hn;have F:=ai5 g1 g2 g3 g4 hk;repeat refine tz1 f0 ?_
    refine⟨j+1,⟨hlt,ztL hall hk hz⟩,?_,?_,by omega⟩
    ·have F:=ai6 g1 g2 g3 g4 hk hn;exact qe
    ·(simp only[go_sem,g1,g2,g3,g4,hk,hn])
 ·obtain rfl:j=l.length:=by omega
  have g1:=nl l.length;have hsm:=ziB hc (j:=l.length) (fun k hk=>List.all_eq_true.1 hall k hk);rw[List.take_length]at hall;have f1:=zmd env c hc _ hsm;rw[zrz hall]at f1;have F:=g1;repeat refine tz1 f1 ?_
  (refine zal ?_;refine⟨_,(by show (zaG _ _ _).run _=some _;simp only[go_sem,F];rfl),?_⟩)
  exact RStr.refl _
end
section
open Go.RowKit Go.Sort Go.Shelf Go.Lib
def flagA (n:Nat) (act:List Int):List (List AV):=(List.range n).map fun k:Nat=>[B (act.contains (k:Int))]
theorem zcv (n:Nat) (act:List Int):(flagA n act).length=n:=by unfold flagA;simp
theorem ze3 {n:Nat} {act:List Int} {k:Nat} (hk:k<n):(flagA n act)[k]? =some [B (act.contains (k:Int))]:=by
 unfold flagA;rw[List.getElem?_map,List.getElem?_range hk];rfl
theorem zss (n:Nat):List.replicate n [B false]=flagA n []:=by
 unfold flagA;apply List.ext_getElem?;intro j;rw[List.getElem?_map];by_cases h:j<n
 ·rw[List.getElem?_range h,List.getElem?_replicate_of_lt h];rfl
 ·rw[List.getElem?_eq_none (by simp;omega),List.getElem?_eq_none (by simp;omega)];rfl
theorem zor {n:Nat} {act:List Int} {i:Int} (h: ∀k:Nat,k<n->(k:Int)≠i):flagA n (act++[i])=flagA n act:=by
 unfold flagA;apply List.map_congr_left;intro k hk;have:=h k (List.mem_range.1 hk);simp;exact fun e=>absurd e this
theorem zus {n:Nat} {act:List Int} {k:Nat} (hk:k<n):(flagA n act).set k [B true]=flagA n (act++[(k:Int)]):=by
 apply List.ext_getElem?;intro j;by_cases hj:j<n
 ·rw[ze3 hj];by_cases e:k=j
  ·subst e;rw[List.getElem?_set_self (by rw[zcv];exact hk)];simp
  ·rw[List.getElem?_set_ne e,ze3 hj];simp;exact fun e2=>absurd (by omega) e
 ·rw[List.getElem?_eq_none (by rw[List.length_set,zcv];omega),List.getElem?_eq_none (by rw[zcv];omega)]
theorem zmP {act:List Int} {ks:List Nat} {j k:Nat} (hk:ks[j]? =some k):manyI act (ks.take (j+1))=manyI act (ks.take j)+if act.contains (k:Int)=true then 1 else 0:=by
 unfold manyI;rw[List.take_add_one,hk,List.filter_append,List.length_append];simp only[Option.toList_some,List.filter_cons,List.filter_nil];split<;>rfl
theorem zcF (l:List Nat):(zL l).map intAV=l.map zac:=by simp only[zL,List.map_map];rfl
theorem za9 (l:List Nat):(zL l).length=l.length:=List.length_map ..
theorem zqr {l:List Nat} {j k:Nat} (h:l[j]? =some k):(zL l)[j]? =some (k:Int):=by unfold zL;rw[List.getElem?_map,h];rfl
/-! slices.Sort of ints -/
def intC (k:Int):List Value:=[.int .i64 k]
def zbq (l:List Int):List Int:=l.mergeSort fun x y=>decide (x<=y)
theorem ziM {w:World} {g:Nat} {l:List Int} (h:Holds id w g 0 (l.map (Value.int .i64)).toArray):Holds (Value.int .i64) w g 0 l.toArray:=fun j hj=>by
 have hj':j<l.length:=by simpa using hj
 have:=h j (by simpa using hj');rw[getElem!_pos _ j (by simpa using hj')]at this;rw[getElem!_pos _ j hj];simpa using this
theorem Tryz.sortIEnter: ∀(args:Array Value) (w:World),(callFunc 161 args).run prog w= .ok (.enter 161 args) w:=enters_of func161 (by kernel_rfl) rfl
theorem zg8 (l:List Int) (hl:l.length<4611686018427387904):Turns prog 161 [] 3 1 (l.map intC) ((zbq l).map intC):=by
 by_cases h0:l=[]
 ·subst h0;rw[show zbq []=[] by simp[zbq]];exact zfF Tryz.sortIEnter fun p cap w=>Any.slices_Sort_int_none Tryz.sortI p cap w
 ·refine zex (by rw[List.length_map];exact List.length_pos_iff.2 h0) Tryz.sortIEnter (by simp[zbq]) (fun x hx=> ?_) (fun x hx=> ?_) fun w g cap hH hg=> ?_
  ·obtain⟨y,_,rfl⟩:=List.mem_map.1 hx;rfl
  ·obtain⟨y,_,rfl⟩:=List.mem_map.1 hx;exact⟨rfl,fun u hu=>by rw[List.mem_singleton.1 hu];rfl⟩
  ·have hH:Holds id w g 0 (l.map (Value.int .i64)).toArray:=by rw[<-zbW];exact hH
   have:=Any.slices_Sort_int Tryz.sortI g 0 cap l w (ziM hH) hg hl;rw[List.length_map];refine(show Calls prog 161 #[.slice (some ⟨g,0,none⟩) l.length cap] w _ from this).mono ?_;rintro ex w' ⟨rfl,n,os,rfl⟩;refine⟨rfl,n,os,?_⟩;rw[zea,show ((zbq l).map intC).flatten=(zbq l).map (Value.int .i64) from zbW (Value.int .i64) _];simp[zbq]
end

end Go.Proofs.YtbpmkofnfgdegaaGreatDoor