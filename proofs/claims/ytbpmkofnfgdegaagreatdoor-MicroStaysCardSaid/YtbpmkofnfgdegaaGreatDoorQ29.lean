/- awake of layer 31, by what is so of any chart: for the laws that walk steps of any instance. -/
import Derived.Test.YtbpmkofnfgdegaaGreatDoorQ27
import Derived.Test.YtbpmkofnfgdegaaGreatDoorQ8
import Derived.Test.YtbpmkofnfgdegaaGreatDoorQ6
import Derived.Test.YtbpmkofnfgdegaaGreatDoorQ22
import Derived.Test.YtbpmkofnfgdegaaGreatDoorQ26
import Derived.Test.YtbpmkofnfgdegaaGreatDoorQ11
import Derived.Test.YtbpmkofnfgdegaaGreatDoorQ28
import Derived.Test.YtbpmkofnfgdegaaGreatDoorQ16
import Derived.Test.YtbpmkofnfgdegaaGreatDoorQ15
import Derived.Test.YtbpmkofnfgdegaaGreatDoorQ25
import Derived.Test.YtbpmkofnfgdegaaGreatDoorQ21
import Derived.Test.YtbpmkofnfgdegaaGreatDoorQ19
import Derived.Test.YtbpmkofnfgdegaaGreatDoorQ17
import Derived.Test.YtbpmkofnfgdegaaGreatDoorQ14
import Derived.Test.YtbpmkofnfgdegaaGreatDoorQ24
import Derived.Test.YtbpmkofnfgdegaaGreatDoorQ5
set_option maxRecDepth 100000
set_option maxHeartbeats 16000000
set_option linter.unusedSimpArgs false
namespace Go.Proofs.YtbpmkofnfgdegaaGreatDoor
open Go.Proofs.Tryz
section
open Go.RowKit
def enAV (a2:Addr):Except Nat (List Nat)->AV
 | .ok l=> .tuple [.seq 1 (l.map zac),nilE]
 | .error n=> .tuple [nilS,errV (1000+(n:Nat)) (sentV a2)]
theorem zur {c:ChD} {w:WoD} {ev:List UInt8} {i:Nat} {l o:List Nat} (h:zdb c w ev ((i:Int)::upL c i)= .no):zcd c w ev (i::l) o=zcd c w ev l o:=by
 conv=>lhs;unfold zcd
 rw[h]
theorem zsq {c:ChD} {w:WoD} {ev:List UInt8} {i n:Nat} {l o:List Nat} (h:zdb c w ev ((i:Int)::upL c i)= .one n):zcd c w ev (i::l) o=zcd c w ev l (if o.contains n then o else o++[n]):=by
 conv=>lhs;unfold zcd
 rw[h]
theorem zsr {c:ChD} {w:WoD} {ev:List UInt8} {i n:Nat} {l o:List Nat} (h:zdb c w ev ((i:Int)::upL c i)= .bad n):zcd c w ev (i::l) o= .error n:=by
 unfold zcd;rw[h]
theorem zv8 {c:ChD} {w:WoD} {ev:List UInt8} {n:Nat} {l:List Int} (h:zdb c w ev l= .one n):n<c.trans.length:=by
 obtain⟨_,_,t,ht,_⟩:=zm6 h;exact(List.getElem?_eq_some_iff.1 ht).1
theorem take_len (c:ChD) (act:List Int) (l:List Nat) (n:Nat):(takeL c act l n).length<=l.length+1:=by
 unfold takeL;split
 ·rw[List.length_append,List.length_singleton];have:=List.length_filter_le (fun k=> !zcY c act k n) l;omega
 ·omega
theorem zwr (l:List Nat):l.map zac=(zL l).map intAV:=(zcF l).symm
theorem zia (env:Env) (a1 a2 a8:Addr) (he:ChEnv env a1 a8) (h2:env 2=some (sentV a2)) (c:ChD) (h:Full c) (hs:Small c) (x:InD) (d:Int) (hx:Asked c x d) (ev:List UInt8)
 (fr:Con prog env 29 [Sg [109,105,99,114,111,46,69,110,97,98,108,101,100],zah c, .agg (inE x),I d] nilE) (l:List Nat) (hl:x.1=zL l) (hk: ∀k∈l,k<c.states.length):
 Con prog env 12 [zah c, .agg (inE x),Sg ev,I d] (enAV a2 (zpZ c x.1 (woX c x.1 x.2.1 d) ev (innL c l))):=by
 have hfew:=h.few;have hxl:=hx.act;have f1:=zas env c hs
 have f2:Con prog env 38 [zah c,ints34 x.1] (.tuple [.seq 1 ((innL c l).map zac),nilE]):=by
  have:=zrt env a1 a8 he c h hs l (by rw[hl,za9]at hxl;omega) hk (by rw[<-hl];exact hx.lg);rwa [zwr l, <-hl]at this
 have f3:=fun k:Nat=>zux env a1 a2 a8 he h2 c h hs x d hx k ev;have f4:=fun(o:List Nat) (n:Nat) (ho:o.length<=1000)=>(zaB env (zL o) n (by rw[za9];omega)).lend rfl;have f5:=fun(o:List Nat) (ho:o.length<=1000) (hk: ∀n∈o,n<c.trans.length) (n:Nat) (hn:n<c.trans.length)=>ztK env a1 a8 he c h hs x d hx o ho hk n hn
 have hil:(innL c l).length<=32:=by
  have:=(ziv h.toRight (zL (lnTo c l l.length))).length_le_of_subset (l₂:=List.range c.states.length) fun m hm=>by
   have hm:m∈innL c l:=hm;unfold innL sortL at hm;split at hm
   ·exact List.mem_range.2 ((zes h.toRight m).1 (List.mem_filter.1 hm).1)
   ·simp at hm
  simp at this;show (sortL c (zL (lnTo c l l.length))).length<=32;omega
 unfold zpZ;generalize hW:woX c x.1 x.2.1 d=W at*;generalize innL c l=R at*;unfold rnE at f3 f5;unfold inE at fr |-;unfold zah at f1 f2 fr |-;unfold chAV at f1;refine qf func12 call12 ntmps12 results12 ?_;repeat refine tz03 fr f1 f2 ?_
 refine zap 14 14 3 1 ?_;refine zdN (Turned.nil 15 1 (by simp only[go_sem])) ?_
 refine zab (D:=Nat×List Nat) (fun e vs=>[(2,Sg ev),(11, .loc 35 (vs 35) 0 0),(14, .row 14 (vs 14)),(15, .seq 1 []),(47, .seq 1 (R.map zac)),(48,I R.length),(49,I e.1)])
  (fun e _=>[(14,⟨1,e.2.map zac,3,true⟩),(35,⟨15,[[ints34 x.1,ints34 x.2.1, .seq 2 (x.2.2.1.map mmAV), .seq 2 (x.2.2.2.1.map tmAV),B x.2.2.2.2,nilS,nilS, .ref 9 [tabCells c] 0 0,Sg c.name,I c.initial,varsAV c.vars,stsAV c.states,trsAV c.trans,I d,I 0]],79,false⟩)])
  (fun e _ esc=>(e.1<=R.length/\zcd c W ev R []=zcd c W ev (R.drop e.1) e.2/\e.2.length<=e.1/\ ∀n∈e.2,n<c.trans.length)/\esc 14=false) (fun e=>R.length-e.1) (0,[]) ?_ ?_ ?_ ?_
 ·exact⟨⟨Nat.zero_le _,rfl,Nat.le_refl _,fun n hn=>by simp at hn⟩,by simp only[go_sem]⟩
 ·exact qe0
 ·(simp only[go_sem])
  try rfl
 rintro⟨j,o⟩ ws esc ⟨⟨hj,hq,hol,hok⟩,e0⟩;simp only at hj hq hol hok;by_cases hlt:j<R.length
 ·obtain⟨k,hkk⟩:=gE hlt;have q1:=nlt hlt;have q2:=zaa hlt (by omega);have f6:=f3 k;rw[zaQ hkk]at hq;have q4: ¬(0:Int)<= -1:=by omega
  cases hv:zdb c W ev ((k:Int)::upL c k) with
  | no=>
    rw[hv]at f6;unfold fdAV at f6;rw[zur hv]at hq;have F:=ai6 zac.eq_1 hkk q1 q2 q4 e0;repeat refine tz1 f6 ?_
    refine⟨(j+1,o),⟨⟨hlt,hq,Nat.le_succ_of_le hol,hok⟩,by simp only[go_sem,e0]⟩,?_,?_,by simp only;omega⟩
    ·exact qe
    ·exact qe
  | bad n=>
    rw[hv]at f6;unfold fdAV at f6;rw[zsr hv]at hq;rw[hq];show awp _ _ _ _ _ _;unfold enAV;have F:=ai4 zac.eq_1 hkk q1 e0;repeat refine tz1 f6 ?_
    exact aR
  | one n=>
    have hnl:=zv8 hv;rw[hv]at f6;unfold fdAV at f6;rw[zsq hv]at hq;have q3:(0:Int)<=(n:Int):=by omega
    have f7:=f4 o n (by omega);rw[zcF]at f7;have hf:Fits (o.length+1) 8:=zae (by omega) (by omega);cases hc:o.contains n with
    | true=>
      have hz:(zL o).contains (n:Int)=true:=zkp.2 (List.contains_iff_mem.1 hc);rw[hz]at f7;rw[hc]at hq;simp only[if_true]at hq;have F:=ai6 zac.eq_1 hkk q1 q2 q3 e0;repeat refine tz1 f6 ?_
      refine lL f7 ?_;repeat refine st ?_
      refine⟨(j+1,o),⟨⟨hlt,hq,Nat.le_succ_of_le hol,hok⟩,by simp only[go_sem,e0]⟩,?_,?_,by simp only;omega⟩
      ·exact qe
      ·exact qe
    | false=>
      have hz:(zL o).contains (n:Int)=false:=by
       cases hh:(zL o).contains (n:Int) with
       |false=>rfl
       | true=>
         have:=List.contains_iff_mem.2 (zkp.1 hh);rw[hc]at this;cases this
      rw[hz]at f7;rw[hc]at hq;simp only[Bool.false_eq_true,if_false]at hq;have F:=ai7 zac.eq_1 hkk q1 q2 q3 hf e0;repeat refine tz1 f6 ?_
      refine lL f7 ?_;repeat refine st ?_
      refine⟨(j+1,o++[n]),⟨⟨hlt,hq,by simp only[List.length_append,List.length_singleton];omega,fun m hm=> ?_⟩,by simp only[go_sem,e0]⟩,?_,?_,by simp only;omega⟩
      ·rcases List.mem_append.1 hm with hm|hm
       ·exact hok m hm
       ·rw[List.mem_singleton.1 hm];exact hnl
      ·exact qe
      ·have F:=ai zac.eq_1 @List.map_append.{0,0};exact qe
 ·obtain rfl:j=R.length:=by omega
  have q1:=nl R.length;rw[List.drop_length]at hq;have hq2:zcd c W ev R []= .ok o:=hq;rw[hq2];show awp _ _ _ _ _ _;unfold zva enAV
  have hfo: ∀m,m<=o.length->((o.take m).foldl (takeL c x.1) []).length<=m/\ ∀n∈(o.take m).foldl (takeL c x.1) [],n<c.trans.length:=fun m=>by
   induction m with
   |zero=>exact fun _=>⟨by simp,fun n hn=>by simp at hn⟩
   | succ m ih=>
     intro hm;obtain⟨i1,i2⟩:=ih (by omega);obtain⟨n,hn⟩: ∃n,o[m]? =some n:=⟨o[m],List.getElem?_eq_getElem (by omega)⟩;rw[za3 _ _ hn];refine⟨Nat.le_trans (take_len ..) (by omega),fun k hk=> ?_⟩;rcases znH hk with hk|rfl
     ·exact i2 k hk
     ·exact hok _ (List.mem_of_getElem? hn)
  have F:=ai q1 e0;repeat refine st ?_
  try clear f4 f6
  refine zab (D:=Nat) (fun m vs=>[(11, .loc 35 (vs 35) 0 0),(15, .seq 1 (((o.take m).foldl (takeL c x.1) []).map zac)),(76, .row 14 (vs 14)),(77,I o.length),(78,I m)])
   (fun m _=>[(14,⟨1,o.map zac,3,true⟩),(35,⟨15,[[ints34 x.1,ints34 x.2.1, .seq 2 (x.2.2.1.map mmAV), .seq 2 (x.2.2.2.1.map tmAV),B x.2.2.2.2,nilS,nilS, .ref 9 [tabCells c] 0 0,Sg c.name,I c.initial,varsAV c.vars,stsAV c.states,trsAV c.trans,I d,I 0]],79,false⟩)])
   (fun m _ _=>m<=o.length) (fun m=>o.length-m) 0 ?_ ?_ ?_ ?_
  ·exact Nat.zero_le _
  ·(simp only[go_sem,F])
   try rfl
  ·exact qe
  rintro m us es hm;obtain⟨i1,i2⟩:=hfo m hm;by_cases hlt2:m<o.length
  ·obtain⟨n,hn⟩:=gE hlt2;have p1:=nlt hlt2;have p2:=zaa hlt2 (by omega);have f6:=f5 _ (by omega) i2 n (hok n (List.mem_of_getElem? hn));have hnx:=za3 (takeL c x.1) [] hn;rw[<-hnx]at f6;generalize (o.take m).foldl (takeL c x.1) []=A at*;generalize hA2:(o.take (m+1)).foldl (takeL c x.1) []=A2 at*;have F:=ai4 zac.eq_1 hn p1 p2;repeat refine tz1 f6 ?_
   refine⟨m+1,hlt2,?_,?_,by omega⟩
   ·have F:=ai zac.eq_1 hA2;exact qe
   ·(simp only[go_sem,zac,hA2])
  ·obtain rfl:m=o.length:=by omega
   have p1:=nl o.length;rw[List.take_length];have F:=p1;repeat refine st ?_
   exact aR
end
section
open Go.RowKit
theorem zqL {l:List (List UInt8×Int)} (h:TmsOk l) (hl:l.length<=8):zbS l=true:=by
 unfold zbS;rw[decide_eq_true hl,Bool.and_true];refine zh5 fun j hj=> ?_;have e:l.getD j ([],0)=l[j]:=by simp[List.getD_eq_getElem?_getD,List.getElem?_eq_getElem hj]
 obtain⟨e1,e2,e3⟩:=h.each _ (List.getElem_mem hj);unfold tmAt;rw[e,e1];have hc:clkB l[j].2=true:=by unfold clkB;simp[e2,e3]
 rw[hc];by_cases h0:j=0
 ·simp[h0]
 ·have hp:=List.pairwise_iff_getElem.1 h.rise (j-1) j (by omega) hj (by omega);have e4:l.getD (j-1) ([],0)=l[j-1]'(by omega):=by simp[List.getD_eq_getElem?_getD,List.getElem?_eq_getElem (show j-1<l.length by omega)]
  rw[e4,hp];simp
def inR (r:RunD):InD:=(r.act,r.vars,r.mem,r.tms,r.over)
theorem zq3 {c:ChD} {r:RunD} (h:RunOk c r) (hb:lgB c r.act=true) (hm:zbd c r.mem=true) (ho:r.over=zfj c r.act):za6 c (rcI (inR r))=true:=by
 unfold za6;show (lgB c r.act&&zbd c r.mem&&(r.vars.length==c.vars.length)&&zbS r.tms&&(r.over==zfj c r.act)&&zgw r.vars)=true;rw[hb,hm,h.len,zqL h.tms h.tml,ho,show zgw r.vars=true from List.all_eq_true.2 h.vars];simp
theorem zrx {c:ChD} {act:List Int} (h: ∀x∈act,inZ c x=true):zfj c act=act.any fun x=>zcX c x==3&&decide (parZ c x<0):=by
 unfold zfj;rw[Bool.eq_iff_iff,List.any_eq_true,List.any_eq_true]
 have e: ∀x∈act,zde c x=(zcX c x==3&&decide (parZ c x<0)):=fun x hx=>by
  obtain⟨k,s,rfl,hs,_⟩:=zb9 (h x hx);unfold zde;rw[Int.toNat_natCast,hs,zjO hs,zrr hs,Bool.and_comm]
 exact⟨fun⟨x,hx,q⟩=>⟨x,hx,by rw[<-e x hx];exact q⟩,fun⟨x,hx,q⟩=>⟨x,hx,by rw[e x hx];exact q⟩⟩
theorem zug {c:ChD} {act:List Int} (h:lgB c act=true):act.length<=c.states.length:=by
 have hL:=zc4 h
 have:=hL.nodup.length_le_of_subset (l₂:=zL (List.range c.states.length)) fun x hx=>by
  obtain⟨_,_,hz,_⟩:=hL.of hx;obtain⟨h0,h1⟩:=zag.1 hz;exact List.mem_map.2 ⟨x.toNat,List.mem_range.2 (by omega),by simp;omega⟩
 rw[za9,List.length_range]at this;exact this
end
section
open Go.RowKit
theorem zwt {l:List (List UInt8×Int)} (h:zbS l=true):TmsOk l/\l.length<=8:=by
 unfold zbS at h;rw[Bool.and_eq_true,decide_eq_true_eq]at h;obtain⟨h1,h2⟩:=h;have at_: ∀j (hj:j<l.length),l.getD j ([],0)=l[j]:=fun j hj=>by simp[List.getD_eq_getElem?_getD,List.getElem?_eq_getElem hj]
 have k:=fun j (hj:j<l.length)=>zwm h1 j hj;refine⟨⟨List.pairwise_iff_getElem.2 fun i j hi hj hij=> ?_,fun x hx=> ?_⟩,h2⟩
 ·have key: ∀m,(hm:i+1+m<l.length)->Op.bytesLess l[i].1 l[i+1+m].1=true:=fun m=>by
   have step: ∀j (hj:j+1<l.length),Op.bytesLess l[j].1 l[j+1].1=true:=fun j hj=>by
    have:=k (j+1) hj;unfold tmAt at this;rw[at_ _ hj,show j+1-1=j by omega,at_ j (by omega)]at this;simp only[Bool.and_eq_true,Bool.or_eq_true,decide_eq_true_eq]at this;exact this.2.resolve_left (by omega)
   induction m with
   |zero=>exact fun hm=>step i hm
   |succ m ih=>exact fun hm=>zcy (ih (by omega)) (step (i+1+m) hm)
  have:=key (j-i-1) (by omega);simpa[show i+1+(j-i-1)=j by omega]using this
 ·obtain⟨j,hj,rfl⟩:=List.mem_iff_getElem.1 hx;have:=k j hj;unfold tmAt clkB at this;rw[at_ j hj]at this;simp only[Bool.and_eq_true,decide_eq_true_eq]at this;exact⟨this.1.1,this.1.2⟩
structure InstOk (c:ChD) (x:InD):Prop where
 lg:lgB c x.1=true
 mem:zbd c x.2.2.1=true
 len:x.2.1.length=c.vars.length
 fit: ∀v∈x.2.1,zai v=true
 tms:TmsOk x.2.2.2.1
 tml:x.2.2.2.1.length<=8
 over:x.2.2.2.2=zfj c x.1
theorem zjS {c:ChD} {x:InD} (hb:za6 c (rcI x)=true):InstOk c x:=by
 unfold za6 at hb;simp only[Bool.and_eq_true,beq_iff_eq]at hb;obtain⟨⟨⟨⟨⟨b1,b2⟩,b3⟩,b4⟩,b5⟩,b6⟩:=hb;obtain⟨t1,t2⟩:=zwt b4;exact⟨b1,b2,b3,List.all_eq_true.1 b6,t1,t2,b5⟩
theorem InstOk.beg {c:ChD} {x:InD} (h:InstOk c x):RunOk c (begR x):=⟨h.len,h.fit,h.tms,h.tml,Nat.zero_le _,Nat.zero_le _⟩
section
variable {c:ChD} (h:Full c) {act:List Int} (hb:lgB c act=true) {ts:List Nat} (hf:Fit c act ts)
include h hb hf
theorem zo0 {mem:List MemD} (hm:zbd c mem=true) {n:Nat} (hn:n∈ts):TrOk c act mem (trAt c n):=by
 obtain⟨t,ht,hs⟩:=hf.real n hn;rw[zci ht];exact zmc h hb hm ht hs
theorem zvl {y:Int} :y∈goneR c act ts↔y∈act/\ ∃n∈ts,zgz c (trAt c n) y:=by
 have hm:zbd c []=true:=rfl;unfold goneR;rw[List.mem_flatMap];constructor
 ·rintro⟨n,hn,hy⟩;obtain⟨q1,q2⟩:=((zo0 h hb hf hm hn).left y).1 hy;exact⟨q1,n,hn,q2⟩
 ·rintro⟨q1,n,hn,q2⟩;exact⟨n,hn,((zo0 h hb hf hm hn).left y).2 ⟨q1,q2⟩⟩
theorem zsp {y:Int} :y∈zL (sortL c (goneR c act ts))↔y∈act/\ ∃n∈ts,zgz c (trAt c n) y:=by
 rw[zd4 h.toRight fun y hy=>by
  obtain⟨_,_,hz,_⟩:=(zc4 hb).of ((zvl h hb hf).1 hy).1
  exact hz]
 exact zvl h hb hf
theorem zlm: ∀y∈zL (sortL c (goneR c act ts)),y∈act:=fun _ hy=>((zsp h hb hf).1 hy).1
theorem zw1 {mem:List MemD} (hm:zbd c mem=true) {y:Int} :y∈zL (sortL c (zL (toR c mem ts)))↔ ∃n∈ts,ToT c mem (trAt c n) y:=by
 have e: ∀y,y∈zL (toR c mem ts)↔ ∃n∈ts,ToT c mem (trAt c n) y:=fun y=>by
  unfold toR zL;rw[List.mem_map];constructor
  ·rintro⟨k,hk,rfl⟩;obtain⟨n,hn,hk⟩:=List.mem_flatMap.1 hk;exact⟨n,hn,((zo0 h hb hf hm hn).to _).1 (List.mem_map.2 ⟨k,hk,rfl⟩)⟩
  ·rintro⟨n,hn,q⟩;obtain⟨k,hk,e⟩:=List.mem_map.1 (((zo0 h hb hf hm hn).to y).2 q);exact⟨k,List.mem_flatMap.2 ⟨n,hn,hk⟩,e⟩
 rw[zd4 h.toRight fun y hy=>by
  obtain⟨n,hn,q⟩:=(e y).1 hy
  exact zao (zoo h ((zo0 h hb hf hm hn).uni q.1).bel q.2)]
 exact e y
theorem znJ {d now:Int} (hd:zai d=true) (hn:0<=now/\now<=1099511627776) {mem:List MemD} (hm:zbd c mem=true) {r2:RunD} (hr:RunOk c r2) (ha:r2.act=act.filter (fun k=> !(zL (sortL c (goneR c act ts))).reverse.contains k)) (he:(zaK c d now r2 [] (zL (sortL c (zL (toR c mem ts))))).1.2=none):
 lgB c (zaK c d now r2 [] (zL (sortL c (zL (toR c mem ts))))).1.1.act=true/\ ∀y,y∈(zaK c d now r2 [] (zL (sortL c (zL (toR c mem ts))))).1.1.act↔zdc c act mem ts y:=by
 have hrise:r2.act.Pairwise (· < ·):=by rw[ha];exact(zc4 hb).rise.sublist List.filter_sublist
 obtain⟨_,kc⟩:=ze6 (zcg h) (l:=zL (sortL c (zL (toR c mem ts)))) (f:=[]) hd hn hr hrise;have kc:=kc he;obtain⟨O,o1,o2,o3⟩:=ziG h hb hm ts.length ts rfl hf
 have key: ∀y,y∈(zaK c d now r2 [] (zL (sortL c (zL (toR c mem ts))))).1.1.act↔zdc c act mem ts y:=fun y=>by
  rw[kc.mem,ha,List.mem_filter,zw1 h hb hf hm,Bool.not_eq_true'];unfold zdc;refine or_congr ?_ Iff.rfl;refine and_congr_right fun hy=> ?_;rw[<-Bool.not_eq_true,List.contains_iff_mem,List.mem_reverse,zsp h hb hf];constructor
  ·exact fun q n hn ql=>q ⟨hy,n,hn,ql⟩
  ·rintro q ⟨_,n,hn,ql⟩;exact q n hn ql
 refine⟨?_,key⟩;have e:(zaK c d now r2 [] (zL (sortL c (zL (toR c mem ts))))).1.1.act=zL O:=zjq kc.rise (List.pairwise_map.2 (o1.imp fun q=>by omega)) fun y=>(key y).trans (o3 y).symm;rw[e];exact o2
end
theorem zo3 {c:ChD} (h:Full c) {d now:Int} (hd:zai d=true) (hn:0<=now/\now<=1099511627776) {x:InD} (hI:InstOk c x) (ho:x.2.2.2.2=false) {ts:List Nat} (hf:Fit c x.1 ts) (he:(stepP c d now (begR x) ts).2=none):
 RunOk c (stepP c d now (begR x) ts).1/\za6 c (rcI (inR (stepP c d now (begR x) ts).1))=true/\ ∀y,y∈(stepP c d now (begR x) ts).1.act↔zdc c x.1 (remL c x.1 (zL (sortL c (goneR c x.1 ts))) x.2.2.1) ts y:=by
 have hA:=zcg h;have hm:=(zdz h hI.lg hI.mem (zlm h hI.lg hf)).2
 have hts: ∀n∈ts,∃t,c.trans[n]? =some t:=fun n hn=>by
  obtain⟨t,ht,_⟩:=hf.real n hn;exact⟨t,ht⟩
 have hov:zfj c x.1=false:=by rw[<-hI.over];exact ho
 have hz: ∀y∈x.1,inZ c y=true:=fun y hy=>by
  obtain⟨_,_,hz,_⟩:=(zc4 hI.lg).of hy;exact hz
 have hG: ∀y∈zL (sortL c (goneR c x.1 ts)),y∈x.1:=zlm h hI.lg hf;have leg:=fun(r2:RunD) hr ha he=>znJ h hI.lg hf hd hn hm (r2:=r2) hr ha he;have hb0:RunOk c (begR x):=hI.beg
 change (match zbn c d now { begR x with mem:=remL c x.1 (zL (sortL c (goneR c x.1 ts))) x.2.2.1 } (zL (sortL c (goneR c x.1 ts))).reverse with
  |(r1,none)=>(match zeq c d now r1 ts with
    |(r2,none)=>enterP c d now r2 (zL (sortL c (zL (toR c (remL c x.1 (zL (sortL c (goneR c x.1 ts))) x.2.2.1) ts))))
    |y=>y)
  |y=>y).2=none at he
 show RunOk c (match zbn c d now { begR x with mem:=remL c x.1 (zL (sortL c (goneR c x.1 ts))) x.2.2.1 } (zL (sortL c (goneR c x.1 ts))).reverse with
  |(r1,none)=>(match zeq c d now r1 ts with
    |(r2,none)=>enterP c d now r2 (zL (sortL c (zL (toR c (remL c x.1 (zL (sortL c (goneR c x.1 ts))) x.2.2.1) ts))))
    |y=>y)
  |y=>y).1/\za6 c (rcI (inR (match zbn c d now { begR x with mem:=remL c x.1 (zL (sortL c (goneR c x.1 ts))) x.2.2.1 } (zL (sortL c (goneR c x.1 ts))).reverse with
  |(r1,none)=>(match zeq c d now r1 ts with
    |(r2,none)=>enterP c d now r2 (zL (sortL c (zL (toR c (remL c x.1 (zL (sortL c (goneR c x.1 ts))) x.2.2.1) ts))))
    |y=>y)
  |y=>y).1))=true/\ ∀y,y∈(match zbn c d now { begR x with mem:=remL c x.1 (zL (sortL c (goneR c x.1 ts))) x.2.2.1 } (zL (sortL c (goneR c x.1 ts))).reverse with
  |(r1,none)=>(match zeq c d now r1 ts with
    |(r2,none)=>enterP c d now r2 (zL (sortL c (zL (toR c (remL c x.1 (zL (sortL c (goneR c x.1 ts))) x.2.2.1) ts))))
    |y=>y)
  |y=>y).1.act↔_
 generalize remL c x.1 (zL (sortL c (goneR c x.1 ts))) x.2.2.1=mem at*;obtain⟨k1,k2,k3,k4⟩:=zjM hA (l:=(zL (sortL c (goneR c x.1 ts))).reverse) hd hn (r:={ begR x with mem:=mem }) { hb0 with };rcases hX:zbn c d now { begR x with mem:=mem } (zL (sortL c (goneR c x.1 ts))).reverse with⟨r1,_|e⟩
 ·rw[hX]at he k1 k2 k3 k4;have k4:=k4 rfl;simp only at he k1 k2 k3 k4 |-;obtain⟨a1,a2⟩:=ztu hA hd hn (l:=ts) (r:=r1) hts k1;rcases hY:zeq c d now r1 ts with⟨r2,_|e⟩
  ·rw[hY]at he a1 a2;simp only at he a1 a2 |-;have ha:r2.act=x.1.filter fun k=> !(zL (sortL c (goneR c x.1 ts))).reverse.contains k:=a2.act.trans k4;have hrise:r2.act.Pairwise (· < ·):=by rw[ha];exact(zc4 hI.lg).rise.sublist List.filter_sublist
   obtain⟨n1,n2⟩:=zuE hA (l:=zL (sortL c (zL (toR c mem ts)))) hd hn a1 hrise;have n2:=n2 he
   have hce:(zaK c d now r2 [] (zL (sortL c (zL (toR c mem ts))))).1.2=none:=by
    cases hx:(zaK c d now r2 [] (zL (sortL c (zL (toR c mem ts))))).1.2 with
    |none=>rfl
    |some e=>rw[zsW hx,hx]at he;cases he
   obtain⟨l1,l2⟩:=leg r2 a1 ha hce;obtain⟨_,kc⟩:=ze6 hA (l:=zL (sortL c (zL (toR c mem ts)))) (f:=[]) hd hn a1 hrise;have kc:=kc hce;have hact:(enterP c d now r2 (zL (sortL c (zL (toR c mem ts))))).1.act=(zaK c d now r2 [] (zL (sortL c (zL (toR c mem ts))))).1.1.act:=zjq n2.rise kc.rise fun y=>by rw[n2.mem,kc.mem]
   refine⟨n1,zq3 n1 (by rw[hact];exact l1) (by rw[n2.mm,a2.mem,k2];exact hm) ?_,fun y=>by rw[hact];exact l2 y⟩
   have hin: ∀y∈(enterP c d now r2 (zL (sortL c (zL (toR c mem ts))))).1.act,inZ c y=true:=fun y hy=>by
    rw[hact]at hy;obtain⟨_,_,hz,_⟩:=(zc4 l1).of hy;exact hz
   rw[n2.over,a2.over,k3,zrx hin,Bool.eq_iff_iff];rw[zrx hz]at hov;have ho2:(begR x).over=false:=ho;show ((begR x).over||_)=true↔_;rw[ho2,Bool.false_or,List.any_eq_true,List.any_eq_true]
   have hno: ∀y∈r2.act,(zcX c y==3&&decide (parZ c y<0))=false:=fun y hy=>by
    rw[ha]at hy;exact Bool.eq_false_iff.2 fun q=>Bool.eq_false_iff.1 hov (List.any_eq_true.2 ⟨y,(List.mem_filter.1 hy).1,q⟩)
   constructor
   ·rintro⟨y,hy,q⟩;refine⟨y,(n2.mem y).2 (.inr hy),?_⟩;simp only[Bool.and_eq_true]at q |-;exact⟨q.1.2,q.2⟩
   ·rintro⟨y,hy,q⟩;rcases (n2.mem y).1 hy with hy|hy
    ·rw[hno y hy]at q;cases q
    ·refine⟨y,hy,?_⟩
     have hc:r2.act.contains y=false:=by
      cases hh:r2.act.contains y with
      |false=>rfl
      | true=>
        rw[hno y (List.contains_iff_mem.1 hh)]at q;cases q
     rw[hc];simpa using q
  ·rw[hY]at he;cases he
 ·rw[hX]at he;cases he
end
section
open Go.RowKit
end
section
open Go.RowKit
end
section
open Go.RowKit
end
section
open Go.RowKit
end
section
open Go.RowKit
end
section
open Go.RowKit
end
section
open Go.RowKit
end
section
open Go.RowKit
end
section
open Go.RowKit
end
section
open Go.RowKit
end
section
open Go.RowKit
end
section
open Go.RowKit Go.ChangeShapes Go.WideShapes Go.ChangeAt Go.Deep
def WB {H:Type} (P:Program) (t:TypeId) (d:DataW H):Prop:= ∀z∈DataW.weights P t d,z<=reachBytes
section
variable {H:Type} {enc:TypeId×Value->H} {P:Program} {w:World} {base:Nat} {spare:Nat->Bool} {held:Bool}
theorem znD {e:TypeId} {d:DataW H} : ∀ {l:List (DataW H)},d∈l-> ∀z∈DataW.weights P e d,z∈DataW.weightsAll P e l
 | a::r,h,z,hz=>by
   unfold DataW.weightsAll;rcases List.mem_cons.1 h with rfl|h
   ·exact List.mem_append_left _ hz
   ·exact List.mem_append_right _ (znD h z hz)
theorem WB.elem {t e:TypeId} {es rs:List (DataW H)} (ht:P.underlying t=some (.slice e)) (h:WB P t (.slice es rs)) {d:DataW H} (hd:d∈es):WB P e d:=fun z hz=>by
 refine h z ?_;unfold DataW.weights;rw[ht];exact List.mem_cons_of_mem _ (List.mem_append_left _ (znD hd z hz))
theorem WB.size {t e:TypeId} {es rs:List (DataW H)} (ht:P.underlying t=some (.slice e)) (h:WB P t (.slice es rs)):es.length*P.bytesOf e<=reachBytes:=by
 refine Nat.le_trans ?_ (h ((es.length+rs.length)*P.bytesOf e) ?_)
 ·exact Nat.mul_le_mul_right _ (Nat.le_add_right ..)
 ·unfold DataW.weights;rw[ht];exact List.mem_cons_self ..
theorem zgX: ∀ {ts:List TypeId} {l:List (DataW H)} {i:Nat} {t:TypeId} {d:DataW H},ts[i]? =some t->l[i]? =some d-> ∀z∈DataW.weights P t d,z∈DataW.weightsEach P ts l
 |t::ts,d::l,0,_,_,rfl,rfl,z,hz=>by unfold DataW.weightsEach;exact List.mem_append_left _ hz
 | t::ts,d::l,i+1,_,_,h1,h2,z,hz=>by
   unfold DataW.weightsEach;exact List.mem_append_right _ (zgX (i:=i) (by simpa using h1) (by simpa using h2) z hz)
 |[],_,i,_,_,h1,_,z,hz=>by simp at h1
 |_::_,[],i,_,_,_,h2,z,hz=>by simp at h2
theorem WB.part {t:TypeId} {fs:Array Field} {ps:List (DataW H)} (ht:P.underlying t=some (.struct fs)) (h:WB P t (.agg ps)) {i:Nat} {f:Field} {d:DataW H} (hf:fs[i]? =some f) (hd:ps[i]? =some d):WB P f.type d:=fun z hz=>by
 refine h z ?_;unfold DataW.weights;rw[ht];refine zgX (i:=i) ?_ hd z hz;rw[List.getElem?_map,Array.getElem?_toList,hf];rfl
theorem zps {α:Type} {t e:TypeId} {size fuel:Nat} {R:List Value->α->Prop} {cs:List Value} {x:DataW H×List MemPlace} (ht:P.underlying t=some (.slice e)) (hC:P.cellsOf e=size) (hpos:0<size)
 (hR: ∀(m:Nat) (cs:List Value) (y:DataW H×List MemPlace),DataW.trod enc P w base spare held m e cs=some y->WB P e y.1-> ∃a,R cs a) (hw:WB P t x.1)
 (h:DataW.trod enc P w base spare held fuel t cs=some x): ∃v l,cs=[v]/\zcU w w.heap.size size R v l:=by
 rcases open_slice ht h with⟨rfl,_⟩|⟨a,len,cap,m,n,D,Pl,rfl,hb,hl,hm,hmm,rfl,hx⟩
 ·exact⟨_,[],rfl,none,0,[],rfl,Nat.le_refl _,Nat.zero_le _,Reads.empty _ _ _ _,by simp,fun i hi=>by simp at hi⟩
 have hlm:len<=m:=by rw[hmm];split<;>omega
 rw[hC]at hx
 have hch: ∀i,∃cs':List Value,i<len->w.cells? base (a.add (i*size)) size=some cs'/\DataW.trod enc P w base spare held n e cs'=some (D i,Pl i):=fun i=>by
  by_cases hi:i<len
  ·obtain⟨cs',h1,h2⟩:=hx i (by omega);exact⟨cs',fun _=>⟨h1,h2⟩⟩
  ·exact⟨[],fun h=>absurd h hi⟩
 let f:Nat->List Value:=fun i=>(hch i).choose
 have hf: ∀i,i<len->w.cells? base (a.add (i*size)) size=some (f i)/\DataW.trod enc P w base spare held n e (f i)=some (D i,Pl i):=fun i hi=>(hch i).choose_spec hi;have hfl: ∀i,i<len->(f i).length=size:=fun i hi=>(World.cells?_some (hf i hi).1).2.1;obtain⟨l,hll,hl2⟩:=zrQ (n:=len) (p:=fun i a=>R (f i) a) fun i hi=>hR _ _ _ (hf i hi).2 (WB.elem ht hw (List.mem_map.2 ⟨i,List.mem_range.2 hi,rfl⟩));refine⟨_,l,rfl,some a,cap,(List.range len).flatMap f,by rw[hll],by omega,by omega,⟨by rw[hll,flat_len f size len hfl],fun hn=> ?_⟩,by rw[hll,flat_len f size len hfl],fun i hi=> ?_⟩
 ·rw[hll]at hn;have h0:=World.cells?_some (hf 0 hn).1;have hc0:=h0.2.2 0 hpos
  have hsp:a.spot=none:=by
   rw[Nat.zero_mul]at hc0;have:(f 0)[0]? =some ((f 0)[0]'(by rw[hfl 0 hn];exact hpos)):=List.getElem?_eq_getElem _;rw[this]at hc0;have e:(a.add 0).add 0=a:=rfl;rw[e]at hc0;unfold World.cell? at hc0;cases hs:a.spot with
   |none=>rfl
   | some s=>
     rw[hs]at hc0;split at hc0<;>simp at hc0
  obtain⟨b,off,sp⟩:=a;simp only at hsp;subst hsp
  have hcell: ∀j u,((List.range len).flatMap f)[j]? =some u->w.cell? ⟨b,off+j,none⟩=some u:=by
   intro j u hu
   have hj:j<len*size:=by
    rcases Nat.lt_or_ge j (len*size) with h|h
    ·exact h
    ·rw[List.getElem?_eq_none (by rw[flat_len f size len hfl];exact h)]at hu;cases hu
   have hq:j/size<len:=Nat.div_lt_of_lt_mul (by rw[Nat.mul_comm];exact hj);have hr:j%size<size:=Nat.mod_lt _ hpos;have hpart:=zeh f size len hfl (j/size) hq;have e:j=j/size*size+j%size:=by rw[Nat.mul_comm];exact(Nat.div_add_mod j size).symm
   have hget:(f (j/size))[j%size]? =some u:=by
    rw[<-hpart,List.getElem?_take,if_pos hr,List.getElem?_drop, <-e];exact hu
   have:=(World.cells?_some (hf _ hq).1).2.2 (j%size) hr;rw[hget,add_plain,add_plain,Nat.add_assoc, <-e]at this;exact this
  refine⟨b,off,rfl,?_,hcell⟩;have hx0:((List.range len).flatMap f)[0]? =some (((List.range len).flatMap f)[0]'(by rw[flat_len f size len hfl];exact Nat.mul_pos hn hpos)):=List.getElem?_eq_getElem _;exact World.block_lt_of_cell? w ⟨b,off+0,none⟩ (hcell 0 _ hx0)
 ·rw[zeh f size len hfl i (by omega)];exact hl2 i hi
end
section
variable {H:Type} {enc:TypeId×Value->H} {P:Program} {w:World} {base:Nat} {spare:Nat->Bool} {held:Bool}
theorem zfN {α:Type} {t e:TypeId} {size fuel:Nat} {cs:List Value} {x:DataW H×List MemPlace} (en:α->List AV) (few:α->Prop) (hen: ∀a,(en a).length=size) (ht:P.underlying t=some (.slice e)) (hC:P.cellsOf e=size) (hpos:0<size)
 (hR: ∀(m:Nat) (cs:List Value) (y:DataW H×List MemPlace),DataW.trod enc P w base spare held m e cs=some y->WB P e y.1-> ∃a,RE w en few cs a) (hw:WB P t x.1)
 (h:DataW.trod enc P w base spare held fuel t cs=some x): ∃(v:Value) (l:List α),cs=[v]/\(v.oneCell'=true/\RV (fun b _=>b<w.heap.size) w v (.seq size (l.map en)))/\(l.length<=maxLen/\l.length*P.bytesOf e<=reachBytes)/\ ∀a∈l,few a:=by
 obtain⟨v,l,e1,hl⟩:=zps (R:=RE w en few) ht hC hpos hR hw h;have hrv:=zrP en hen hl fun cs a _ hr j u c hu hc=>hr.1.at_.2 j u c hu hc;obtain⟨A,c,xs,rfl,_,h2,_,hrow⟩:=hl;refine⟨_,l,e1,⟨rfl,hrv⟩,⟨h2,?_⟩,fun a ha=> ?_⟩
 ·rcases DataW.trod_slice ht h with⟨e2,_⟩|⟨a,len,cap,elems,rest,n,_,e2,e3,_,_,_,hlen,_⟩
  ·rw[e1]at e2;have e4:l.length=0:=by injection e2 with q1 _;injection q1
   rw[e4,Nat.zero_mul];exact Nat.zero_le _
  ·rw[e1]at e2;have e4:l.length=len:=by injection e2 with q1 _;injection q1
   rw[e3]at hw;have:=hw.size ht;rw[List.length_map,hlen]at this;rw[e4];exact this
 ·obtain⟨i,hi,rfl⟩:=List.getElem_of_mem ha;exact(hrow.2 i hi).2
end
theorem zwT:prog.bytesOf 3=8:=by kernel_rfl
def zsB (m:MemD):Prop:=m.2.length<=maxLen/\m.2.length*8<=reachBytes
section
variable {H:Type} {enc:TypeId×Value->H} {w:World} {base:Nat} {spare:Nat->Bool} {held:Bool}
theorem zrA (m:Nat) (cs:List Value) (y:DataW H×List MemPlace) (h:DataW.trod enc prog w base spare held m 130 cs=some y) (hw:WB prog 130 y.1): ∃a:MemD,RE w mmAV zsB cs a:=by
 obtain⟨xs,n,_,hx,hl,hxl,hg⟩:=DataW.trod_struct Tryz.underlying130 h;rw[zwQ]at hl;obtain⟨c0,c1,rfl⟩:=zuh hl;obtain⟨y0,h0⟩:=zba hxl hg 0 _ rfl 3 0 1 rfl rfl c_int;obtain⟨x0,e0, -, -⟩:=DataW.trod_int Tryz.underlying3 (show DataW.trod enc prog w base spare held n 3 [c0]=some y0 from h0);cases e0;have hx2:xs.length=2:=hxl;obtain⟨y1,hy1⟩: ∃y1,xs[1]? =some y1:=⟨xs[1]'(by omega),List.getElem?_eq_getElem _⟩;obtain⟨y2,h1⟩:=zba hxl hg 1 _ rfl 27 1 1 rfl rfl zs8
 have h2:DataW.trod enc prog w base spare held n 27 [c1]=xs[1]? :=by
  have:=hg 1 _ rfl;exact this
 have h1:DataW.trod enc prog w base spare held n 27 [c1]=some y1:=h2.trans hy1;rw[hx]at hw;have hw1:WB prog 27 y1.1:=WB.part (i:=1) Tryz.underlying130 hw rfl (by rw[List.getElem?_map,hy1];rfl);obtain⟨x1,l1,e1,r1,⟨n1,n2⟩, -⟩:=zfN (size:=1) intAV (fun _=>True) (fun _=>rfl) Tryz.underlying27 c_int (by decide) (fun m cs y h _=>open_int1 m cs y h) hw1 h1;cases e1;rw[zwT]at n2;exact⟨(x0,l1),⟨⟨rfl, .lit _⟩,r1,trivial⟩,n1,n2⟩
end
end
section
open Go.RowKit Go.ChangeShapes Go.WideShapes Go.ChangeAt Go.Deep
theorem zw9:prog.bytesOf 86=24:=by kernel_rfl
theorem zwf:prog.cellsOf 33=13:=by kernel_rfl
def zj3 (x:InD):Prop:=zvo x/\(∀m∈x.2.2.1,m.2.length*8<=reachBytes)/\x.2.2.2.1.length*24<=reachBytes
theorem zwG {l:List Value} (h:l.length=13): ∃a b c d e f g i j k m n o,l=[a,b,c,d,e,f,g,i,j,k,m,n,o]:=by
 match l,h with
 |[a,b,c,d,e,f,g,i,j,k,m,n,o],_=>exact⟨a,b,c,d,e,f,g,i,j,k,m,n,o,rfl⟩
section
variable {H:Type} {enc:TypeId×Value->H} {w:World} {base:Nat} {spare:Nat->Bool} {held:Bool}
theorem zpt (m:Nat) (cs:List Value) (y:DataW H×List MemPlace) (h:DataW.trod enc prog w base spare held m 31 cs=some y) (hw:WB prog 31 y.1): ∃a:InD,RE w inE zj3 cs a:=by
 obtain⟨xs,n,_,hx,hl,hxl,hg⟩:=DataW.trod_struct Tryz.underlying31 h;rw[hx]at hw;have hxk:xs.length=5:=hxl;rw[zwR]at hl;obtain⟨c0,c1,c2,c3,c4,rfl⟩:=zvX hl;obtain⟨y0,h0⟩:=zba hxl hg 0 _ rfl 27 0 1 rfl rfl zs8;obtain⟨x0,l0,e0,r0,n0, -⟩:=zbt (size:=1) intAV (fun _=>True) (fun _=>rfl) Tryz.underlying27 c_int (by decide) open_int1 (show DataW.trod enc prog w base spare held n 27 [c0]=some y0 from h0);cases e0;obtain⟨y1,h1⟩:=zba hxl hg 1 _ rfl 27 1 1 rfl rfl zs8;obtain⟨x1,l1,e1,r1,n1, -⟩:=zbt (size:=1) intAV (fun _=>True) (fun _=>rfl) Tryz.underlying27 c_int (by decide) open_int1 (show DataW.trod enc prog w base spare held n 27 [c1]=some y1 from h1);cases e1;obtain⟨y2,hy2⟩: ∃z,xs[2]? =some z:=⟨xs[2]'(by omega),List.getElem?_eq_getElem _⟩
 have h2:DataW.trod enc prog w base spare held n 28 [c2]=some y2:=by
  have:=hg 2 _ rfl;exact Eq.trans (show DataW.trod enc prog w base spare held n 28 [c2]=xs[2]? from this) hy2
 have hw2:WB prog 28 y2.1:=WB.part (i:=2) Tryz.underlying31 hw rfl (by rw[List.getElem?_map,hy2];rfl);obtain⟨x2,l2,e2,r2,⟨n2, -⟩,p2⟩:=zfN (size:=2) mmAV zsB (fun _=>rfl) Tryz.underlying28 zwQ (by decide) zrA hw2 h2;cases e2;obtain⟨y3,hy3⟩: ∃z,xs[3]? =some z:=⟨xs[3]'(by omega),List.getElem?_eq_getElem _⟩
 have h3:DataW.trod enc prog w base spare held n 29 [c3]=some y3:=by
  have:=hg 3 _ rfl;exact Eq.trans (show DataW.trod enc prog w base spare held n 29 [c3]=xs[3]? from this) hy3
 have hw3:WB prog 29 y3.1:=WB.part (i:=3) Tryz.underlying31 hw rfl (by rw[List.getElem?_map,hy3];rfl);obtain⟨x3,l3,e3,r3,⟨n3,k3⟩,p3⟩:=zfN (size:=2) tmAV zow (fun _=>rfl) Tryz.underlying29 c_tm (by decide) (fun m cs y h _=>zvN m cs y h) hw3 h3;cases e3;rw[zw9]at k3;obtain⟨y4,h4⟩:=zba hxl hg 4 _ rfl 4 4 1 rfl rfl zwS;obtain⟨x4,e4, -⟩:=DataW.trod_bool Tryz.underlying4 (show DataW.trod enc prog w base spare held n 4 [c4]=some y4 from h4);cases e4;exact⟨(l0,l1,l2,l3,x4),⟨r0,r1,r2,r3,⟨rfl, .lit _⟩,trivial⟩,⟨⟨n0,n1⟩,⟨n2,fun m hm=>(p2 m hm).1⟩,n3,p3⟩,fun m hm=>(p2 m hm).2,k3⟩
theorem zpu {r0:Reach} {b0:Nat} {v:Value} {d:DataW H} {p:List MemPlace} (hv:Value.okWide prog w r0 b0 33 v) (hw:WB prog 33 d) (h:DataW.Trod enc prog w base spare held 33 v d p):
 ∃(c:ChD) (x:InD) (ev:List UInt8) (dt n:Int),zeP c/\zj3 x/\RV (fun b _=>b<w.heap.size) w v (.agg (zbD c x ev dt n)):=by
 obtain⟨cs,rfl,hsz⟩:=okWide_struct Tryz.underlying33 hv;obtain⟨l⟩:=cs;obtain⟨fuel,hf⟩:=h;obtain⟨xs,n,_,hx,hl,hxl,hg⟩:=DataW.trod_struct Tryz.underlying33 hf;rw[zwf]at hl;obtain⟨c0,c1,c2,c3,c4,c5,c6,c7,c8,c9,c10,c11,c12,rfl⟩:=zwG (show l.length=13 from hl);have hxk:xs.length=5:=hxl;have hd:d= .agg (xs.map (·.1)):=congrArg (·.1) hx;rw[hd]at hw;obtain⟨y0,h0⟩:=zba hxl hg 0 _ rfl 26 0 5 rfl rfl c_ch;obtain⟨c,q1,q2⟩:=zvO _ _ _ h0;obtain⟨y1,hy1⟩: ∃z,xs[1]? =some z:=⟨xs[1]'(by omega),List.getElem?_eq_getElem _⟩
 have h1:DataW.trod enc prog w base spare held n 31 [c5,c6,c7,c8,c9]=some y1:=by
  have:=hg 1 _ rfl;exact Eq.trans (show DataW.trod enc prog w base spare held n 31 [c5,c6,c7,c8,c9]=xs[1]? from this) hy1
 have hw1:WB prog 31 y1.1:=WB.part (i:=1) Tryz.underlying33 hw rfl (by rw[List.getElem?_map,hy1];rfl);obtain⟨x,k1,k2⟩:=zpt _ _ _ h1 hw1;obtain⟨y2,h2⟩:=zba hxl hg 2 _ rfl 9 10 1 rfl rfl zdM;obtain⟨x2,e2, -,s2⟩:=DataW.trod_string Tryz.underlying9 (show DataW.trod enc prog w base spare held n 9 [c10]=some y2 from h2);cases e2;obtain⟨⟨t2⟩⟩:=x2;obtain⟨y3,h3⟩:=zba hxl hg 3 _ rfl 3 11 1 rfl rfl c_int;obtain⟨x3,e3, -, -⟩:=DataW.trod_int Tryz.underlying3 (show DataW.trod enc prog w base spare held n 3 [c11]=some y3 from h3);cases e3;obtain⟨y4,h4⟩:=zba hxl hg 4 _ rfl 3 12 1 rfl rfl c_int;obtain⟨x4,e4, -, -⟩:=DataW.trod_int Tryz.underlying3 (show DataW.trod enc prog w base spare held n 3 [c12]=some y4 from h4);cases e4;exact⟨c,x,t2,x3,x4,q2,k2,RVs.agg (show RVs _ w ([c0,c1,c2,c3,c4]++([c5,c6,c7,c8,c9]++[.string ⟨⟨t2⟩⟩, .int .i64 x3, .int .i64 x4])) (chAV c++(inE x++[Sg t2,I x3,I x4])) from RVs.app q1 (RVs.app k1 ⟨⟨rfl, .lit _⟩,⟨rfl, .lit _⟩,⟨rfl, .lit _⟩,trivial⟩))⟩
end
end
section
open Go.RowKit
theorem zmS (env:Env) (c:ChD) (h:zhK c=false):Con prog env 6 [.agg (chAV c)] (.lit (.pointer none)):=by
 have f0:=zeZ env c;have f1:=zfL env c;unfold zhK at h;cases h1:zht c
 ·rw[h1]at f0;refine qf func6 call6 ntmps6 results6 ?_;repeat refine tz02 f0 f1 ?_
  exact aR0
 rw[h1]at f0;rw[h1,Bool.true_and]at h;rw[h]at f1;refine qf func6 call6 ntmps6 results6 ?_;repeat refine tz02 f0 f1 ?_
 exact aR0
theorem zut {x:InD} (h:zj3 x):(∀m∈x.2.2.1,Fits m.2.length 8)/\Fits x.2.2.2.1.length 24:=⟨fun m hm=>⟨Nat.le_trans (h.2.1 m hm) (by decide),zil (h.1.2.1.2 m hm)⟩,Nat.le_trans h.2.2 (by decide),zil h.1.2.2.1⟩
def rdyI (c:ChD) (x:InD) (d:Int):Int:=if za6 c (rcI x)=false then 1 else if x.2.2.2.2=true then 7 else if zai d=false then 1 else 0
theorem zmy (env:Env) (c:ChD) (h:Full c) (x:InD) (hL:LiteI (rcI x)) (hF: ∀m∈x.2.2.1,Fits m.2.length 8) (ev:List UInt8) (d n:Int):Con prog env 8 [.agg (zbD c x ev d n)] (I (rdyI c x d)):=by
 have f0:=zkR env c h (rcI x) hL hF;have f1:=zfh env d;rw[zr8]at f0;unfold rdyI;unfold chAV inE at f0;cases h1:za6 c (rcI x) with
 | false=>
   rw[h1]at f0;show Con _ _ _ _ (I 1);refine qf func8 call8 ntmps8 results8 ?_;have F:=zbD.eq_1;repeat refine tz1 f0 ?_
   exact aR
 |true=>
 rw[h1]at f0;cases h2:x.2.2.2.2 with
 | true=>
   rw[h2]at f0;show Con _ _ _ _ (I 7);refine qf func8 call8 ntmps8 results8 ?_;have F:=ai zbD.eq_1 h2;repeat refine tz1 f0 ?_
   exact aR
 |false=>
 rw[h2]at f0;cases h3:zai d with
 | false=>
   rw[h3]at f1;show Con _ _ _ _ (I 1);refine qf func8 call8 ntmps8 results8 ?_;have F:=ai zbD.eq_1 h2;repeat refine tz2 f0 f1 ?_
   exact aR
 | true=>
   rw[h3]at f1;show Con _ _ _ _ (I 0);refine qf func8 call8 ntmps8 results8 ?_;have F:=ai zbD.eq_1 h2;repeat refine tz2 f0 f1 ?_
   exact aR
theorem zu0 {c:ChD} {x:InD} {d:Int} (hb:za6 c (rcI x)=true) (hd:zai d=true) (hl:x.1.length<=60):Asked c x d:=by
 unfold za6 at hb;simp only[Bool.and_eq_true,beq_iff_eq]at hb;obtain⟨⟨⟨⟨⟨b1,b2⟩,b3⟩,b4⟩,b5⟩,b6⟩:=hb;exact⟨by omega,b3,List.all_eq_true.1 b6,hd,b1⟩
end
section
open Go.RowKit
theorem zpg (env:Env) (l:List MemD) (hl:l.length<=9223372036854775807) (hm: ∀m∈l,m.2.length<=9223372036854775807):Con prog env 37 [.seq 2 (l.map mmAV), .seq 2 (l.map mmAV)] (B true):=by
 refine qf func37 call37 ntmps37 results37 ?_;repeat refine st0 ?_
 refine zab (D:=Nat) (fun j vs=>[(0, .seq 2 (l.map mmAV)),(1, .seq 2 (l.map mmAV)),(5,I j)]) (fun _ _=>[]) (fun j _ _=>j<=l.length) (fun j=>l.length-j) 0 ?_ ?_ ?_ ?_
 ·exact Nat.zero_le _
 ·(simp only[go_sem])
  try rfl
 ·(simp only[go_sem])
  try rfl
 rintro j ws esc hj;by_cases hlt:j<l.length
 ·obtain⟨x,hx⟩:=gE hlt;have q1:=nlt hlt;have q2:=zaa hlt (by omega);have hxl:=hm x (List.mem_of_getElem? hx);have F:=ai3 mmAV.eq_1 hx q1;repeat refine st ?_
  refine zab (D:=Nat) (fun k vs=>[(0, .seq 2 (l.map mmAV)),(1, .seq 2 (l.map mmAV)),(5,I j),(6,I k)]) (fun _ _=>[]) (fun k _ _=>k<=x.2.length) (fun k=>x.2.length-k) 0 ?_ ?_ ?_ ?_
  ·exact Nat.zero_le _
  ·(simp only[go_sem,F])
   try rfl
  ·(simp only[go_sem,F])
   try rfl
  rintro k us es hk;by_cases hlt2:k<x.2.length
  ·obtain⟨y,hy⟩:=gE hlt2;have p1:=nlt hlt2;have p2:=zaa hlt2 (by omega);have F:=ai7 mmAV.eq_1 intAV.eq_1 hx hy q1 p1 p2;repeat refine st ?_
   refine⟨k+1,hlt2,?_,?_,by omega⟩
   ·exact qe
   ·exact qe
  ·obtain rfl:k=x.2.length:=by omega
   have p1:=nl x.2.length;have F:=ai5 mmAV.eq_1 hx q1 q2 p1;repeat refine st ?_
   refine⟨j+1,hlt,?_,?_,by omega⟩
   ·exact qe
   ·exact qe
 ·obtain rfl:j=l.length:=by omega
  have q1:=nl l.length;have F:=q1;repeat refine st ?_
  exact aR
theorem zmz (env:Env) (A V:List Int) (x:InD) (h:zvo x) (hA:A.length=x.1.length) (hV:V.length=x.2.1.length):Con prog env 11 [.agg (inE (A,V,x.2.2)), .agg (inE x)] (B ((A==x.1)&&(V==x.2.1))):=by
 have h0:maxLen=9223372036854775807:=rfl;have f0:=zpg env x.2.2.1 (h0 ▸ h.2.1.1) fun m hm=>h0 ▸ h.2.1.2 m hm;have hT:x.2.2.2.1.length<=9223372036854775807:=h0 ▸ h.2.2.1;have hA2:x.1.length<=9223372036854775807:=h0 ▸ h.1.1;have hV2:x.2.1.length<=9223372036854775807:=h0 ▸ h.1.2;have k1:((A.length:Int) != (x.1.length:Int))=false:=by simp[hA]
 have k2:((V.length:Int) != (x.2.1.length:Int))=false:=by simp[hV]
 refine qf func11 call11 ntmps11 results11 ?_;have F:=ai3 inE.eq_1 k1 k2;repeat refine tz1 f0 ?_
 refine zab (D:=Nat) (fun i vs=>[(2, .loc 2 (vs 2) 0 0),(3, .loc 3 (vs 3) 0 0),(5,I i)]) (fun _ _=>[(2,⟨5,[inE (A,V,x.2.2)],31,false⟩),(3,⟨5,[inE x],31,false⟩)]) (fun i _ _=>i<=x.2.2.2.1.length) (fun i=>x.2.2.2.1.length-i) 0 ?_ ?_ ?_ ?_
 ·exact Nat.zero_le _
 ·exact qe
 ·have F:=inE.eq_1;exact qe
 rintro i ws esc hi;by_cases hlt:i<x.2.2.2.1.length
 ·obtain⟨t,ht⟩:=gE hlt;have q1:=nlt hlt;have q2:=zaa hlt (by omega);have F:=ai5 inE.eq_1 tmAV.eq_1 q1 q2 ht;repeat refine st ?_
  refine⟨i+1,hlt,?_,?_,by omega⟩
  ·exact qe
  ·have F:=inE.eq_1;exact qe
 have q1: ¬(i:Int)< (x.2.2.2.1.length:Int):=by omega
 have F:=ai inE.eq_1 q1;repeat refine st ?_
 try clear hi hlt q1
 refine zab (D:=Nat) (fun i vs=>[(2, .loc 2 (vs 2) 0 0),(3, .loc 3 (vs 3) 0 0),(6,I i)]) (fun _ _=>[(2,⟨5,[inE (A,V,x.2.2)],31,false⟩),(3,⟨5,[inE x],31,false⟩)]) (fun i _ _=>i<=A.length/\A.take i=x.1.take i) (fun i=>A.length-i) 0 ?_ ?_ ?_ ?_
 ·exact⟨Nat.zero_le _,rfl⟩
 ·exact qe
 ·have F:=inE.eq_1;exact qe
 try clear ws esc
 rintro i ws esc ⟨hi,ht⟩;by_cases hlt:i<A.length
 ·obtain⟨u,hu,_⟩:=zak hlt;obtain⟨v,hv,_⟩:=zak (show i<x.1.length by omega);have q1:=nlt hlt;have q3:=nlt (show i<x.1.length by omega);have q2:=zaa hlt (by omega);cases e:(u==v)
  ·rw[zku hu hv (by simpa using e)];have F:=ai9 inE.eq_1 intAV.eq_1 q1 q2 q3 hu hv e bneA;repeat refine st ?_
   exact aR
  ·have F:=ai9 inE.eq_1 intAV.eq_1 q1 q2 q3 hu hv e bneA;repeat refine st ?_
   refine⟨i+1,⟨hlt,take_same ht hu hv (by simpa using e)⟩,?_,?_,by omega⟩
   ·exact qe
   ·have F:=inE.eq_1;exact qe
 have q1: ¬(i:Int)< (A.length:Int):=by omega
 rw[znN ht (by omega) (by omega),Bool.true_and];have F:=ai inE.eq_1 q1;repeat refine st ?_
 try clear hi hlt q1 ht
 refine zab (D:=Nat) (fun i vs=>[(2, .loc 2 (vs 2) 0 0),(3, .loc 3 (vs 3) 0 0),(7,I i)]) (fun _ _=>[(2,⟨5,[inE (A,V,x.2.2)],31,false⟩),(3,⟨5,[inE x],31,false⟩)]) (fun i _ _=>i<=V.length/\V.take i=x.2.1.take i) (fun i=>V.length-i) 0 ?_ ?_ ?_ ?_
 ·exact⟨Nat.zero_le _,rfl⟩
 ·exact qe
 ·have F:=inE.eq_1;exact qe
 try clear ws esc
 rintro i ws esc ⟨hi,ht⟩;by_cases hlt:i<V.length
 ·obtain⟨u,hu,_⟩:=zak hlt;obtain⟨v,hv,_⟩:=zak (show i<x.2.1.length by omega);have q1:=nlt hlt;have q3:=nlt (show i<x.2.1.length by omega);have q2:=zaa hlt (by omega);cases e:(u==v)
  ·rw[zku hu hv (by simpa using e)];have F:=ai9 inE.eq_1 intAV.eq_1 q1 q2 q3 hu hv e bneA;repeat refine st ?_
   exact aR
  ·have F:=ai9 inE.eq_1 intAV.eq_1 q1 q2 q3 hu hv e bneA;repeat refine st ?_
   refine⟨i+1,⟨hlt,take_same ht hu hv (by simpa using e)⟩,?_,?_,by omega⟩
   ·exact qe
   ·have F:=inE.eq_1;exact qe
 have q1: ¬(i:Int)< (V.length:Int):=by omega
 rw[znN ht (by omega) (by omega)];have F:=ai inE.eq_1 q1;repeat refine st ?_
 exact aR
end
section
open Go.RowKit
end
section
open Go.RowKit
theorem zjF {c:ChD} (h:Full c) {mem:List MemD} (hm:zbd c mem=true):mem.length<=32/\ ∀m∈mem,Fits m.2.length 8:=
 ⟨Nat.le_trans (zmK (zvf hm)) h.few,fun m hm'=>zae (Nat.le_trans (zmM h hm m hm').2 (by decide)) (by omega)⟩
theorem zsv {c:ChD} (h:Full c) {act:List Int} {f:List Nat} (hF:Fit c act f):f.length<=64:=by
 have hnd:f.Nodup:=hF.two.imp fun h=>h.1
 have:=hnd.length_le_of_subset (l₂:=List.range c.trans.length) fun n hn=>by
  obtain⟨t,ht,_⟩:=hF.real n hn;exact List.mem_range.2 (List.getElem?_eq_some_iff.1 ht).1
 have hftr:=h.ftr;simp at this;omega
theorem zvn {c:ChD} {act:List Int} {f:List Nat} (hF:Fit c act f): ∀n∈f,∃t,c.trans[n]? =some t:=fun n hn=>by
 obtain⟨t,ht,_⟩:=hF.real n hn;exact⟨t,ht⟩
theorem zh8 (env:Env) (a1 a2 a8:Addr) (c:ChD) (d now:Int) (E:RunEnv env a1 a2 a8 c d now) (x:InD) (hI:InstOk c x) (hA:x.1.length<=100) (hV:x.2.1.length<=4096) (hT:Fits x.2.2.2.1.length 24) (ts:List Nat) (hf:Fit c x.1 ts) (fr:Con prog env 29 [Sg [109,105,99,114,111,46,83,116,101,112],zah c, .agg (inE x),I d] nilE):
 Con prog env 10 [zah c, .agg (inE x), .seq 1 (ts.map zac),I d,I now] (zkC a2 a8 (stepP c d now (begR x) ts)):=by
 obtain⟨m1,m2⟩:=zjF E.h hI.mem;obtain⟨_,hmem⟩:=zdz E.h hI.lg hI.mem (zlm E.h hI.lg hf);obtain⟨m3,m4⟩:=zjF E.h hmem;have htl:=zsv E.h hf
 exact ztx env a1 a2 a8 c d now E x hA hV (by omega) m2 hT ts fr (zv6 env a1 a8 E.he c E.h E.hs d now (begR x) (show x.1.length<=1000 by omega) hI.lg ts hf (by omega))
  (ztM env a1 a2 a8 c d now E (begR x) hI.beg hA hI.lg hI.mem (show x.2.2.1.length<=1000000 by omega) m2 ts (zvn hf) htl (zlm E.h hI.lg hf) hmem ⟨show (remL c x.1 (zL (sortL c (goneR c x.1 ts))) x.2.2.1).length<=1000000 by omega,m4⟩ fun r2 k1 k2 k3=>(znJ E.h hI.lg hf E.hd E.hn hmem k1 k2 k3).1)
structure RunFew (c:ChD) (r:RunD):Prop where
 act:r.act.length<=100
 vars:r.vars.length<=8
 mem:r.mem.length<=32
 mems: ∀m∈r.mem,Fits m.2.length 8
 tms:r.tms.length<=8
 nms: ∀t∈r.tms,t.1.length<=32
theorem zvH {c:ChD} (h:Full c) (hv:c.vars.length<=8) {r:RunD} (hr:RunOk c r) (hi:za6 c (rcI (inR r))=true):RunFew c r:=by
 have hI:=zjS hi;have hal:=zug hI.lg;have hfew:=h.few;obtain⟨m1,m2⟩:=zjF h hI.mem;have hal:r.act.length<=c.states.length:=hal
 exact⟨by omega,by rw[hr.len];exact hv,m1,m2,hr.tml,fun t ht=>by
  have:=(hr.tms.each t ht).1;unfold zbi at this;simp only[Bool.and_eq_true,decide_eq_true_eq]at this
  exact this.1.1⟩
theorem ztX {c:ChD} {x:InD} {d:Int} (h:rdyI c x d=0):za6 c (rcI x)=true/\x.2.2.2.2=false/\zai d=true:=by
 unfold rdyI at h;split at h
 ·cases h
 rename_i h1;split at h
 ·cases h
 rename_i h2;split at h
 ·cases h
 rename_i h3;exact⟨by simpa using h1,by simpa using h2,by simpa using h3⟩
end
section
open Go.RowKit
def x0M:InD:=([0],[],[],[],false)
theorem znA:za6 wakeM (rcI x0M)=true:=by decide+kernel
theorem zqw:zsy wakeM 0=(begR x0M,none):=by kernel_rfl
theorem ztC:zpZ wakeM x0M.1 (woX wakeM x0M.1 x0M.2.1 0) [120] (innL wakeM [0])= .ok [0]:=by kernel_rfl
theorem ztB:stepP wakeM 0 0 (begR x0M) [0]=(⟨[1],[],[],[],false,[],[]⟩,none):=by kernel_rfl
theorem zvB:Fit wakeM x0M.1 [0]:=⟨fun n hn=>⟨⟨0,[120],[],[],1⟩,by rw[List.mem_singleton.1 hn];rfl,List.mem_singleton.2 rfl⟩,List.pairwise_singleton ..⟩
theorem ziA (env:Env) (n:List UInt8):Con prog env 28 [Sg n] (.agg [Sg n,I 1,I (-1),I (-1),nilS,nilS]):=by
 refine qf func28 call28 ntmps28 results28 ?_;repeat refine st0 ?_
 exact aR0
theorem zqh (env:Env) (a1 a2 a8:Addr) (he:ChEnv env a1 a8) (h2:env 2=some (sentV a2)) (hT: ∀W,env.inv W->TabAt W):Con prog env 9 [] (B true):=by
 have h0:(chk wakeM).1=0:=by rw[zks]
 have h:=full_of h0;have hs:=zjn h0;have E:RunEnv env a1 a2 a8 wakeM 0 0:=⟨he,h2,h,hs,rfl,by omega⟩;have hI:=zjS znA;have rdy:=fun op=>zkN env a1 a8 he wakeM h hs x0M ⟨by simp[rcI,x0M],by simp[rcI,x0M],by simp[rcI,x0M],by simp[rcI,x0M]⟩ (by simp[x0M]) (by simp[x0M]) op 0 znA rfl rfl;have f0:=(zkz env a1 a8 he hT wakeM zks zqA).args zqy;have f1:=zqo env a1 a2 a8 wakeM 0 E (by simp[wakeM]);have f2:=zia env a1 a2 a8 he h2 wakeM h hs x0M 0 ⟨by simp[x0M],rfl,by simp[x0M],rfl,zqz⟩ [120] (rdy _) [0] rfl (by simp[wakeM]);have f3:=zh8 env a1 a2 a8 wakeM 0 0 E x0M hI (by simp[x0M]) (by simp[x0M]) (zae (by simp[x0M]) (by omega)) [0] zvB (rdy _);rw[zqw]at f1;rw[ztC]at f2;rw[ztB]at f3
 have f4:Con prog env 20 [.seq 1 [[I 1]], .seq 1 [[I 1]]] (B true):=by
  have:=zkI env [1] [1] (by decide);rw[decide_eq_true rfl]at this;exact this
 have p1:=ziA env [97];have p2:=ziA env [98];unfold zqB at f0;unfold zov at f1;unfold begR at f1;unfold enAV at f2;unfold zkC at f3;unfold inE at f2 f3;unfold x0M at f1 f2 f3;simp only[List.map_nil,List.map_cons]at f1 f2 f3;unfold ints34 at f1 f2 f3;unfold zah at f0 f1 f2 f3;generalize tabCells wakeM=T at*;refine qf func9 call9 ntmps9 results9 ?_;repeat refine tz07 p1 p2 f0 f1 f2 f3 f4 ?_
 exact aR0
end

end Go.Proofs.YtbpmkofnfgdegaaGreatDoor