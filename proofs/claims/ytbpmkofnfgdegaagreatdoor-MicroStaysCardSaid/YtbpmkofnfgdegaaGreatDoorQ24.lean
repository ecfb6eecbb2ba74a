/- An instance in the midst of a step: actions. -/
import Derived.Test.YtbpmkofnfgdegaaGreatDoorQ23
import Derived.Test.YtbpmkofnfgdegaaGreatDoorQ19
import Derived.Test.YtbpmkofnfgdegaaGreatDoorQ21
import Derived.Test.YtbpmkofnfgdegaaGreatDoorQ8
import Derived.Test.YtbpmkofnfgdegaaGreatDoorQ6
import Derived.Test.YtbpmkofnfgdegaaGreatDoorQ20
import Derived.Test.YtbpmkofnfgdegaaGreatDoorQ13
import Derived.Test.YtbpmkofnfgdegaaGreatDoorQ14
import Derived.Test.YtbpmkofnfgdegaaGreatDoorQ22
import Derived.Test.YtbpmkofnfgdegaaGreatDoorQ16
import Derived.Test.YtbpmkofnfgdegaaGreatDoorQ11
import Derived.Test.YtbpmkofnfgdegaaGreatDoorQ10
set_option maxRecDepth 100000
set_option maxHeartbeats 16000000
set_option linter.unusedSimpArgs false
namespace Go.Proofs.YtbpmkofnfgdegaaGreatDoor
open Go.Proofs.Tryz
section
open Go.RowKit
def encT (p:List UInt8×Int):List Value:=[.string ⟨p.1.toArray⟩, .int .i64 p.2]
theorem zn9 (l:List (List UInt8×Int)):zaL (l.map encT)=l.map tmAV:=by simp[zaL,encT,tmAV,Sg,I]
theorem zjU (x:List UInt8×Int): ∀l,(insT x l).Perm (l++[x])
 |[]=> .refl _
 | y::l=>by
   unfold insT;split
   ·exact(List.perm_append_comm (l₁:=[x]) (l₂:=y::l))
   ·exact(zjU x l).cons y
theorem zuo {x:List UInt8×Int} {l:List (List UInt8×Int)} (h:l.Pairwise fun a b=>Op.bytesLess a.1 b.1=true) (hn: ∀y∈l,y.1≠x.1):(l++[x]).mergeSort (fun x y=> !Op.bytesLess y.1 x.1)=insT x l:=by
 have h1:=zjT h hn
 have h3:((l++[x]).mergeSort fun x y=> !Op.bytesLess y.1 x.1).Pairwise fun x y=>(!Op.bytesLess y.1 x.1)=true:=List.pairwise_mergeSort (fun a b c hab hbc=>by
  simp only[Bool.not_eq_true']at*;cases k:Op.bytesLess c.1 a.1
  ·rfl
  ·cases k2:Op.bytesLess b.1 a.1
   ·cases k3:Op.bytesLess a.1 b.1
    ·rw[<-zcz k3 k2,k]at hbc;cases hbc
    ·rw[zcy k k3]at hbc;cases hbc
   ·rw[k2]at hab;cases hab) (fun a b=>by
  cases k:Op.bytesLess b.1 a.1
  ·simp
  ·rw[zke k];simp) (l++[x])
 refine(List.Perm.eq_of_pairwise (le:=fun x y=>(!Op.bytesLess y.1 x.1)=true) ?_ (h1.imp fun {a b} h=>by simp[zke h]) h3 ((zjU x l).trans (List.mergeSort_perm _ _).symm)).symm;intro a b ha hb h4 h5;have e:a.1=b.1:=zcz (by simpa using h5) (by simpa using h4);by_cases hab:a=b
 ·exact hab
 exfalso
 obtain⟨i,hi,ea⟩:=List.getElem_of_mem ha;obtain⟨j,hj,eb⟩:=List.getElem_of_mem (((zjU x l).trans (List.mergeSort_perm _ _).symm).mem_iff.2 hb);have hp:=List.pairwise_iff_getElem.1 h1;rcases Nat.lt_trichotomy i j with hij|hij|hij
 ·have:=hp i j hi hj hij;rw[ea,eb,e,zcS]at this;cases this
 ·subst hij;exact hab (ea.symm.trans eb)
 ·have:=hp j i hj hi hij;rw[ea,eb,e,zcS]at this;cases this
theorem zwI {x:List UInt8×Int} {l:List (List UInt8×Int)} (h:l.Pairwise fun a b=>Op.bytesLess a.1 b.1=true) (hn: ∀y∈l,y.1≠x.1):(l++[x]).Pairwise fun x y=>x.1≠y.1:=by
 rw[List.pairwise_append];refine⟨h.imp (fun {a b} h e=>by rw[e,zcS]at h;cases h),List.pairwise_singleton _ _,fun a ha b hb=> ?_⟩;obtain rfl:=List.mem_singleton.1 hb;exact hn a ha
section
open Go.Shelf Go.Lib Go.Sort
theorem zv1: ∀w,(isAgg 86).run prog w= .ok true w:=fun w=>by kernel_rfl
theorem ztR: ∀w,(Go.sizeOf 86).run prog w= .ok 2 w:=fun w=>by kernel_rfl
def cfT (x y:List UInt8):Int:=if Op.bytesLess x y then -1 else 1
theorem zuQ (a:List UInt8) (b:Int) (c:List UInt8) (d:Int) (W:World):Calls prog 236 #[.agg #[.string ⟨a.toArray⟩, .int .i64 b], .agg #[.string ⟨c.toArray⟩, .int .i64 d]] W fun e w'=>e= .returned (.int .i64 (cfT a c))/\ ∃q os',w'=grow (W.drewN q) os':=by
 unfold cfT;by_cases h:Op.bytesLess a c=true
 ·rw[if_pos h]
  go_enter func236,ntmps236
  go_wp2_with fail
  go_ret
  exact⟨rfl,0,_,by rw[alloc_eq_grow,alloc_eq_grow,grow_grow];rfl⟩
 ·have h:Op.bytesLess a c=false:=by simpa using h
  rw[if_neg (by rw[h];simp)]
  go_enter func236,ntmps236
  go_wp2_with fail
  go_ret
  exact⟨rfl,0,_,by rw[alloc_eq_grow,alloc_eq_grow,grow_grow];rfl⟩
theorem zkx (ps:List (List UInt8×Int)) (hd:ps.Pairwise (fun x y=>x.1≠y.1)) (hl:ps.length<=1000) (h0:ps≠[]):
 Turns prog 235 [.func (.func 236) #[] #[]] 86 2 (ps.map encT) ((ps.mergeSort fun x y=> !Op.bytesLess y.1 x.1).map encT):=by
 have ef:=call235;have hpos:0<ps.length:=List.length_pos_iff.2 h0
 haveI:Inhabited {p // p∈ps} :=⟨⟨ps[0],List.getElem_mem hpos⟩⟩
 have hlt: ∀x y: {p // p∈ps},ltOf (fun x y: {p // p∈ps} =>cfT x.1.1 y.1.1) x y=Op.bytesLess x.1.1 y.1.1:=fun x y=>by
  unfold ltOf cfT;cases k:Op.bytesLess x.1.1 y.1.1<;>simp[k]
 have hswo:SWO (ltOf fun x y: {p // p∈ps} =>cfT x.1.1 y.1.1):=by
  refine⟨fun x=> ?_,fun x y z h1 h2=> ?_,fun x y z h1 h2=> ?_⟩
  ·rw[hlt];exact zcS _
  ·rw[hlt]at*;exact zcy h1 h2
  ·rw[hlt]at*;cases k:Op.bytesLess x.1.1 z.1.1
   ·rfl
   ·cases k2:Op.bytesLess y.1.1 x.1.1
    ·rw[zcz h1 k2]at k;rw[k]at h2;cases h2
    ·rw[zcy k2 k]at h2;cases h2
 have hT: ∀x y: {p // p∈ps},ltOf (fun x y: {p // p∈ps} =>cfT x.1.1 y.1.1) x y=false->ltOf (fun x y: {p // p∈ps} =>cfT x.1.1 y.1.1) y x=false->x=y:=fun x y h1 h2=>by
  rw[hlt]at h1 h2;have e:=zcz h1 h2;obtain⟨i,hi,hxi⟩:=List.getElem_of_mem x.2;obtain⟨j,hj,hyj⟩:=List.getElem_of_mem y.2;have hp:=List.pairwise_iff_getElem.1 hd;apply Subtype.ext;rw[<-hxi, <-hyj]at e |-;rcases Nat.lt_trichotomy i j with hij|hij|hij
  ·exact absurd e (hp i j hi hj hij)
  ·subst hij;rfl
  ·exact absurd e.symm (hp j i hj hi hij)
 have hs:=zid (e:=86) Tryz.sortTm 2 zv1 ztR (fun x: {p // p∈ps} =>encT x.1) (fun _=>rfl) (fun x v hv=>by simp[encT]at hv;rcases hv with rfl|rfl<;>rfl) (fun x y=>cfT x.1.1 y.1.1) hswo 236 #[] ps.attach (by simpa using hpos) (by simp;omega) ef call236
  (fun blk w m os dk _ x y=>zuQ _ _ _ _ _) hT
 have e1:ps.attach.map (fun x: {p // p∈ps} =>encT x.1)=ps.map encT:=by
  rw[show (fun x: {p // p∈ps} =>encT x.1)=encT ∘ Subtype.val from rfl, <-List.map_map,List.attach_map_subtype_val]
 have e2:(ps.attach.mergeSort fun x y=> !ltOf (fun x y: {p // p∈ps} =>cfT x.1.1 y.1.1) y x).map (fun x: {p // p∈ps} =>encT x.1)=(ps.mergeSort fun x y=> !Op.bytesLess y.1 x.1).map encT:=by
  rw[show (fun x: {p // p∈ps} =>encT x.1)=encT ∘ Subtype.val from rfl, <-List.map_map]
  congr 1
  rw[List.map_mergeSort (s:=fun x y:List UInt8×Int=> !Op.bytesLess y.1 x.1) (fun a _ b _=>by simp only[hlt]),List.attach_map_subtype_val]
 rw[e1,e2]at hs;exact hs
theorem zqI (x:List UInt8×Int) (l:List (List UInt8×Int)) (h:l.Pairwise fun a b=>Op.bytesLess a.1 b.1=true) (hn: ∀y∈l,y.1≠x.1) (hl:l.length<=100):
 Turns prog 235 [.func (.func 236) #[] #[]] 86 2 ((l++[x]).map encT) ((insT x l).map encT):=by
 rw[<-zuo h hn];exact zkx _ (zwI h hn) (by simp;omega) (by simp)
end
end
section
open Go.RowKit
def posM:List MemD->Int->Nat
 |[],_=>0
 |x::r,h=>if x.1<h then posM r h+1 else 0
theorem zmE (h:Int): ∀l:List MemD,posM l h<=l.length
 |[]=>Nat.le_refl _
 | x::r=>by
   unfold posM;split
   ·have:=zmE h r;simp only[List.length_cons];omega
   ·exact Nat.zero_le _
theorem zrm {h:Int} : ∀ {l:List MemD},Srt l-> ∀ {j:Nat} {y:MemD},l[j]? =some y->(j<posM l h↔y.1<h)
 |[],_,j,y,hy=>by simp at hy
 | x::r,hs,j,y,hy=>by
   obtain⟨h1,h2⟩:=List.pairwise_cons.1 hs;unfold posM;by_cases hx:x.1<h
   ·rw[if_pos hx];cases j with
    | zero=>
      simp only[List.getElem?_cons_zero,Option.some.injEq]at hy;subst hy;exact⟨fun _=>hx,fun _=>by omega⟩
    | succ j=>
      rw[List.getElem?_cons_succ]at hy;have:=zrm (h:=h) h2 hy;omega
   ·rw[if_neg hx];refine⟨fun h=>by omega,fun hyl=> ?_⟩;cases j with
    | zero=>
      simp only[List.getElem?_cons_zero,Option.some.injEq]at hy;subst hy;exact absurd hyl hx
    | succ j=>
      rw[List.getElem?_cons_succ]at hy;have:=h1 y (List.mem_of_getElem? hy);omega
def isM (l:List MemD) (h:Int):Bool:=match l[posM l h]? with
 |some y=>y.1==h
 |none=>false
theorem znW {m:MemD} : ∀ {l:List MemD},isM l m.1=true->putM l m=l.set (posM l m.1) m
 |[],h=>by simp[isM]at h
 | x::r,h=>by
   unfold putM;unfold isM at h;unfold posM at h |-;by_cases hx:x.1<m.1
   ·rw[if_pos hx]at h |-;rw[if_pos hx,List.set_cons_succ,znW (by unfold isM;rw[List.getElem?_cons_succ]at h;exact h)]
   ·rw[if_neg hx]at h |-;rw[if_neg hx];have h:(x.1==m.1)=true:=h;rw[if_pos (by simpa using h)];rfl
theorem znX {m:MemD} : ∀ {l:List MemD},isM l m.1=false->putM l m=l.take (posM l m.1)++m::l.drop (posM l m.1)
 |[],h=>by simp[putM,posM]
 | x::r,h=>by
   unfold putM;unfold isM at h;unfold posM at h |-;by_cases hx:x.1<m.1
   ·rw[if_pos hx]at h |-;rw[if_pos hx,znX (by unfold isM;rw[List.getElem?_cons_succ]at h;exact h)];rfl
   ·rw[if_neg hx]at h |-;rw[if_neg hx];have h:(x.1==m.1)=false:=h;rw[if_neg (by simpa using h)];rfl
theorem zwH {l:List MemD} {h:Int} (hi:isM l h=true):posM l h<l.length:=by
 unfold isM at hi;cases hg:l[posM l h]? with
 |none=>rw[hg]at hi;cases hi
 |some y=>exact(List.getElem?_eq_some_iff.1 hg).1
end
section
open Go.RowKit
theorem zp1 (env:Env) (mem:List MemD) (hl:mem.length<=4096) (hm: ∀m∈mem,m.2.length<=4096):Con prog env 186 [memsAV mem] (.own 130 2 (mem.map mmAV)):=by
 refine qf func186 call186 ntmps186 results186 ?_;repeat refine st0 ?_
 refine zap 3 3 130 2 ?_;refine zab (D:=Nat) (fun j vs=>[(3, .row 3 (vs 3)),(6,memsAV mem),(7,I mem.length),(8,I j)]) (fun j _=>[(3,⟨2,(mem.take j).map mmAV,130,true⟩)]) (fun j _ esc=>j<=mem.length/\esc 3=false) (fun j=>mem.length-j) 0 ?_ ?_ ?_ ?_
 ·exact⟨Nat.zero_le _,rfl⟩
 ·(simp only[go_sem])
  try rfl
 ·exact qe0
 rintro j ws esc ⟨hj,e0⟩;by_cases hlt:j<mem.length
 ·obtain⟨a,ha⟩:=gE hlt;have g1:=nlt hlt;have g2:=zaa hlt (by omega);have f0:=zbP env (a.2.map intAV) (by rw[List.length_map];exact hm a (List.mem_of_getElem? ha));have htl:(mem.take j).length=j:=by rw[List.length_take];omega
  have hf:Fits (j+1) 32:=zae (by omega) (by omega);have htk:mem.take (j+1)=mem.take j++[a]:=by rw[List.take_add_one,ha];rfl
  have F:=ai7 mmAV.eq_1 g1 g2 ha htl hf e0;repeat refine tz1 f0 ?_
  refine⟨j+1,⟨hlt,by simp only[go_sem,e0]⟩,?_,?_,by omega⟩
  ·exact qe
  ·have F:=ai3 mmAV.eq_1 htk @List.map_append.{0,0};exact qe
 ·obtain rfl:j=mem.length:=by omega
  have g1:=nl mem.length;have hta:mem.take mem.length=mem:=List.take_length;have F:=ai3 g1 hta e0;repeat refine st ?_
  exact aR
theorem zns (env:Env) (c:ChD) (hc:Right c) (L:List Int) (hl:L.length<=4000) (d:Int):Con prog env 189 [zah c, .seq 1 (L.map intAV),I d] (.own 3 1 ((underL c L d).map intAV)):=by
 have f1:=zaE env c;unfold zah zaj at f1;unfold zah;refine qf func189 call189 ntmps189 results189 ?_;repeat refine st0 ?_
 refine zap 7 7 3 1 ?_;refine zab (D:=Nat) (fun j vs=>[(0, .ref 9 [tabCells c] 0 0),(2,I d),(7, .row 7 (vs 7)),(10, .seq 1 (L.map intAV)),(11,I L.length),(12,I j)]) (fun j _=>[(7,⟨1,(ze9 c L d j).map intAV,3,true⟩)]) (fun j _ esc=>j<=L.length/\esc 7=false) (fun j=>L.length-j) 0 ?_ ?_ ?_ ?_
 ·exact⟨Nat.zero_le _,rfl⟩
 ·(simp only[go_sem])
  try rfl
 ·(simp only[go_sem])
  try rfl
 rintro j ws esc ⟨hj,e0⟩;by_cases hlt:j<L.length
 ·obtain⟨x,hx⟩:=gE hlt;have q1:=nlt hlt;have q2:=zaa hlt (by omega);have f3:=zcC env c hc d x;unfold zaj at f3;have hil:=zkv c L d j;have hf:Fits ((ze9 c L d j).length+1) 8:=zae (by omega) (by omega);have hn:=zir (c:=c) (i:=d) hx;cases hb:aboveB c d x with
  | true=>
    rw[hb]at f3;rw[hb,if_pos rfl]at hn;have F:=ai5 q1 q2 hx hf e0;repeat refine tz2 f1 f3 ?_
    refine⟨j+1,⟨hlt,by simp only[go_sem,e0]⟩,?_,?_,by omega⟩
    ·exact qe
    ·have F:=ai hn @List.map_append.{0,0};exact qe
  | false=>
    rw[hb]at f3;rw[hb,if_neg Bool.false_ne_true]at hn;have F:=ai5 q1 q2 hx hf e0;repeat refine tz2 f1 f3 ?_
    refine⟨j+1,⟨hlt,by simp only[go_sem,e0]⟩,?_,?_,by omega⟩
    ·exact qe
    ·have F:=ai hn @List.map_append.{0,0};exact qe
 ·obtain rfl:j=L.length:=by omega
  have q1:=nl L.length;have hall:ze9 c L d L.length=underL c L d:=by unfold ze9 underL;rw[List.take_length]
  rw[hall];have F:=ai q1 e0;repeat refine st ?_
  exact aR
theorem zeR (env:Env) (l:List Int) (p:Int->Bool) (g:FuncId) (caps:List (List AV)) (hp: ∀d,Con prog env g [I d, .ref 1 caps 0 0] (B (p d))) (hl:l.length<=4096):Con prog env 129 [.seq 1 (l.map intAV), .clo g [.ref 1 caps 0 0]] (B (l.any p)):=by
 have f0:=zhC env l p g caps hp hl;cases hi:idxQ p l with
 | none=>
   rw[hi]at f0;have h0:l.any p=false:=List.any_eq_false.2 fun x hx=>by rw[(zhF hi).2 x hx];simp
   rw[h0];unfold idxJ at f0;refine qf func129 call129 ntmps129 results129 ?_;repeat refine tz01 f0 ?_
   exact aR0
 | some i=>
   rw[hi]at f0;obtain⟨_,_,d,h3,h4⟩:=zhE hi;have h0:l.any p=true:=List.any_eq_true.2 ⟨d,List.mem_of_getElem? h3,h4⟩;have q0:(0:Int)<=(i:Int):=by omega
   rw[h0];unfold idxJ at f0;refine qf func129 call129 ntmps129 results129 ?_;have F:=q0;repeat refine tz1 f0 ?_
   exact aR
theorem zpO (env:Env) (G:List Int) (hG:G.length<=1000000) (i:Int):Con prog env 225 [I i, .ref 1 [[.seq 1 (G.map intAV)]] 0 0] (B (G.contains i)):=by
 have f0:=zaB env G i hG;refine qf func225 call225 ntmps225 results225 ?_;repeat refine tz01 f0 ?_
 exact aR0
def zim (c:ChD) (l:List Int) (j:Nat):List Int:=(l.take j).filter (innerP c l)
theorem zpP {c:ChD} {l:List Int} {j:Nat} {x:Int} (h:l[j]? =some x):zim c l (j+1)=if innerP c l x then zim c l j++[x] else zim c l j:=by
 unfold zim;rw[List.take_add_one,h,List.filter_append];cases hb:innerP c l x<;>simp[hb]
theorem zr6 (c:ChD) (l:List Int) (j:Nat):(zim c l j).length<=l.length:=by
 unfold zim;exact Nat.le_trans (List.length_filter_le ..) (by rw[List.length_take];omega)
theorem zr5 (env:Env) (c:ChD) (h:Full c) (l:List Int) (hl:l.length<=4000) (hz: ∀x∈l,inZ c x=true):Con prog env 188 [zah c, .seq 1 (l.map intAV)] (.own 3 1 ((innerL c l).map intAV)):=by
 unfold zah;refine qf func188 call188 ntmps188 results188 ?_;repeat refine st0 ?_
 refine zap 5 5 3 1 ?_;refine zab (D:=Nat) (fun j vs=>[(0, .ref 9 [tabCells c] 0 0),(3, .loc 3 (vs 3) 0 0),(5, .row 5 (vs 5)),(9, .seq 1 (l.map intAV)),(10,I l.length),(11,I j)]) (fun j _=>[(3,⟨1,[[.seq 1 (l.map intAV)]],27,false⟩),(5,⟨1,(zim c l j).map intAV,3,true⟩)]) (fun j _ esc=>j<=l.length/\esc 3=false/\esc 5=false) (fun j=>l.length-j) 0 ?_ ?_ ?_ ?_
 ·exact⟨Nat.zero_le _,rfl,rfl⟩
 ·(simp only[go_sem])
  try rfl
 ·(simp only[go_sem])
  try rfl
 rintro j ws esc ⟨hj,e0,e1⟩;by_cases hlt:j<l.length
 ·obtain⟨x,hx⟩:=gE hlt;have q1:=nlt hlt;have q2:=zaa hlt (by omega);have f2:=zaN env c h x;rw[if_pos (.inr (hz x (List.mem_of_getElem? hx)))]at f2;have hK:=zaS h.toRight x true;have f3:=(zeR env (kidZ c x) (fun d=>l.contains d) 225 [[.seq 1 (l.map intAV)]] (zpO env l (by omega)) (by rw[za9];omega)).lend rfl;rw[zcF]at f3;have hil:=zr6 c l j;have hf:Fits ((zim c l j).length+1) 8:=zae (by omega) (by omega);have hn:=zpP (c:=c) hx;have hP:innerP c l x= !((kidZ c x).any fun d=>l.contains d):=rfl;generalize ((kidZ c x).any fun d=>l.contains d)=b at*;generalize kidsL c x true=K at*;unfold zah at f2;cases b with
  | true=>
    rw[hP,Bool.not_true,if_neg Bool.false_ne_true]at hn;have F:=ai6 q1 q2 hx hf e0 e1;repeat refine tz1 f2 ?_
    refine lL f3 ?_;repeat refine st ?_
    refine⟨j+1,⟨hlt,by simp only[go_sem,e0],by simp only[go_sem,e1]⟩,?_,?_,by omega⟩
    ·exact qe
    ·have F:=hn;exact qe
  | false=>
    rw[hP,Bool.not_false,if_pos rfl]at hn;have F:=ai6 q1 q2 hx hf e0 e1;repeat refine tz1 f2 ?_
    refine lL f3 ?_;repeat refine st ?_
    refine⟨j+1,⟨hlt,by simp only[go_sem,e0],by simp only[go_sem,e1]⟩,?_,?_,by omega⟩
    ·exact qe
    ·have F:=ai hn @List.map_append.{0,0};exact qe
 ·obtain rfl:j=l.length:=by omega
  have q1:=nl l.length;have hall:zim c l l.length=l.filter (innerP c l):=by unfold zim;rw[List.take_length]
  rw[hall];have hU:(l.filter (innerP c l)).length<=l.length:=List.length_filter_le ..;unfold innerL;generalize l.filter (innerP c l)=U at*;have f4:=zg8 U (by omega);have F:=ai3 q1 e0 e1;repeat refine st ?_
  refine zhL 5 rfl (row:=⟨1,U.map intAV,3,true⟩) f4 (Nat.succ_ne_zero 0) rfl (zaW _).symm (by simp only[go_sem,e0,e1];exact iR) (by simp only[go_sem,e0,e1];exact iR) (by simp only[go_sem,e0,e1];exact iR) (by simp only[go_sem,e0,e1];exact iR) ?_;rw[zaW];repeat refine st ?_
  exact aR
end
section
open Go.RowKit Go.ChangeShapes Go.WideShapes Go.ChangeAt
abbrev InD:=List Int×List Int×List MemD×List (List UInt8×Int)×Bool
def inE (x:InD):List AV:=[ints34 x.1,ints34 x.2.1, .seq 2 (x.2.2.1.map mmAV), .seq 2 (x.2.2.2.1.map tmAV),B x.2.2.2.2]
def zow (t:List UInt8×Int):Prop:=t.1.length<=maxLen
def zvo (x:InD):Prop:=(x.1.length<=maxLen/\x.2.1.length<=maxLen)/\(x.2.2.1.length<=maxLen/\ ∀m∈x.2.2.1,zwJ m)/\x.2.2.2.1.length<=maxLen/\ ∀t∈x.2.2.2.1,zow t
theorem zwS:prog.cellsOf 4=1:=by kernel_rfl
theorem c_tm:prog.cellsOf 86=2:=by kernel_rfl
theorem zwR:prog.cellsOf 31=5:=by kernel_rfl
section
variable {H:Type} {enc:TypeId×Value->H} {w:World} {base:Nat} {spare:Nat->Bool} {held:Bool}
theorem zvN (m:Nat) (cs:List Value) (y:DataW H×List MemPlace) (h:DataW.trod enc prog w base spare held m 86 cs=some y): ∃a:List UInt8×Int,RE w tmAV zow cs a:=by
 obtain⟨xs,n,_,_,hl,hxl,hg⟩:=DataW.trod_struct Tryz.underlying86 h;rw[c_tm]at hl;obtain⟨c0,c1,rfl⟩:=zuh hl;obtain⟨y0,h0⟩:=zba hxl hg 0 _ rfl 9 0 1 rfl rfl zdM;obtain⟨x0,e0, -,s0⟩:=DataW.trod_string Tryz.underlying9 (show DataW.trod enc prog w base spare held n 9 [c0]=some y0 from h0);cases e0;obtain⟨⟨t0⟩⟩:=x0;obtain⟨y1,h1⟩:=zba hxl hg 1 _ rfl 3 1 1 rfl rfl c_int;obtain⟨x1,e1, -, -⟩:=DataW.trod_int Tryz.underlying3 (show DataW.trod enc prog w base spare held n 3 [c1]=some y1 from h1);cases e1;exact⟨(t0,x1),⟨⟨rfl, .lit _⟩,⟨rfl, .lit _⟩,trivial⟩,(by simpa[zow,ByteArray.size]using s0)⟩
end
end
section
open Go.RowKit
def zbD (c:ChD) (x:InD) (ev:List UInt8) (d n:Int):List AV:=[Sg c.name,I c.initial,varsAV c.vars,stsAV c.states,trsAV c.trans,ints34 x.1,ints34 x.2.1, .seq 2 (x.2.2.1.map mmAV), .seq 2 (x.2.2.2.1.map tmAV),B x.2.2.2.2,Sg ev,I d,I n]
theorem zeZ (env:Env) (c:ChD):Con prog env 22 [.agg (chAV c)] (B (zht c)):=by
 unfold zht;by_cases h1:(c.states.length:Int)<=40<;>by_cases h2:(c.trans.length:Int)<=70<;>by_cases h3:(c.vars.length:Int)<=10
 all_goals (refine zdK func22 rfl call22 (by rw [ntmps22]; simp) ?_
            rw[ntmps22,results22])
 all_goals have F:=ai4 chAV.eq_1 h1 h2 h3
 all_goals (repeat refine st ?_)
 all_goals ((refine zal ?_;show (zaG _ _ _).run _=some _;simp only[go_sem,F]))
theorem zpE (env:Env) (a1 a8:Addr) (he:ChEnv env a1 a8) (hT: ∀W,env.inv W->TabAt W) (c:ChD) (hcf:zeP c) (h:zhK c=true):Con prog env 6 [.agg (chAV c)] (zah c):=by
 have f0:=zeZ env c;have f1:=zfL env c;unfold zhK at h;rw[Bool.and_eq_true]at h;rw[h.1]at f0;rw[h.2]at f1;rw[beq_iff_eq]at h;have f2:=zkz env a1 a8 he hT c (zwN h.2) hcf;unfold zah at f2 |-;refine qf func6 call6 ntmps6 results6 ?_;repeat refine tz03 f0 f1 f2 ?_
 exact aR0
def zfe (c:ChD) (x:InD):Bool:= !zhK c||decide (60< (x.1.length:Int))||decide (60< (x.2.2.1.length:Int))||decide (60< (x.2.1.length:Int))
theorem zmu (env:Env) (c:ChD) (x:InD) (ev:List UInt8) (d n:Int):Con prog env 7 [.agg (zbD c x ev d n)] (B (zfe c x)):=by
 have f0:=zeZ env c;have f1:=zfL env c;unfold chAV at f0 f1;unfold zfe zhK;cases h1:zht c
 ·rw[h1]at f0;refine qf func7 call7 ntmps7 results7 ?_;have F:=zbD.eq_1;repeat refine tz2 f0 f1 ?_
  exact aR
 rw[h1]at f0;cases h2:((chk c).1==0)
 ·rw[h2]at f1;refine qf func7 call7 ntmps7 results7 ?_;have F:=zbD.eq_1;repeat refine tz2 f0 f1 ?_
  exact aR
 rw[h2]at f1;by_cases h3:60< (x.1.length:Int)
 ·rw[decide_eq_true h3];refine qf func7 call7 ntmps7 results7 ?_;have F:=ai zbD.eq_1 h3;repeat refine tz2 f0 f1 ?_
  exact aR
 rw[decide_eq_false h3];by_cases h4:60< (x.2.2.1.length:Int)
 ·rw[decide_eq_true h4];refine qf func7 call7 ntmps7 results7 ?_;have F:=ai3 zbD.eq_1 h3 h4;repeat refine tz2 f0 f1 ?_
  exact aR
 rw[decide_eq_false h4];by_cases h5:60< (x.2.1.length:Int)
 ·rw[decide_eq_true h5];refine qf func7 call7 ntmps7 results7 ?_;have F:=ai4 zbD.eq_1 h3 h4 h5;repeat refine tz2 f0 f1 ?_
  exact aR
 rw[decide_eq_false h5];refine qf func7 call7 ntmps7 results7 ?_;have F:=ai4 zbD.eq_1 h3 h4 h5;repeat refine tz2 f0 f1 ?_
 exact aR
end
section
open Go.RowKit
def woX (c:ChD) (act vars:List Int) (d:Int):WoD:=⟨vars,d,(List.range c.states.length).map fun k:Nat=>act.contains (k:Int)⟩
theorem zqu (c:ChD) (act vars:List Int) (d:Int):(woX c act vars d).act.map zkg=flagA c.states.length act:=by
 unfold woX flagA;rw[List.map_map];rfl
theorem zl9 (c:ChD) (act vars:List Int) (d:Int):(woX c act vars d).act.length=c.states.length:=by
 unfold woX;simp
theorem zcg {c:ChD} (h:Full c):ActsOk c:=by
 have hs: ∀(i:Int) (s:StD),at_ c i=some s-> ∃k,zbm c k s=true:=fun i s e=>by
  unfold at_ at e;split at e
  ·exact⟨_,h.st _ s e⟩
  ·cases e
 refine⟨fun i a ha=> ?_,fun i a ha=> ?_,fun n t ht a ha=> ?_⟩
 ·unfold outA at ha;split at ha
  ·rename_i s e;obtain⟨k,hk⟩:=hs i s e;unfold zbm zcZ at hk;simp only[Bool.and_eq_true]at hk;exact List.all_eq_true.1 hk.2.2 a ha
  ·simp at ha
 ·unfold inA at ha;split at ha
  ·rename_i s e;obtain⟨k,hk⟩:=hs i s e;unfold zbm zcZ at hk;simp only[Bool.and_eq_true]at hk;exact List.all_eq_true.1 hk.1.2.2 a ha
  ·simp at ha
 ·have:=h.tr n t ht;unfold zch zcZ at this;simp only[Bool.and_eq_true]at this;exact List.all_eq_true.1 this.1.2.2 a ha
theorem zol {c:ChD} (h:Full c) {n:Nat} {t:TrD} (ht:c.trans[n]? =some t):t.guard=[]\/zbQ t.guard c.vars.length c.states.length=true:=by
 have:=h.tr n t ht;unfold zch at this;simp only[Bool.and_eq_true,Bool.or_eq_true,beq_iff_eq]at this;exact this.1.1.2
def rnE (c:ChD) (x:InD) (d:Int):List AV:=[ints34 x.1,ints34 x.2.1, .seq 2 (x.2.2.1.map mmAV), .seq 2 (x.2.2.2.1.map tmAV),B x.2.2.2.2,nilS,nilS, .ref 9 [tabCells c] 0 0,Sg c.name,I c.initial,varsAV c.vars,stsAV c.states,trsAV c.trans,I d,I 0]
structure Asked (c:ChD) (x:InD) (d:Int):Prop where
 act:x.1.length<=1000
 len:x.2.1.length=c.vars.length
 fit: ∀v∈x.2.1,zai v=true
 data:zai d=true
 lg:lgB c x.1=true
theorem Asked.ok {c:ChD} {x:InD} {d:Int} (h:Asked c x d):(woX c x.1 x.2.1 d).Ok:=⟨h.fit,h.data⟩
theorem zqt (env:Env) (c:ChD) (hc:c.states.length<=4000) (x:InD) (d:Int) (hx:Asked c x d):Con prog env 147 [.ref 15 [rnE c x d] 0 0] (.agg (woAV (woX c x.1 x.2.1 d))):=by
 have f0:=zei env c hc x.1 (by have:=hx.act;omega);unfold zah at f0;unfold woAV;rw[zqu];show Con _ _ _ _ (.agg [ints34 x.2.1,I d, .seq 1 (flagA c.states.length x.1)]);generalize flagA c.states.length x.1=L at*;refine qf func147 call147 ntmps147 results147 ?_;have F:=rnE.eq_1;repeat refine tz1 f0 ?_
 exact aR
def fdAV (a2:Addr):Fd->AV
 | .no=> .tuple [I (-1),nilE]
 | .one n=> .tuple [I (n:Nat),nilE]
 | .bad n=> .tuple [I (-1),errV (1000+(n:Nat)) (sentV a2)]
theorem zpT {c:ChD} {w:WoD} {n:Nat} {l:List Nat} (h:zeg w (zfV c n)=none):zbO c w (n::l)= .bad n:=by unfold zbO;rw[h]
theorem zsw {c:ChD} {w:WoD} {n:Nat} {l:List Nat} (h:zeg w (zfV c n)=some true):zbO c w (n::l)= .one n:=by unfold zbO;rw[h]
theorem zuv {c:ChD} {w:WoD} {n:Nat} {l:List Nat} (h:zeg w (zfV c n)=some false):zbO c w (n::l)=zbO c w l:=by conv=>lhs;unfold zbO;rw[h]
theorem zsx (env:Env) (a1 a2 a8:Addr) (he:ChEnv env a1 a8) (h2:env 2=some (sentV a2)) (c:ChD) (h:Full c) (hs:Small c) (x:InD) (d:Int) (hx:Asked c x d) (l:List Nat) (hl:l.length<=1000) (hk: ∀n∈l,n<c.trans.length):
 Con prog env 82 [.ref 15 [rnE c x d] 0 0, .seq 1 (l.map zac)] (fdAV a2 (zbO c (woX c x.1 x.2.1 d) l)):=by
 have hfew:=h.few;have hftr:=h.ftr;have f0:=zqt env c (by omega) x d hx;have g2:=zfW h2;have hvl:(woX c x.1 x.2.1 d).vars.length<=1000000:=by show x.2.1.length<=_;have:=hx.len;have:=hs.vars;omega
 have f1: ∀(n:Nat) (t:TrD),c.trans[n]? =some t-> ∀b,zeg (woX c x.1 x.2.1 d) t.guard=some b->_:=fun n t ht b hb=>ztI env a1 a2 a8 he h2 (woX c x.1 x.2.1 d) hx.ok hvl t.guard (by rw[zl9];show _\/zbQ t.guard (x.2.1.length:Int) _=true;rw[hx.len];exact zol h ht) b hb;have f2: ∀(n:Nat) (t:TrD),c.trans[n]? =some t->zeg (woX c x.1 x.2.1 d) t.guard=none->_:=fun n t ht hb=>zqJ env a1 a2 a8 he h2 (woX c x.1 x.2.1 d) hx.ok hvl t.guard (by rw[zl9];show _\/zbQ t.guard (x.2.1.length:Int) _=true;rw[hx.len];exact zol h ht) hb;generalize woX c x.1 x.2.1 d=W at*;unfold woAV at f0 f1 f2;refine qf func82 call82 ntmps82 results82 ?_;repeat refine st0 ?_
 refine zab (D:=Nat) (fun j _=>[(0, .ref 15 [rnE c x d] 0 0),(10, .seq 1 (l.map zac)),(11,I l.length),(12,I j)]) (fun _ _=>[]) (fun j _ _=>j<=l.length/\zbO c W l=zbO c W (l.drop j)) (fun j=>l.length-j) 0 ?_ ?_ ?_ ?_
 ·exact⟨Nat.zero_le _,rfl⟩
 ·exact qe0
 ·exact qe0
 rintro j vs esc ⟨hj,hq⟩;by_cases hlt:j<l.length
 ·obtain⟨n,hn⟩:=gE hlt;have hnl:=hk n (List.mem_of_getElem? hn);obtain⟨t,ht⟩:=gE hnl;have q1:=nlt hlt;have q2:=zaa hlt (by omega);have q3:=nlt hnl;have q4:IntKind.i64.wrap (1000+(n:Int))=1000+(n:Int):=zaw (by omega) (by omega);have hdc:=zaQ hn;have hga:zfV c n=t.guard:=by unfold zfV;rw[ht]
  rw[hdc]at hq;cases hv:zeg W t.guard with
  | none=>
    rw[zpT (by rw[hga];exact hv)]at hq;rw[hq];have f3:=f2 n t ht hv;have f4:=znb env [109,105,99,114,111,46,69,110,97,98,108,101,100] (1000+(n:Int)) a2 (by omega);show awp _ _ _ _ _ _;unfold fdAV;have F:=ai9 rnE.eq_1 trAV.eq_1 zac.eq_1 hn ht q1 q3 q4 g2;repeat refine tz3 f0 f3 f4 ?_
    exact aR
  | some b=>
    have f3:=f1 n t ht b hv;cases b with
    | true=>
      rw[zsw (by rw[hga];exact hv)]at hq;rw[hq];show awp _ _ _ _ _ _;unfold fdAV;have F:=ai7 rnE.eq_1 trAV.eq_1 zac.eq_1 hn ht q1 q3;repeat refine tz2 f0 f3 ?_
      exact aR
    | false=>
      rw[zuv (by rw[hga];exact hv)]at hq;have F:=ai8 rnE.eq_1 trAV.eq_1 zac.eq_1 hn ht q1 q2 q3;repeat refine tz2 f0 f3 ?_
      refine⟨j+1,⟨hlt,hq⟩,?_,?_,by omega⟩
      ·exact qe
      ·exact qe
 ·obtain rfl:j=l.length:=by omega
  have q1:=nl l.length;rw[List.drop_length]at hq;rw[hq];show awp _ _ _ _ _ _;show awp _ _ _ _ _ _;unfold zbO fdAV;have F:=q1;repeat refine st ?_
  exact aR
theorem zwy (env:Env) (c:ChD) (h:Full c) (x:InD) (d:Int) (k:Int) (ev:List UInt8):Con prog env 83 [.ref 15 [rnE c x d] 0 0,I k,Sg ev] (.own 3 1 ((zb4 c k ev c.trans.length).map zac)):=by
 have hftr:=h.ftr;by_cases he:ev=[]
 ·subst he;rw[zpl];have f0:=zme env c (by omega) k;unfold zah at f0;refine qf func83 call83 ntmps83 results83 ?_;have F:=rnE.eq_1;repeat refine tz1 f0 ?_
  exact aR
 ·rw[zpk c k he];have f0:=zkA env c (by omega) ev;have f1:=zqO env c (by omega) k (evI c ev);have q0:(ev == [])=false:=by simpa using he
  unfold zah at f0 f1;refine qf func83 call83 ntmps83 results83 ?_;have F:=ai rnE.eq_1 q0;repeat refine tz2 f0 f1 ?_
  exact aR
theorem ztW {c:ChD} {k:Int} {ev:List UInt8} {j n:Nat} (h:n∈zb4 c k ev j):n<j:=List.mem_range.1 (List.mem_filter.1 h).1
theorem zv7 {c:ChD} {w:WoD} {ev:List UInt8} {k:Int} {l:List Int} (h:zbO c w (zb4 c k ev c.trans.length)= .no):zdb c w ev (k::l)=zdb c w ev l:=by
 conv=>lhs;unfold zdb
 rw[h]
theorem zuw {c:ChD} {w:WoD} {ev:List UInt8} {k:Int} {l:List Int} {n:Nat} (h:zbO c w (zb4 c k ev c.trans.length)= .one n):zdb c w ev (k::l)= .one n:=by
 unfold zdb;rw[h]
theorem zuy {c:ChD} {w:WoD} {ev:List UInt8} {k:Int} {l:List Int} {n:Nat} (h:zbO c w (zb4 c k ev c.trans.length)= .bad n):zdb c w ev (k::l)= .bad n:=by
 unfold zdb;rw[h]
theorem zux (env:Env) (a1 a2 a8:Addr) (he:ChEnv env a1 a8) (h2:env 2=some (sentV a2)) (c:ChD) (h:Full c) (hs:Small c) (x:InD) (d:Int) (hx:Asked c x d) (i:Int) (ev:List UInt8):
 Con prog env 39 [.ref 15 [rnE c x d] 0 0,I i,Sg ev] (fdAV a2 (zdb c (woX c x.1 x.2.1 d) ev (i::upL c i))):=by
 have hfew:=h.few;have hftr:=h.ftr;have f0:=zaE env c;have f1:Con prog env 81 [zaj c,I i] (.own 3 1 ((upL c i).map intAV)):=zmb env c h.toRight i;have f2:=zwy env c h x d;have f3:=fun k=>zsx env a1 a2 a8 he h2 c h hs x d hx (zb4 c k ev c.trans.length) (by have:(zb4 c k ev c.trans.length).length<=c.trans.length:=zmF (znS c k ev) c.trans.length;omega) (fun n hn=>ztW hn);have hul:(upL c i).length<=40:=zf9 ..;have hf:Fits (1+(upL c i).length) 8:=zae (by omega) (by omega);have e0:[[I i]]++(upL c i).map intAV=(i::upL c i).map intAV:=rfl;have hwl:(i::upL c i).length<=4000:=by simp only[List.length_cons];omega
 have ew:((i::upL c i).map intAV).length=(i::upL c i).length:=List.length_map ..;generalize woX c x.1 x.2.1 d=W at*;generalize hR:(i::upL c i)=R at*;unfold zaj at f0 f1;unfold zah at f0;refine qf func39 call39 ntmps39 results39 ?_;have F:=ai3 rnE.eq_1 hf e0;repeat refine tz2 f0 f1 ?_
 refine zab (D:=Nat) (fun j vs=>[(0, .ref 15 [rnE c x d] 0 0),(2,Sg ev),(21, .row 13 (vs 13)),(22,I R.length),(23,I j)]) (fun _ _=>[(13,⟨1,R.map intAV,3,true⟩)]) (fun j _ _=>j<=R.length/\zdb c W ev R=zdb c W ev (R.drop j)) (fun j=>R.length-j) 0 ?_ ?_ ?_ ?_
 ·exact⟨Nat.zero_le _,rfl⟩
 ·have F:=rnE.eq_1;exact qe
 ·(simp only[go_sem,rnE])
 rintro j vs esc ⟨hj,hq⟩;by_cases hlt:j<R.length
 ·obtain⟨k,hk⟩:=gE hlt;have q1:=nlt hlt;have q2:=zaa hlt (by omega);have f4:=f2 k ev;have f5:=f3 k;rw[zaQ hk]at hq;cases hv:zbO c W (zb4 c k ev c.trans.length) with
  | no=>
    rw[hv]at f5;unfold fdAV at f5;rw[zv7 hv]at hq;have F:=ai4 intAV.eq_1 hk q1 q2;repeat refine tz2 f4 f5 ?_
    refine⟨j+1,⟨hlt,hq⟩,?_,?_,by omega⟩
    ·exact qe
    ·exact qe
  | one n=>
    rw[hv]at f5;unfold fdAV at f5;rw[zuw hv]at hq;rw[hq];have q3:(0:Int)<=(n:Int):=by omega
    show awp _ _ _ _ _ _;unfold fdAV;have F:=ai5 intAV.eq_1 hk q1 q2 q3;repeat refine tz2 f4 f5 ?_
    exact aR
  | bad n=>
    rw[hv]at f5;unfold fdAV at f5;rw[zuy hv]at hq;rw[hq];show awp _ _ _ _ _ _;unfold fdAV;have F:=ai4 intAV.eq_1 hk q1 q2;repeat refine tz2 f4 f5 ?_
    exact aR
 ·obtain rfl:j=R.length:=by omega
  have q1:=nl R.length;rw[List.drop_length]at hq;rw[hq];show awp _ _ _ _ _ _;unfold zdb fdAV;have F:=q1;repeat refine st ?_
  exact aR
end
section
open Go.RowKit
theorem OwnR.seq {S:Nat->Nat->Prop} {w:World} {base:Nat} {v:Value} {e:TypeId} {sz:Nat} {es:List (List AV)} (h:OwnR S w base v e sz es):
 ∃S':Nat->Nat->Prop,(∀b o,S b o->S' b o)/\(∀b o,S' b o->S b o\/(base<=b/\b<w.heap.size))/\RV S' w v (.seq sz es):=by
 obtain⟨l,ho,hpos,hE,_⟩:=h;obtain⟨S',hS'⟩: ∃S':Nat->Nat->Prop,S'=fun b o=>S b o\/v.ownBlock=some b:=⟨_,rfl⟩;have hsup: ∀b o,S b o->S' b o/\Stay w w b o:=fun b o hh=>⟨by rw[hS'];exact .inl hh, .rfl⟩;refine⟨S',fun b o hh=>(hsup b o hh).1,fun b o hh=> ?_,?_⟩
 ·rw[hS']at hh;exact hh.imp id fun hh=>zaP ho hh
 rcases ho.2 with⟨rfl,hn⟩|⟨g,cap,cur,rfl,hb,hc,hle,_,_,htake⟩
 ·have hes:es=[]:=List.eq_nil_of_length_eq_zero hn;subst hes;exact .seq none 0 0 sz [] 0 0 (fun _ _=>undef) rfl (Nat.le_refl _) (fun hh=>by omega) (fun i e he=>by simp at he) (fun i j c hh=>by simp[cellAt]at hh) (fun i j c hh=>by simp[cellAt]at hh)
 ·have k:=hE;refine .seq (some ⟨g,0,none⟩) es.length cap sz es g 0 (fun i j=>l.getD (i*sz+j) undef) rfl hle (fun _=>rfl) k.els (fun i j c hcc=> ?_) fun i j c hcc=> ?_
  ·obtain⟨u,h1,h2⟩:=k.cell i j c hcc;have hu:l.getD (i*sz+j) undef=u:=by simp[List.getD,h1]
   rw[hu,Nat.zero_add];exact⟨by rw[hS'];exact .inr rfl,zdF ho rfl _ u h1,k.one u (List.mem_of_getElem? h1)⟩
  ·obtain⟨u,h1,h2⟩:=k.cell i j c hcc;have hu:l.getD (i*sz+j) undef=u:=by simp[List.getD,h1]
   rw[hu];exact h2.mono hsup
theorem ConF.seen {P:Program} {env:Env} {f:FuncId} {cs:List AV} {e:TypeId} {sz:Nat} {es:List (List AV)} (h:ConF P env f cs (.own e sz es)):ConF P env f cs (.seq sz es):=by
 refine⟨h.enter,fun w S vs hE hl hv=>(h.calls w S vs hE hl hv).mono ?_⟩;rintro ex w' ⟨v,rfl,hb,S1,h1,hr⟩;obtain⟨S2,k1,k2,k3⟩:=OwnR.seq hr;exact⟨v,rfl,hb,S2,fun b o hh=>(k2 b o hh).elim (h1 b o) id,k3⟩
def RYe (c:ChD) (d now:Int) (M:List (List AV)) (o:Bool) (g:Nat->Nat):List AV:=[.row 1001 (g 1001), .row 1002 (g 1002), .seq 2 M, .row 1003 (g 1003),B o, .row 1004 (g 1004), .row 1005 (g 1005), .ref 9 [tabCells c] 0 0,Sg c.name,I c.initial,varsAV c.vars,stsAV c.states,trsAV c.trans,I d,I now]
def RY (c:ChD) (d now:Int) (r:RunD) (g:Nat->Nat):List (Nat×Row):=[(1000,⟨15,[RYe c d now (r.mem.map mmAV) r.over g],79,false⟩),(1001,⟨1,r.act.map intAV,3,true⟩),(1002,⟨1,r.vars.map intAV,3,true⟩),(1003,⟨2,r.tms.map tmAV,86,true⟩),(1004,⟨1,r.outs.map intAV,3,true⟩),(1005,⟨2,r.rais.map tmAV,114,true⟩)]
def gr5 (k:Nat):Bool:=k==1001||(k==1003||(k==1004||k==1005))
def errA (a2 a8:Addr):ErD->AV
 |none=>nilE
 |some (k,ps)=>errV (ps.headD (-1)) (zs5 ps.tail (sentV (if k=2 then a2 else a8)))
theorem zcx (a2 a8:Addr) (e:ErD) (L:Nat->Nat->Option (Nat×Nat)):(errA a2 a8 e).ren L=errA a2 a8 e:=by rcases e with _|⟨_,_⟩<;>rfl
theorem zoW (env:Env) (c:ChD) (hc:c.states.length<=4000) (d now:Int) (r:RunD) (hl:r.act.length<=1000000):ConI prog env 147 [1000,1001,1002,1003,1004,1005] (fun _=>false) (fun g=>[.loc 1000 (g 1000) 0 0]) (RY c d now r) (RY c d now r) (fun g=>woI (woR c d r) g):=by
 have f0:=zei env c hc r.act hl;have f0:=(f0.lend (za4 (fun _=>rfl) _)).seen;have h0:(woR c d r).act.map zkg=flagA c.states.length r.act:=zqu c r.act r.vars d;unfold woI;rw[h0];show ConI _ _ _ _ _ _ _ _ fun g=> .agg [.row 1002 (g 1002),I d, .seq 1 (flagA c.states.length r.act)];unfold zah at f0;generalize flagA c.states.length r.act=L at*;refine qi func147 call147 ntmps147 results147 ?_;intro vs esc hesc;obtain⟨e0,e1,e2,e3,e4,e5⟩:=es6 hesc;have F:=ai8 RY.eq_1 RYe.eq_1 e0 e1 e2 e3 e4 e5;repeat refine st ?_
 refine lL f0 ?_;repeat refine st ?_
 exact rI
theorem zqP (env:Env) (G:List UInt8) (x:List UInt8×Int):Con prog env 232 [.agg (tmAV x), .ref 1 [[Sg G]] 0 0] (B (x.1==G)):=by
 have h0:(x.1==G)=(x.1.toArray==G.toArray):=by rw[Bool.eq_iff_iff];simp
 unfold tmAV;refine qf func232 call232 ntmps232 results232 ?_;repeat refine st0 ?_
 exact aR0
theorem znI (env:Env) (c:ChD) (d now:Int) (r:RunD) (hl:r.tms.length<=4096) (s:List UInt8):ConI prog env 194 [1000,1001,1002,1003,1004,1005] gr5 (fun g=>[.loc 1000 (g 1000) 0 0,Sg s]) (RY c d now r) (RY c d now { r with tms:=without r.tms s }) (fun _=> .lit (.tuple #[])):=by
 have f0:ConI prog env _ _ _ _ _ (fun _=>[(1000,⟨2,(without r.tms s).map tmAV,86,true⟩),_]) _:=zlP env r.tms (fun x=>x.1==s) 232 s 9 (zqP env s) hl;generalize without r.tms s=L at*;refine qi func194 call194 ntmps194 results194 ?_;intro vs esc hesc;have e0:=hesc 1000 (by simp);have e1:=hesc 1001 (by simp);have e2:=hesc 1002 (by simp);have e3:=hesc 1003 (by simp);have e4:=hesc 1004 (by simp);have e5:=hesc 1005 (by simp);have F:=ai9 RY.eq_1 RYe.eq_1 gr5.eq_1 e0 e1 e2 e3 e4 e5;repeat refine st ?_
 refine iL [(1000,1003),(1001,3)] f0 ?_;repeat refine st ?_
 exact rN
theorem zjK (env:Env) (a8:Addr) (h8:env 7=some (sentV a8)):Con prog env 197 [] (errV (-1) (sentV a8)):=by
 have g1:=zfW h8;have f0:=zbA env [109,105,99,114,111,46,100,111] a8;refine qf func197 call197 ntmps197 results197 ?_;have F:=g1;repeat refine tz1 f0 ?_
 exact aR
theorem zkO (env:Env) (a2 a8:Addr) (h8:env 7=some (sentV a8)) (c:ChD) (d now:Int) (r:RunD) (s:List UInt8) (v:Int):ConI prog env 162 [1000,1001,1002,1003,1004,1005] gr5 (fun g=>[.loc 1000 (g 1000) 0 0,Sg s,I v]) (RY c d now r) (RY c d now (raiseP r s v).1) (fun _=>errA a2 a8 (raiseP r s v).2):=by
 have f0:=zjK env a8 h8;unfold raiseP;by_cases hl:16<=r.rais.length
 ·rw[if_pos hl];have q0:(16:Int)<=(r.rais.length:Int):=by omega
  show ConI _ _ _ _ _ _ _ _ fun _=>errV (-1) (sentV a8);refine qi func162 call162 ntmps162 results162 ?_;intro vs esc hesc;obtain⟨e0,e1,e2,e3,e4,e5⟩:=es6 hesc;have F:=ai10 RY.eq_1 RYe.eq_1 gr5.eq_1 q0 e0 e1 e2 e3 e4 e5;repeat refine tz1 f0 ?_
  exact rI
 ·rw[if_neg hl];have q0: ¬(16:Int)<=(r.rais.length:Int):=by omega
  have q1:Fits (r.rais.length+1) 24:=zae (by omega) (by omega);show ConI _ _ _ _ _ _ _ _ fun _=>nilE;unfold RY;simp only[List.map_append,List.map_cons,List.map_nil];refine qi func162 call162 ntmps162 results162 ?_;intro vs esc hesc;obtain⟨e0,e1,e2,e3,e4,e5⟩:=es6 hesc;have F:=ai11 RYe.eq_1 tmAV.eq_1 gr5.eq_1 q0 q1 e0 e1 e2 e3 e4 e5;repeat refine st ?_
  exact rI
theorem zqT (env:Env) (a2 a8:Addr) (h2:env 2=some (sentV a2)) (h8:env 7=some (sentV a8)) (c:ChD) (d now:Int) (hn:0<=now/\now<=1099511627776) (r:RunD) (hr:RunOk c r) (s:List UInt8) (v:Int):ConI prog env 196 [1000,1001,1002,1003,1004,1005] gr5 (fun g=>[.loc 1000 (g 1000) 0 0,Sg s,I v]) (RY c d now r) (RY c d now (startP now r s v).1) (fun _=>errA a2 a8 (startP now r s v).2):=by
 have f0:=zjK env a8 h8;have f1:=znI env c d now r (by have:=hr.tml;omega) s;have f2:=zbA env [109,105,99,114,111,46,115,116,97,114,116] a2;have g2:=zfW h2;have k0:IntKind.i64.wrap (1099511627776-now)=1099511627776-now:=zaw (by omega) (by omega);unfold startP;by_cases hv:v<0\/1099511627776-now<v
 ·rw[if_pos hv];show ConI _ _ _ _ _ _ _ _ fun _=>errV (-1) (sentV a2);by_cases hv0:v<0
  ·refine qi func196 call196 ntmps196 results196 ?_;intro vs esc hesc;obtain⟨e0,e1,e2,e3,e4,e5⟩:=es6 hesc;have F:=ai11 RY.eq_1 RYe.eq_1 gr5.eq_1 hv0 g2 e0 e1 e2 e3 e4 e5;repeat refine tz1 f2 ?_
   exact rI
  ·have hv1:1099511627776-now<v:=by omega
   refine qi func196 call196 ntmps196 results196 ?_;intro vs esc hesc;obtain⟨e0,e1,e2,e3,e4,e5⟩:=es6 hesc;have F:=ai12 RY.eq_1 RYe.eq_1 gr5.eq_1 hv0 hv1 k0 g2 e0 e1 e2 e3<|ai e4 e5;repeat refine tz1 f2 ?_
   exact rI
 rw[if_neg hv];have hv0: ¬v<0:=by omega
 have hv1: ¬1099511627776-now<v:=by omega
 by_cases h8:8<=(without r.tms s).length
 ·rw[if_pos h8];have q0:(8:Int)<=((without r.tms s).length:Int):=by omega
  show ConI _ _ _ _ _ _ _ _ fun _=>errV (-1) (sentV a8);generalize without r.tms s=L at*;unfold RY RYe at f1;refine qi func196 call196 ntmps196 results196 ?_;intro vs esc hesc;obtain⟨e0,e1,e2,e3,e4,e5⟩:=es6 hesc;have F:=ai12 RY.eq_1 RYe.eq_1 gr5.eq_1 hv0 hv1 k0 q0 e0 e1 e2 e3<|ai e4 e5;repeat refine st ?_
  refine iL L6 f1 ?_;repeat refine tz1 f0 ?_
  exact rI
 ·rw[if_neg h8];have q0: ¬(8:Int)<=((without r.tms s).length:Int):=by omega
  have q1:Fits ((without r.tms s).length+1) 24:=zae (by omega) (by omega);have q2:IntKind.i64.wrap (now+v)=now+v:=zaw (by omega) (by omega);have hT:=zqI (s,now+v) (without r.tms s) (hr.tms.without s).rise ziq (by omega);have k1:zaL ((without r.tms s++[(s,now+v)]).map encT)=(without r.tms s).map tmAV++[[Sg s,I (now+v)]]:=by rw[zn9,List.map_append];rfl
  have k2:=zn9 (insT (s,now+v) (without r.tms s));show ConI _ _ _ _ _ _ _ _ fun _=>nilE;generalize insT (s,now+v) (without r.tms s)=L2 at*;generalize without r.tms s=L at*;unfold RY RYe at f1;refine qi func196 call196 ntmps196 results196 ?_;intro vs esc hesc;obtain⟨e0,e1,e2,e3,e4,e5⟩:=es6 hesc;have F:=ai12 RY.eq_1 RYe.eq_1 gr5.eq_1 hv0 hv1 k0 q0 q1 q2 e0 e1<|ai4 e2 e3 e4 e5;repeat refine st ?_
  refine iL L6 f1 ?_;repeat refine st ?_
  refine zl2 1003 rfl (row:=⟨2,L.map tmAV++[[Sg s,I (now+v)]],86,true⟩) (by simp only[go_sem]<;>exact iR) (by simp only[go_sem]<;>exact iR) (by simp only[go_sem]<;>exact iR) hT k1.symm rfl (Nat.succ_ne_zero 1) (by simp only[go_sem];exact iR) ?_;rw[k2];repeat refine st ?_
  exact rI
end

end Go.Proofs.YtbpmkofnfgdegaaGreatDoor