/- The document's words on actions: one is done, many are. -/
import Derived.Test.YtbjldjekgepopaaGreatDoorT22
set_option maxRecDepth 100000
set_option maxHeartbeats 16000000
set_option linter.unusedSimpArgs false
namespace Go.Proofs.YtbjldjekgepopaaGreatDoor
open Go.Proofs.Tryz
section
open Go.RowKit
def oI (p:List UInt8×Int):List Value:=[.string ⟨p.1.toArray⟩, .int .i64 p.2]
theorem zY (l:List (List UInt8×Int)):bC (l.map oI)=l.map tmAV:=by simp[bC,oI,tmAV,Sg,I]
theorem sq (x:List UInt8×Int): ∀l,(insT x l).Perm (l++[x])
 |[]=> .refl _
 | y::l=>by
   unfold insT;split
   ·exact(List.perm_append_comm (l₁:=[x]) (l₂:=y::l))
   ·exact(sq x l).cons y
theorem Gj {x:List UInt8×Int} {l:List (List UInt8×Int)} (h:l.Pairwise fun a b=>Op.bytesLess a.1 b.1=true) (hn: ∀y∈l,y.1≠x.1):(l++[x]).mergeSort (fun x y=> !Op.bytesLess y.1 x.1)=insT x l:=by
 have h1:=so h hn
 have h3:((l++[x]).mergeSort fun x y=> !Op.bytesLess y.1 x.1).Pairwise fun x y=>(!Op.bytesLess y.1 x.1)=true:=OC (fun a b c hab hbc=>by
  simp only[L3]at*;cases k:Op.bytesLess c.1 a.1
  ·rfl
  ·cases k2:Op.bytesLess b.1 a.1
   ·cases k3:Op.bytesLess a.1 b.1
    ·rw[<-eN k3 k2,k]at hbc;cases hbc
    ·rw[eM k k3]at hbc;cases hbc
   ·rw[k2]at hab;cases hab) (fun a b=>by
  cases k:Op.bytesLess b.1 a.1
  ·simp
  ·rw[tJ k];simp) (l++[x])
 refine(Nq (le:=fun x y=>(!Op.bytesLess y.1 x.1)=true) ?_ (h1.imp fun {a b} h=>by simp[tJ h]) h3 ((sq x l).trans (Nm _ _).symm)).symm;intro a b ha hb h4 h5;have e:a.1=b.1:=eN (by simpa using h5) (by simpa using h4);by_cases hab:a=b
 ·exact hab
 exfalso
 obtain⟨i,hi,ea⟩:=Lp ha;obtain⟨j,hj,eb⟩:=Lp (((sq x l).trans (Nm _ _).symm).mem_iff.2 hb);have hp:=LH.1 h1;rcases NI i j with hij|hij|hij
 ·have:=hp i j hi hj hij;rw[ea,eb,e,fG]at this;cases this
 ·subst hij;exact hab (ea.symm.trans eb)
 ·have:=hp j i hj hi hij;rw[ea,eb,e,fG]at this;cases this
theorem Jc {x:List UInt8×Int} {l:List (List UInt8×Int)} (h:l.Pairwise fun a b=>Op.bytesLess a.1 b.1=true) (hn: ∀y∈l,y.1≠x.1):(l++[x]).Pairwise fun x y=>x.1≠y.1:=by
 rw[Mx];refine⟨h.imp (fun {a b} h e=>by rw[e,fG]at h;cases h),NT _ _,fun a ha b hb=> ?_⟩;obtain rfl:=Km.1 hb;exact hn a ha
section
open Go.Shelf Go.Lib Go.Sort
theorem Ib: ∀w,(isAgg 108).run prog w= .ok true w:=fun w=>by kernel_rfl
theorem GJ: ∀w,(Go.sizeOf 108).run prog w= .ok 2 w:=fun w=>by kernel_rfl
def cfT (x y:List UInt8):Int:=if Op.bytesLess x y then -1 else 1
theorem HO (a:List UInt8) (b:Int) (c:List UInt8) (d:Int) (W:World):Calls prog 343 #[.agg #[.string ⟨a.toArray⟩, .int .i64 b], .agg #[.string ⟨c.toArray⟩, .int .i64 d]] W fun e w'=>e= .returned (.int .i64 (cfT a c))/\ ∃q os',w'=grow (W.drewN q) os':=by
 unfold cfT;by_cases h:Op.bytesLess a c=true
 ·rw[K0 h]
  go_enter func343,ntmps343
  go_wp2_with fail
  go_ret
  exact⟨rfl,0,_,by rw[alloc_eq_grow,alloc_eq_grow,grow_grow];rfl⟩
 ·have h:Op.bytesLess a c=false:=by simpa using h
  rw[KZ (by rw[h];simp)]
  go_enter func343,ntmps343
  go_wp2_with fail
  go_ret
  exact⟨rfl,0,_,by rw[alloc_eq_grow,alloc_eq_grow,grow_grow];rfl⟩
theorem vq (ps:List (List UInt8×Int)) (hd:ps.Pairwise (fun x y=>x.1≠y.1)) (hl:ps.length<=1000) (h0:ps≠[]):
 Turns prog 342 [.func (.func 343) #[] #[]] 108 2 (ps.map oI) ((ps.mergeSort fun x y=> !Op.bytesLess y.1 x.1).map oI):=by
 have ef:=call342;have hpos:0<ps.length:=MG.2 h0
 haveI:Inhabited {p // p∈ps} :=⟨⟨ps[0],MI hpos⟩⟩
 have hlt: ∀x y: {p // p∈ps},ltOf (fun x y: {p // p∈ps} =>cfT x.1.1 y.1.1) x y=Op.bytesLess x.1.1 y.1.1:=fun x y=>by
  unfold ltOf cfT;cases k:Op.bytesLess x.1.1 y.1.1<;>simp[k]
 have hswo:SWO (ltOf fun x y: {p // p∈ps} =>cfT x.1.1 y.1.1):=by
  refine⟨fun x=> ?_,fun x y z h1 h2=> ?_,fun x y z h1 h2=> ?_⟩
  ·rw[hlt];exact fG _
  ·rw[hlt]at*;exact eM h1 h2
  ·rw[hlt]at*;cases k:Op.bytesLess x.1.1 z.1.1
   ·rfl
   ·cases k2:Op.bytesLess y.1.1 x.1.1
    ·rw[eN h1 k2]at k;rw[k]at h2;cases h2
    ·rw[eM k2 k]at h2;cases h2
 have hT: ∀x y: {p // p∈ps},ltOf (fun x y: {p // p∈ps} =>cfT x.1.1 y.1.1) x y=false->ltOf (fun x y: {p // p∈ps} =>cfT x.1.1 y.1.1) y x=false->x=y:=fun x y h1 h2=>by
  rw[hlt]at h1 h2;have e:=eN h1 h2;obtain⟨i,hi,hxi⟩:=Lp x.2;obtain⟨j,hj,hyj⟩:=Lp y.2;have hp:=LH.1 hd;apply Subtype.ext;rw[<-hxi, <-hyj]at e |-;rcases NI i j with hij|hij|hij
  ·exact absurd e (hp i j hi hj hij)
  ·subst hij;rfl
  ·exact absurd e.symm (hp j i hj hi hij)
 have hs:=qR (e:=108) Tryz.sortTm 2 Ib GJ (fun x: {p // p∈ps} =>oI x.1) (fun _=>rfl) (fun x v hv=>by simp[oI]at hv;rcases hv with rfl|rfl<;>rfl) (fun x y=>cfT x.1.1 y.1.1) hswo 343 #[] ps.attach (by simpa using hpos) (by simp;omega) ef call343
  (fun blk w m os dk _ x y=>HO _ _ _ _ _) hT
 have e1:ps.attach.map (fun x: {p // p∈ps} =>oI x.1)=ps.map oI:=by
  rw[show (fun x: {p // p∈ps} =>oI x.1)=oI ∘ Subtype.val from rfl, <-Mk,List.attach_map_subtype_val]
 have e2:(ps.attach.mergeSort fun x y=> !ltOf (fun x y: {p // p∈ps} =>cfT x.1.1 y.1.1) y x).map (fun x: {p // p∈ps} =>oI x.1)=(ps.mergeSort fun x y=> !Op.bytesLess y.1 x.1).map oI:=by
  rw[show (fun x: {p // p∈ps} =>oI x.1)=oI ∘ Subtype.val from rfl, <-Mk]
  congr 1
  rw[List.map_mergeSort (s:=fun x y:List UInt8×Int=> !Op.bytesLess y.1 x.1) (fun a _ b _=>by simp only[hlt]),List.attach_map_subtype_val]
 rw[e1,e2]at hs;exact hs
theorem ED (x:List UInt8×Int) (l:List (List UInt8×Int)) (h:l.Pairwise fun a b=>Op.bytesLess a.1 b.1=true) (hn: ∀y∈l,y.1≠x.1) (hl:l.length<=100):
 Turns prog 342 [.func (.func 343) #[] #[]] 108 2 ((l++[x]).map oI) ((insT x l).map oI):=by
 rw[<-Gj h hn];exact vq _ (Jc h hn) (by simp;omega) (by simp)
end
end
section
open Go.RowKit
def posM:List MemD->Int->Nat
 |[],_=>0
 |x::r,h=>if x.1<h then posM r h+1 else 0
theorem w7 (h:Int): ∀l:List MemD,posM l h<=l.length
 |[]=>K8 _
 | x::r=>by
   unfold posM;split
   ·have:=w7 h r;simp only[Kj];omega
   ·exact Ke _
theorem Cy {h:Int} : ∀ {l:List MemD},Srt l-> ∀ {j:Nat} {y:MemD},l[j]? =some y->(j<posM l h↔y.1<h)
 |[],_,j,y,hy=>by simp at hy
 | x::r,hs,j,y,hy=>by
   obtain⟨h1,h2⟩:=MA.1 hs;unfold posM;by_cases hx:x.1<h
   ·rw[K0 hx];cases j with
    | zero=>
      simp only[LM,KX]at hy;subst hy;exact⟨fun _=>hx,fun _=>by omega⟩
    | succ j=>
      rw[ME]at hy;have:=Cy (h:=h) h2 hy;omega
   ·rw[KZ hx];refine⟨fun h=>by omega,fun hyl=> ?_⟩;cases j with
    | zero=>
      simp only[LM,KX]at hy;subst hy;exact absurd hyl hx
    | succ j=>
      rw[ME]at hy;have:=h1 y (K1 hy);omega
def isM (l:List MemD) (h:Int):Bool:=match l[posM l h]? with
 |some y=>y.1==h
 |none=>false
theorem zM {m:MemD} : ∀ {l:List MemD},isM l m.1=true->kO l m=l.set (posM l m.1) m
 |[],h=>by simp[isM]at h
 | x::r,h=>by
   unfold kO;unfold isM at h;unfold posM at h |-;by_cases hx:x.1<m.1
   ·rw[K0 hx]at h |-;rw[K0 hx,List.set_cons_succ,zM (by unfold isM;rw[ME]at h;exact h)]
   ·rw[KZ hx]at h |-;rw[KZ hx];have h:(x.1==m.1)=true:=h;rw[K0 (by simpa using h)];rfl
theorem zN {m:MemD} : ∀ {l:List MemD},isM l m.1=false->kO l m=l.take (posM l m.1)++m::l.drop (posM l m.1)
 |[],h=>by simp[kO,posM]
 | x::r,h=>by
   unfold kO;unfold isM at h;unfold posM at h |-;by_cases hx:x.1<m.1
   ·rw[K0 hx]at h |-;rw[K0 hx,zN (by unfold isM;rw[ME]at h;exact h)];rfl
   ·rw[KZ hx]at h |-;rw[KZ hx];have h:(x.1==m.1)=false:=h;rw[KZ (by simpa using h)];rfl
theorem Jb {l:List MemD} {h:Int} (hi:isM l h=true):posM l h<l.length:=by
 unfold isM at hi;cases hg:l[posM l h]? with
 |none=>rw[hg]at hi;cases hi
 |some y=>exact(KW.1 hg).1
end
section
open Go.RowKit
theorem Bv (env:Env) (mem:List MemD) (hl:mem.length<=4096) (hm: ∀m∈mem,m.2.length<=4096):Con prog env 324 [memsAV mem] (.own 162 2 (mem.map mmAV)):=by
 refine qf func324 call324 ntmps324 results324 ?_;repeat refine st0 ?_
 refine aZ 3 3 162 2 ?_;refine lq0 mem.length (by omega) (fun j vs=>[(3, .row 3 (vs 3)),(6,memsAV mem),(7,I mem.length),(8,I j)]) (fun j _=>[(3,⟨2,(mem.take j).map mmAV,162,true⟩)]) (fun j _ esc=>esc 3=false) rfl ?_ ?_
 ·rintro j ws esc hlt g1 g2 e0;obtain⟨a,ha⟩:=gE hlt;have f0:=dC env (a.2.map intAV) (by rw[Kl];exact hm a (K1 ha));have htl:(mem.take j).length=j:=by rw[Kf];omega
  have hf:Fits (j+1) 32:=aG (by omega) (by omega);have htk:mem.take (j+1)=mem.take j++[a]:=by rw[Kv,ha];rfl
  have F:=ai7 mmAV.eq_1 g1 g2 ha htl hf e0;repeat refine tz1 f0 ?_
  refine⟨j+1,⟨hlt,by simp only[go_sem,e0]⟩,?_,?_,by omega⟩
  ·exact qe
  ·have F:=ai3 mmAV.eq_1 htk @Ki.{0,0};exact qe
 ·rintro ws esc g1 e0;have hta:mem.take mem.length=mem:=Kp;have F:=ai3 g1 hta e0;repeat refine st ?_
  exact aR
theorem yk (env:Env) (c:ChD) (hc:Right c) (L:List Int) (hl:L.length<=4000) (d:Int):Con prog env 327 [aC c, .seq 1 (L.map intAV),I d] (.own 3 1 ((underL c L d).map intAV)):=by
 have f1:=bD env c;unfold aC aP at f1;unfold aC;refine qf func327 call327 ntmps327 results327 ?_;repeat refine st0 ?_
 refine aZ 7 7 3 1 ?_;refine lq0 L.length (by omega) (fun j vs=>[(0, .ref 9 [tabCells c] 0 0),(2,I d),(7, .row 7 (vs 7)),(10, .seq 1 (L.map intAV)),(11,I L.length),(12,I j)]) (fun j _=>[(7,⟨1,(jX c L d j).map intAV,3,true⟩)]) (fun j _ esc=>esc 7=false) rfl ?_ ?_
 ·rintro j ws esc hlt q1 q2 e0;obtain⟨x,hx⟩:=gE hlt;have f3:=eX env c hc d x;unfold aP at f3;have hil:=uR c L d j;have hf:Fits ((jX c L d j).length+1) 8:=aG (by omega) (by omega);have hn:=qc (c:=c) (i:=d) hx;cases hb:aboveB c d x with
  | true=>
    rw[hb]at f3;rw[hb,K0 rfl]at hn;have F:=ai5 q1 q2 hx hf e0;repeat refine tz2 f1 f3 ?_
    refine⟨j+1,⟨hlt,by simp only[go_sem,e0]⟩,?_,?_,by omega⟩
    ·exact qe
    ·have F:=ai hn @Ki.{0,0};exact qe
  | false=>
    rw[hb]at f3;rw[hb,KZ LY]at hn;have F:=ai5 q1 q2 hx hf e0;repeat refine tz2 f1 f3 ?_
    refine⟨j+1,⟨hlt,by simp only[go_sem,e0]⟩,?_,?_,by omega⟩
    ·exact qe
    ·have F:=ai hn @Ki.{0,0};exact qe
 ·rintro ws esc q1 e0;have hall:jX c L d L.length=underL c L d:=by unfold jX underL;rw[Kp]
  rw[hall];have F:=ai q1 e0;repeat refine st ?_
  exact aR
theorem ju (env:Env) (l:List Int) (p:Int->Bool) (g:FuncId) (caps:List (List AV)) (hp: ∀d,Con prog env g [I d, .ref 1 caps 0 0] (B (p d))) (hl:l.length<=4096):Con prog env 227 [.seq 1 (l.map intAV), .clo g [.ref 1 caps 0 0]] (B (l.any p)):=by
 have f0:=pQ env l p g caps hp hl;cases hi:lI p l with
 | none=>
   rw[hi]at f0;have h0:l.any p=false:=NA.2 fun x hx=>by rw[(oc hi).2 x hx];simp
   rw[h0];unfold lJ at f0;refine qf func227 call227 ntmps227 results227 ?_;repeat refine lZ f0 ?_
   exact aR0
 | some i=>
   rw[hi]at f0;obtain⟨_,_,d,h3,h4⟩:=ob hi;have h0:l.any p=true:=L8.2 ⟨d,K1 h3,h4⟩;have q0:(0:Int)<=(i:Int):=by omega
   rw[h0];unfold lJ at f0;refine qf func227 call227 ntmps227 results227 ?_;have F:=q0;repeat refine tz1 f0 ?_
   exact aR
theorem Bd (env:Env) (G:List Int) (hG:G.length<=1000000) (i:Int):Con prog env 344 [I i, .ref 1 [[.seq 1 (G.map intAV)]] 0 0] (B (G.contains i)):=by
 have f0:=bA env G i hG;refine qf func344 call344 ntmps344 results344 ?_;repeat refine lZ f0 ?_
 exact aR0
def nO (c:ChD) (l:List Int) (j:Nat):List Int:=(l.take j).filter (innerP c l)
theorem Be {c:ChD} {l:List Int} {j:Nat} {x:Int} (h:l[j]? =some x):nO c l (j+1)=if innerP c l x then nO c l j++[x] else nO c l j:=by
 unfold nO;rw[Kv,h,LL];cases hb:innerP c l x<;>simp[hb]
theorem FE (c:ChD) (l:List Int) (j:Nat):(nO c l j).length<=l.length:=by
 unfold nO;exact Kh (Kw ..) (by rw[Kf];omega)
theorem FD (env:Env) (c:ChD) (h:Full c) (l:List Int) (hl:l.length<=4000) (hz: ∀x∈l,inZ c x=true):Con prog env 326 [aC c, .seq 1 (l.map intAV)] (.own 3 1 ((innerL c l).map intAV)):=by
 unfold aC;refine qf func326 call326 ntmps326 results326 ?_;repeat refine st0 ?_
 refine aZ 5 5 3 1 ?_;refine lq0 l.length (by omega) (fun j vs=>[(0, .ref 9 [tabCells c] 0 0),(3, .loc 3 (vs 3) 0 0),(5, .row 5 (vs 5)),(9, .seq 1 (l.map intAV)),(10,I l.length),(11,I j)]) (fun j _=>[(3,⟨1,[[.seq 1 (l.map intAV)]],27,false⟩),(5,⟨1,(nO c l j).map intAV,3,true⟩)]) (fun j _ esc=>esc 3=false/\esc 5=false) ⟨rfl,rfl⟩ ?_ ?_
 ·rintro j ws esc hlt q1 q2 ⟨e0,e1⟩;obtain⟨x,hx⟩:=gE hlt;have f2:=bN env c h x;rw[K0 (.inr (hz x (K1 hx)))]at f2;have hK:=bV h.toRight x true;have f3:=(ju env (kidZ c x) (fun d=>l.contains d) 344 [[.seq 1 (l.map intAV)]] (Bd env l (by omega)) (by rw[bg];omega)).lend rfl;rw[eB]at f3;have hil:=FE c l j;have hf:Fits ((nO c l j).length+1) 8:=aG (by omega) (by omega);have hn:=Be (c:=c) hx;have hP:innerP c l x= !((kidZ c x).any fun d=>l.contains d):=rfl;generalize ((kidZ c x).any fun d=>l.contains d)=b at*;generalize kidsL c x true=K at*;unfold aC at f2;cases b with
  | true=>
    rw[hP,MR,KZ LY]at hn;have F:=ai6 q1 q2 hx hf e0 e1;repeat refine tz1 f2 ?_
    refine lL f3 ?_;repeat refine st ?_
    refine⟨j+1,⟨hlt,by simp only[go_sem,e0],by simp only[go_sem,e1]⟩,?_,?_,by omega⟩
    ·exact qe
    ·have F:=hn;exact qe
  | false=>
    rw[hP,Li,K0 rfl]at hn;have F:=ai6 q1 q2 hx hf e0 e1;repeat refine tz1 f2 ?_
    refine lL f3 ?_;repeat refine st ?_
    refine⟨j+1,⟨hlt,by simp only[go_sem,e0],by simp only[go_sem,e1]⟩,?_,?_,by omega⟩
    ·exact qe
    ·have F:=ai hn @Ki.{0,0};exact qe
 ·rintro ws esc q1 ⟨e0,e1⟩;have hall:nO c l l.length=l.filter (innerP c l):=by unfold nO;rw[Kp]
  rw[hall];have hU:(l.filter (innerP c l)).length<=l.length:=Kw ..;unfold innerL;generalize l.filter (innerP c l)=U at*;have f4:=oz U (by omega);have F:=ai3 q1 e0 e1;repeat refine st ?_
  refine mj 5 rfl (row:=⟨1,U.map intAV,3,true⟩) f4 (LG 0) rfl (bd _).symm (by simp only[go_sem,e0,e1];exact iR) (by simp only[go_sem,e0,e1];exact iR) (by simp only[go_sem,e0,e1];exact iR) (by simp only[go_sem,e0,e1];exact iR) ?_;rw[bd];repeat refine st ?_
  exact aR
end
section
open Go.RowKit Go.ChangeShapes Go.WideShapes Go.ChangeAt
abbrev InD:=List Int×List Int×List MemD×List (List UInt8×Int)×Bool
def inE (x:InD):List AV:=[ints34 x.1,ints34 x.2.1, .seq 2 (x.2.2.1.map mmAV), .seq 2 (x.2.2.2.1.map tmAV),B x.2.2.2.2]
def ml (t:List UInt8×Int):Prop:=t.1.length<=maxLen
def Ca (x:InD):Prop:=(x.1.length<=maxLen/\x.2.1.length<=maxLen)/\(x.2.2.1.length<=maxLen/\ ∀m∈x.2.2.1,Hk m)/\x.2.2.2.1.length<=maxLen/\ ∀t∈x.2.2.2.1,ml t
theorem Jl:prog.cellsOf 4=1:=by kernel_rfl
theorem c_tm:prog.cellsOf 108=2:=by kernel_rfl
theorem Jk:prog.cellsOf 31=5:=by kernel_rfl
section
variable {H:Type} {enc:TypeId×Value->H} {w:World} {base:Nat} {spare:Nat->Bool} {held:Bool}
theorem IW (m:Nat) (cs:List Value) (y:DataW H×List MemPlace) (h:DataW.trod enc prog w base spare held m 108 cs=some y): ∃a:List UInt8×Int,RE w tmAV ml cs a:=by
 obtain⟨xs,n,_,_,hl,hxl,hg⟩:=MS Tryz.underlying108 h;rw[c_tm]at hl;obtain⟨c0,c1,rfl⟩:=B6 hl;obtain⟨y0,h0⟩:=bL hxl hg 0 _ rfl 9 0 1 rfl rfl iA;obtain⟨x0,e0, -,s0⟩:=Mz Tryz.underlying9 (show DataW.trod enc prog w base spare held n 9 [c0]=some y0 from h0);cases e0;obtain⟨⟨t0⟩⟩:=x0;obtain⟨y1,h1⟩:=bL hxl hg 1 _ rfl 3 1 1 rfl rfl c_int;obtain⟨x1,e1, -, -⟩:=Lr Tryz.underlying3 (show DataW.trod enc prog w base spare held n 3 [c1]=some y1 from h1);cases e1;exact⟨(t0,x1),⟨⟨rfl, .lit _⟩,⟨rfl, .lit _⟩,trivial⟩,(by simpa[ml,ByteArray.size]using s0)⟩
end
end
section
open Go.RowKit
end
section
open Go.RowKit
def woX (c:ChD) (act vars:List Int) (d:Int):WoD:=⟨vars,d,(List.range c.states.length).map fun k:Nat=>act.contains (k:Int)⟩
theorem Ci (c:ChD) (act vars:List Int) (d:Int):(woX c act vars d).act.map pz=flagA c.states.length act:=by
 unfold woX flagA;rw[Mk];rfl
theorem wS (c:ChD) (act vars:List Int) (d:Int):(woX c act vars d).act.length=c.states.length:=by
 unfold woX;simp
theorem cK {c:ChD} (h:Full c):ActsOk c:=by
 have hs: ∀(i:Int) (s:StD),at_ c i=some s-> ∃k,bq c k s=true:=fun i s e=>by
  unfold at_ at e;split at e
  ·exact⟨_,h.st _ s e⟩
  ·cases e
 refine⟨fun i a ha=> ?_,fun i a ha=> ?_,fun n t ht a ha=> ?_⟩
 ·unfold wa at ha;split at ha
  ·rename_i s e;obtain⟨k,hk⟩:=hs i s e;unfold bq dy at hk;simp only[KY]at hk;exact K2.1 hk.2.2 a ha
  ·simp at ha
 ·unfold inA at ha;split at ha
  ·rename_i s e;obtain⟨k,hk⟩:=hs i s e;unfold bq dy at hk;simp only[KY]at hk;exact K2.1 hk.1.2.2 a ha
  ·simp at ha
 ·have:=h.tr n t ht;unfold dP dy at this;simp only[KY]at this;exact K2.1 this.1.2.2 a ha
theorem zk {c:ChD} (h:Full c) {n:Nat} {t:TrD} (ht:c.trans[n]? =some t):t.guard=[]\/cB t.guard c.vars.length c.states.length=true:=by
 have:=h.tr n t ht;unfold dP at this;simp only[KY,Lb,LW]at this;exact this.1.1.2
def rnE (c:ChD) (x:InD) (d:Int):List AV:=[ints34 x.1,ints34 x.2.1, .seq 2 (x.2.2.1.map mmAV), .seq 2 (x.2.2.2.1.map tmAV),B x.2.2.2.2,nilS,nilS, .ref 9 [tabCells c] 0 0,Sg c.name,I c.initial,varsAV c.vars,stsAV c.states,trsAV c.trans,I d,I 0]
structure Asked (c:ChD) (x:InD) (d:Int):Prop where
 act:x.1.length<=1000
 len:x.2.1.length=c.vars.length
 fit: ∀v∈x.2.1,aJ v=true
 data:aJ d=true
 lg:lgB c x.1=true
theorem Asked.ok {c:ChD} {x:InD} {d:Int} (h:Asked c x d):(woX c x.1 x.2.1 d).Ok:=⟨h.fit,h.data⟩
theorem Dv (env:Env) (c:ChD) (hc:c.states.length<=4000) (x:InD) (d:Int) (hx:Asked c x d):Con prog env 223 [.ref 15 [rnE c x d] 0 0] (.agg (i8 (woX c x.1 x.2.1 d))):=by
 have f0:=jC env c hc x.1 (by have:=hx.act;omega);unfold aC at f0;unfold i8;rw[Ci];show Con _ _ _ _ (.agg [ints34 x.2.1,I d, .seq 1 (flagA c.states.length x.1)]);generalize flagA c.states.length x.1=L at*;refine qf func223 call223 ntmps223 results223 ?_;have F:=rnE.eq_1;repeat refine tz1 f0 ?_
 exact aR
def ri (a2:Addr):Fd->AV
 | .no=> .tuple [I (-1),nilE]
 | .one n=> .tuple [I (n:Nat),nilE]
 | .bad n=> .tuple [I (-1),errV (1000+(n:Nat)) (sentV a2)]
theorem Bj {c:ChD} {w:WoD} {n:Nat} {l:List Nat} (h:iY w (lK c n)=none):cW c w (n::l)= .bad n:=by unfold cW;rw[h]
theorem FQ {c:ChD} {w:WoD} {n:Nat} {l:List Nat} (h:iY w (lK c n)=some true):cW c w (n::l)= .one n:=by unfold cW;rw[h]
theorem Gq {c:ChD} {w:WoD} {n:Nat} {l:List Nat} (h:iY w (lK c n)=some false):cW c w (n::l)=cW c w l:=by conv=>lhs;unfold cW;rw[h]
theorem FR (env:Env) (a1 a2 a8:Addr) (he:ChEnv env a1 a8) (h2:env 2=some (sentV a2)) (c:ChD) (h:Full c) (hs:Small c) (x:InD) (d:Int) (hx:Asked c x d) (l:List Nat) (hl:l.length<=1000) (hk: ∀n∈l,n<c.trans.length):
 Con prog env 154 [.ref 15 [rnE c x d] 0 0, .seq 1 (l.map aB)] (ri a2 (cW c (woX c x.1 x.2.1 d) l)):=by
 have hfew:=h.few;have hftr:=h.ftr;have f0:=Dv env c (by omega) x d hx;have g2:=gX h2;have hvl:(woX c x.1 x.2.1 d).vars.length<=1000000:=by show x.2.1.length<=_;have:=hx.len;have:=hs.vars;omega
 have f1: ∀(n:Nat) (t:TrD),c.trans[n]? =some t-> ∀b,iY (woX c x.1 x.2.1 d) t.guard=some b->_:=fun n t ht b hb=>GB env a1 a2 a8 he h2 (woX c x.1 x.2.1 d) hx.ok hvl t.guard (by rw[wS];show _\/cB t.guard (x.2.1.length:Int) _=true;rw[hx.len];exact zk h ht) b hb;have f2: ∀(n:Nat) (t:TrD),c.trans[n]? =some t->iY (woX c x.1 x.2.1 d) t.guard=none->_:=fun n t ht hb=>EE env a1 a2 a8 he h2 (woX c x.1 x.2.1 d) hx.ok hvl t.guard (by rw[wS];show _\/cB t.guard (x.2.1.length:Int) _=true;rw[hx.len];exact zk h ht) hb;generalize woX c x.1 x.2.1 d=W at*;unfold i8 at f0 f1 f2;refine qf func154 call154 ntmps154 results154 ?_;repeat refine st0 ?_
 refine lq0 l.length (by omega) (fun j _=>[(0, .ref 15 [rnE c x d] 0 0),(10, .seq 1 (l.map aB)),(11,I l.length),(12,I j)]) (fun _ _=>[]) (fun j _ _=>cW c W l=cW c W (l.drop j)) rfl ?_ ?_
 ·rintro j vs esc hlt q1 q2 hq;obtain⟨n,hn⟩:=gE hlt;have hnl:=hk n (K1 hn);obtain⟨t,ht⟩:=gE hnl;have q3:=nlt hnl;have q4:IntKind.i64.wrap (1000+(n:Int))=1000+(n:Int):=ae (by omega) (by omega);have hdc:=bE hn;have hga:lK c n=t.guard:=by unfold lK;rw[ht]
  rw[hdc]at hq;cases hv:iY W t.guard with
  | none=>
    rw[Bj (by rw[hga];exact hv)]at hq;rw[hq];have f3:=f2 n t ht hv;have f4:=xF env [109,105,99,114,111,46,69,110,97,98,108,101,100] (1000+(n:Int)) a2 (by omega);show awp _ _ _ _ _ _;unfold ri;have F:=ai9 rnE.eq_1 bi.eq_1 aB.eq_1 hn ht q1 q3 q4 g2;repeat refine tz3 f0 f3 f4 ?_
    exact aR
  | some b=>
    have f3:=f1 n t ht b hv;cases b with
    | true=>
      rw[FQ (by rw[hga];exact hv)]at hq;rw[hq];show awp _ _ _ _ _ _;unfold ri;have F:=ai7 rnE.eq_1 bi.eq_1 aB.eq_1 hn ht q1 q3;repeat refine tz2 f0 f3 ?_
      exact aR
    | false=>
      rw[Gq (by rw[hga];exact hv)]at hq;have F:=ai8 rnE.eq_1 bi.eq_1 aB.eq_1 hn ht q1 q2 q3;repeat refine tz2 f0 f3 ?_
      exact qn (j+1) ⟨hlt,hq⟩
 ·rintro vs esc q1 hq;rw[MP]at hq;rw[hq];show awp _ _ _ _ _ _;show awp _ _ _ _ _ _;unfold cW ri;have F:=q1;repeat refine st ?_
  exact aR
theorem J4 (env:Env) (c:ChD) (h:Full c) (x:InD) (d:Int) (k:Int) (ev:List UInt8):Con prog env 155 [.ref 15 [rnE c x d] 0 0,I k,Sg ev] (.own 3 1 ((dW c k ev c.trans.length).map aB)):=by
 have hftr:=h.ftr;by_cases he:ev=[]
 ·subst he;rw[BC];have f0:=xy env c (by omega) k;unfold aC at f0;refine qf func155 call155 ntmps155 results155 ?_;have F:=rnE.eq_1;repeat refine tz1 f0 ?_
  exact aR
 ·rw[BB c k he];have f0:=vr env c (by omega) ev;have f1:=EH env c (by omega) k (evI c ev);have q0:(ev == [])=false:=by simpa using he
  unfold aC at f0 f1;refine qf func155 call155 ntmps155 results155 ?_;have F:=ai rnE.eq_1 q0;repeat refine tz2 f0 f1 ?_
  exact aR
theorem GO {c:ChD} {k:Int} {ev:List UInt8} {j n:Nat} (h:n∈dW c k ev j):n<j:=Kr.1 (Kb.1 h).1
theorem Il {c:ChD} {w:WoD} {ev:List UInt8} {k:Int} {l:List Int} (h:cW c w (dW c k ev c.trans.length)= .no):eJ c w ev (k::l)=eJ c w ev l:=by
 conv=>lhs;unfold eJ
 rw[h]
theorem Gs {c:ChD} {w:WoD} {ev:List UInt8} {k:Int} {l:List Int} {n:Nat} (h:cW c w (dW c k ev c.trans.length)= .one n):eJ c w ev (k::l)= .one n:=by
 unfold eJ;rw[h]
theorem Gu {c:ChD} {w:WoD} {ev:List UInt8} {k:Int} {l:List Int} {n:Nat} (h:cW c w (dW c k ev c.trans.length)= .bad n):eJ c w ev (k::l)= .bad n:=by
 unfold eJ;rw[h]
theorem Gt (env:Env) (a1 a2 a8:Addr) (he:ChEnv env a1 a8) (h2:env 2=some (sentV a2)) (c:ChD) (h:Full c) (hs:Small c) (x:InD) (d:Int) (hx:Asked c x d) (i:Int) (ev:List UInt8):
 Con prog env 95 [.ref 15 [rnE c x d] 0 0,I i,Sg ev] (ri a2 (eJ c (woX c x.1 x.2.1 d) ev (i::upL c i))):=by
 have hfew:=h.few;have hftr:=h.ftr;have f0:=bD env c;have f1:Con prog env 153 [aP c,I i] (.own 3 1 ((upL c i).map intAV)):=wV env c h.toRight i;have f2:=J4 env c h x d;have f3:=fun k=>FR env a1 a2 a8 he h2 c h hs x d hx (dW c k ev c.trans.length) (by have:(dW c k ev c.trans.length).length<=c.trans.length:=yS (x8 c k ev) c.trans.length;omega) (fun n hn=>GO hn);have hul:(upL c i).length<=40:=mh ..;have hf:Fits (1+(upL c i).length) 8:=aG (by omega) (by omega);have e0:[[I i]]++(upL c i).map intAV=(i::upL c i).map intAV:=rfl;have hwl:(i::upL c i).length<=4000:=by simp only[Kj];omega
 have ew:((i::upL c i).map intAV).length=(i::upL c i).length:=Kl ..;generalize woX c x.1 x.2.1 d=W at*;generalize hR:(i::upL c i)=R at*;unfold aP at f0 f1;unfold aC at f0;refine qf func95 call95 ntmps95 results95 ?_;have F:=ai3 rnE.eq_1 hf e0;repeat refine tz2 f0 f1 ?_
 have F:=rnE.eq_1;refine lq R.length (by omega) (fun j vs=>[(0, .ref 15 [rnE c x d] 0 0),(2,Sg ev),(21, .row 13 (vs 13)),(22,I R.length),(23,I j)]) (fun _ _=>[(13,⟨1,R.map intAV,3,true⟩)]) (fun j _ _=>eJ c W ev R=eJ c W ev (R.drop j)) rfl ?_ ?_
 ·rintro j vs esc hlt q1 q2 hq;obtain⟨k,hk⟩:=gE hlt;have f4:=f2 k ev;have f5:=f3 k;rw[bE hk]at hq;cases hv:cW c W (dW c k ev c.trans.length) with
  | no=>
    rw[hv]at f5;unfold ri at f5;rw[Il hv]at hq;have F:=ai4 intAV.eq_1 hk q1 q2;repeat refine tz2 f4 f5 ?_
    exact qn (j+1) ⟨hlt,hq⟩
  | one n=>
    rw[hv]at f5;unfold ri at f5;rw[Gs hv]at hq;rw[hq];have q3:(0:Int)<=(n:Int):=by omega
    show awp _ _ _ _ _ _;unfold ri;have F:=ai5 intAV.eq_1 hk q1 q2 q3;repeat refine tz2 f4 f5 ?_
    exact aR
  | bad n=>
    rw[hv]at f5;unfold ri at f5;rw[Gu hv]at hq;rw[hq];show awp _ _ _ _ _ _;unfold ri;have F:=ai4 intAV.eq_1 hk q1 q2;repeat refine tz2 f4 f5 ?_
    exact aR
 ·rintro vs esc q1 hq;rw[MP]at hq;rw[hq];show awp _ _ _ _ _ _;unfold eJ ri;have F:=q1;repeat refine st ?_
  exact aR
end
section
open Go.RowKit
theorem JV.seq {S:Nat->Nat->Prop} {w:World} {base:Nat} {v:Value} {e:TypeId} {sz:Nat} {es:List (List AV)} (h:JV S w base v e sz es):
 ∃S':Nat->Nat->Prop,(∀b o,S b o->S' b o)/\(∀b o,S' b o->S b o\/(base<=b/\b<w.heap.size))/\RV S' w v (.seq sz es):=by
 obtain⟨l,ho,hpos,hE,_⟩:=h;obtain⟨S',hS'⟩: ∃S':Nat->Nat->Prop,S'=fun b o=>S b o\/v.ownBlock=some b:=⟨_,rfl⟩;have hsup: ∀b o,S b o->S' b o/\Stay w w b o:=fun b o hh=>⟨by rw[hS'];exact .inl hh, .rfl⟩;refine⟨S',fun b o hh=>(hsup b o hh).1,fun b o hh=> ?_,?_⟩
 ·rw[hS']at hh;exact hh.imp id fun hh=>bQ ho hh
 rcases ho.2 with⟨rfl,hn⟩|⟨g,cap,cur,rfl,hb,hc,hle,_,_,htake⟩
 ·have hes:es=[]:=LJ hn;subst hes;exact .seq none 0 0 sz [] 0 0 (fun _ _=>undef) rfl (K8 _) (fun hh=>by omega) (fun i e he=>by simp at he) (fun i j c hh=>by simp[cellAt]at hh) (fun i j c hh=>by simp[cellAt]at hh)
 ·have k:=hE;refine .seq (some ⟨g,0,none⟩) es.length cap sz es g 0 (fun i j=>l.getD (i*sz+j) undef) rfl hle (fun _=>rfl) k.els (fun i j c hcc=> ?_) fun i j c hcc=> ?_
  ·obtain⟨u,h1,h2⟩:=k.cell i j c hcc;have hu:l.getD (i*sz+j) undef=u:=by simp[List.getD,h1]
   rw[hu,Lc];exact⟨by rw[hS'];exact .inr rfl,gp ho rfl _ u h1,k.one u (K1 h1)⟩
  ·obtain⟨u,h1,h2⟩:=k.cell i j c hcc;have hu:l.getD (i*sz+j) undef=u:=by simp[List.getD,h1]
   rw[hu];exact h2.mono hsup
theorem ConF.seen {P:Program} {env:Env} {f:FuncId} {cs:List AV} {e:TypeId} {sz:Nat} {es:List (List AV)} (h:ConF P env f cs (.own e sz es)):ConF P env f cs (.seq sz es):=by
 refine⟨h.enter,fun w S vs hE hl hv=>(h.calls w S vs hE hl hv).mono ?_⟩;rintro ex w' ⟨v,rfl,hb,S1,h1,hr⟩;obtain⟨S2,k1,k2,k3⟩:=JV.seq hr;exact⟨v,rfl,hb,S2,fun b o hh=>(k2 b o hh).elim (h1 b o) id,k3⟩
def RYe (c:ChD) (d now:Int) (M:List (List AV)) (o:Bool) (g:Nat->Nat):List AV:=[.row 1001 (g 1001), .row 1002 (g 1002), .seq 2 M, .row 1003 (g 1003),B o, .row 1004 (g 1004), .row 1005 (g 1005), .ref 9 [tabCells c] 0 0,Sg c.name,I c.initial,varsAV c.vars,stsAV c.states,trsAV c.trans,I d,I now]
def RY (c:ChD) (d now:Int) (r:RunD) (g:Nat->Nat):List (Nat×Row):=[(1000,⟨15,[RYe c d now (r.mem.map mmAV) r.over g],185,false⟩),(1001,⟨1,r.act.map intAV,3,true⟩),(1002,⟨1,r.vars.map intAV,3,true⟩),(1003,⟨2,r.tms.map tmAV,108,true⟩),(1004,⟨1,r.outs.map intAV,3,true⟩),(1005,⟨2,r.rais.map tmAV,33,true⟩)]
def gr5 (k:Nat):Bool:=k==1001||(k==1003||(k==1004||k==1005))
def cN (a2 a8:Addr):ErD->AV
 |none=>nilE
 |some (k,ps)=>errV (ps.headD (-1)) (chainV ps.tail (sentV (if k=2 then a2 else a8)))
theorem eK (a2 a8:Addr) (e:ErD) (L:Nat->Nat->Option (Nat×Nat)):(cN a2 a8 e).ren L=cN a2 a8 e:=by rcases e with _|⟨_,_⟩<;>rfl
theorem A8 (env:Env) (c:ChD) (hc:c.states.length<=4000) (d now:Int) (r:RunD) (hl:r.act.length<=1000000):ConI prog env 223 [1000,1001,1002,1003,1004,1005] (fun _=>false) (fun g=>[.loc 1000 (g 1000) 0 0]) (RY c d now r) (RY c d now r) (fun g=>woI (woR c d r) g):=by
 have f0:=jC env c hc r.act hl;have f0:=(f0.lend (bn (fun _=>rfl) _)).seen;have h0:(woR c d r).act.map pz=flagA c.states.length r.act:=Ci c r.act r.vars d;unfold woI;rw[h0];show ConI _ _ _ _ _ _ _ _ fun g=> .agg [.row 1002 (g 1002),I d, .seq 1 (flagA c.states.length r.act)];unfold aC at f0;generalize flagA c.states.length r.act=L at*;refine qi func223 call223 ntmps223 results223 ?_;intro vs esc hesc;obtain⟨e0,e1,e2,e3,e4,e5⟩:=es6 hesc;have F:=ai8 RY.eq_1 RYe.eq_1 e0 e1 e2 e3 e4 e5;repeat refine st ?_
 refine lL f0 ?_;repeat refine st ?_
 exact rI
theorem EI (env:Env) (G:List UInt8) (x:List UInt8×Int):Con prog env 341 [.agg (tmAV x), .ref 1 [[Sg G]] 0 0] (B (x.1==G)):=by
 have h0:(x.1==G)=(x.1.toArray==G.toArray):=by rw[LD];simp
 unfold tmAV;refine qf func341 call341 ntmps341 results341 ?_;repeat refine st0 ?_
 exact aR0
theorem yy (env:Env) (c:ChD) (d now:Int) (r:RunD) (hl:r.tms.length<=4096) (s:List UInt8):ConI prog env 319 [1000,1001,1002,1003,1004,1005] gr5 (fun g=>[.loc 1000 (g 1000) 0 0,Sg s]) (RY c d now r) (RY c d now { r with tms:=without r.tms s }) (fun _=> .lit (.tuple #[])):=by
 have f0:ConI prog env _ _ _ _ _ (fun _=>[(1000,⟨2,(without r.tms s).map tmAV,108,true⟩),_]) _:=wL env r.tms (fun x=>x.1==s) 341 s 9 (EI env s) hl;generalize without r.tms s=L at*;refine qi func319 call319 ntmps319 results319 ?_;intro vs esc hesc;have e0:=hesc 1000 (by simp);have e1:=hesc 1001 (by simp);have e2:=hesc 1002 (by simp);have e3:=hesc 1003 (by simp);have e4:=hesc 1004 (by simp);have e5:=hesc 1005 (by simp);have F:=ai9 RY.eq_1 RYe.eq_1 gr5.eq_1 e0 e1 e2 e3 e4 e5;repeat refine st ?_
 refine iL [(1000,1003),(1001,3)] f0 ?_;repeat refine st ?_
 exact rN
theorem sf (env:Env) (a8:Addr) (h8:env 7=some (sentV a8)):Con prog env 292 [] (errV (-1) (sentV a8)):=by
 have g1:=gX h8;have f0:=bT env [109,105,99,114,111,46,100,111] a8;refine qf func292 call292 ntmps292 results292 ?_;have F:=g1;repeat refine tz1 f0 ?_
 exact aR
theorem u6 (env:Env) (a2 a8:Addr) (h8:env 7=some (sentV a8)) (c:ChD) (d now:Int) (r:RunD) (s:List UInt8) (v:Int):ConI prog env 248 [1000,1001,1002,1003,1004,1005] gr5 (fun g=>[.loc 1000 (g 1000) 0 0,Sg s,I v]) (RY c d now r) (RY c d now (raiseP r s v).1) (fun _=>cN a2 a8 (raiseP r s v).2):=by
 have f0:=sf env a8 h8;unfold raiseP;by_cases hl:16<=r.rais.length
 ·rw[K0 hl];have q0:(16:Int)<=(r.rais.length:Int):=by omega
  show ConI _ _ _ _ _ _ _ _ fun _=>errV (-1) (sentV a8);refine qi func248 call248 ntmps248 results248 ?_;intro vs esc hesc;obtain⟨e0,e1,e2,e3,e4,e5⟩:=es6 hesc;have F:=ai10 RY.eq_1 RYe.eq_1 gr5.eq_1 q0 e0 e1 e2 e3 e4 e5;repeat refine tz1 f0 ?_
  exact rI
 ·rw[KZ hl];have q0: ¬(16:Int)<=(r.rais.length:Int):=by omega
  have q1:Fits (r.rais.length+1) 24:=aG (by omega) (by omega);show ConI _ _ _ _ _ _ _ _ fun _=>nilE;unfold RY;simp only[Ki,LI,Lt];refine qi func248 call248 ntmps248 results248 ?_;intro vs esc hesc;obtain⟨e0,e1,e2,e3,e4,e5⟩:=es6 hesc;have F:=ai11 RYe.eq_1 tmAV.eq_1 gr5.eq_1 q0 q1 e0 e1 e2 e3 e4 e5;repeat refine st ?_
  exact rI
theorem EN (env:Env) (a2 a8:Addr) (h2:env 2=some (sentV a2)) (h8:env 7=some (sentV a8)) (c:ChD) (d now:Int) (hn:0<=now/\now<=1099511627776) (r:RunD) (hr:RunOk c r) (s:List UInt8) (v:Int):ConI prog env 320 [1000,1001,1002,1003,1004,1005] gr5 (fun g=>[.loc 1000 (g 1000) 0 0,Sg s,I v]) (RY c d now r) (RY c d now (startP now r s v).1) (fun _=>cN a2 a8 (startP now r s v).2):=by
 have f0:=sf env a8 h8;have f1:=yy env c d now r (by have:=hr.tml;omega) s;have f2:=bT env [109,105,99,114,111,46,115,116,97,114,116] a2;have g2:=gX h2;have k0:IntKind.i64.wrap (1099511627776-now)=1099511627776-now:=ae (by omega) (by omega);unfold startP;by_cases hv:v<0\/1099511627776-now<v
 ·rw[K0 hv];show ConI _ _ _ _ _ _ _ _ fun _=>errV (-1) (sentV a2);by_cases hv0:v<0
  ·refine qi func320 call320 ntmps320 results320 ?_;intro vs esc hesc;obtain⟨e0,e1,e2,e3,e4,e5⟩:=es6 hesc;have F:=ai11 RY.eq_1 RYe.eq_1 gr5.eq_1 hv0 g2 e0 e1 e2 e3 e4 e5;repeat refine tz1 f2 ?_
   exact rI
  ·have hv1:1099511627776-now<v:=by omega
   refine qi func320 call320 ntmps320 results320 ?_;intro vs esc hesc;obtain⟨e0,e1,e2,e3,e4,e5⟩:=es6 hesc;have F:=ai12 RY.eq_1 RYe.eq_1 gr5.eq_1 hv0 hv1 k0 g2 e0 e1 e2 e3<|ai e4 e5;repeat refine tz1 f2 ?_
   exact rI
 rw[KZ hv];have hv0: ¬v<0:=by omega
 have hv1: ¬1099511627776-now<v:=by omega
 by_cases h8:8<=(without r.tms s).length
 ·rw[K0 h8];have q0:(8:Int)<=((without r.tms s).length:Int):=by omega
  show ConI _ _ _ _ _ _ _ _ fun _=>errV (-1) (sentV a8);generalize without r.tms s=L at*;unfold RY RYe at f1;refine qi func320 call320 ntmps320 results320 ?_;intro vs esc hesc;obtain⟨e0,e1,e2,e3,e4,e5⟩:=es6 hesc;have F:=ai12 RY.eq_1 RYe.eq_1 gr5.eq_1 hv0 hv1 k0 q0 e0 e1 e2 e3<|ai e4 e5;repeat refine st ?_
  refine iL L6 f1 ?_;repeat refine tz1 f0 ?_
  exact rI
 ·rw[KZ h8];have q0: ¬(8:Int)<=((without r.tms s).length:Int):=by omega
  have q1:Fits ((without r.tms s).length+1) 24:=aG (by omega) (by omega);have q2:IntKind.i64.wrap (now+v)=now+v:=ae (by omega) (by omega);have hT:=ED (s,now+v) (without r.tms s) (hr.tms.without s).rise qX (by omega);have k1:bC ((without r.tms s++[(s,now+v)]).map oI)=(without r.tms s).map tmAV++[[Sg s,I (now+v)]]:=by rw[zY,Ki];rfl
  have k2:=zY (insT (s,now+v) (without r.tms s));show ConI _ _ _ _ _ _ _ _ fun _=>nilE;generalize insT (s,now+v) (without r.tms s)=L2 at*;generalize without r.tms s=L at*;unfold RY RYe at f1;refine qi func320 call320 ntmps320 results320 ?_;intro vs esc hesc;obtain⟨e0,e1,e2,e3,e4,e5⟩:=es6 hesc;have F:=ai12 RY.eq_1 RYe.eq_1 gr5.eq_1 hv0 hv1 k0 q0 q1 q2 e0 e1<|ai4 e2 e3 e4 e5;repeat refine st ?_
  refine iL L6 f1 ?_;repeat refine st ?_
  refine vn 1003 rfl (row:=⟨2,L.map tmAV++[[Sg s,I (now+v)]],108,true⟩) (by simp only[go_sem]<;>exact iR) (by simp only[go_sem]<;>exact iR) (by simp only[go_sem]<;>exact iR) hT k1.symm rfl (LG 1) (by simp only[go_sem];exact iR) ?_;rw[k2];repeat refine st ?_
  exact rI
end
section
open Go.RowKit
theorem Jh (env:Env) (a1 a2 a8:Addr) (he:ChEnv env a1 a8) (h2:env 2=some (sentV a2)) (c:ChD) (hc:c.states.length<=4000) (hcv:c.vars.length<=1000000) (d now:Int) (hd:aJ d=true) (hn:0<=now/\now<=1099511627776) (r:RunD) (hr:RunOk c r) (hl:r.act.length<=1000000) (a:ActD) (ha:gd c.vars.length c.states.length a=true):
 ConI prog env 291 [1000,1001,1002,1003,1004,1005] gr5 (fun g=>[.loc 1000 (g 1000) 0 0, .agg (bP a)]) (RY c d now r) (RY c d now (doP c d now r a).1) (fun _=>cN a2 a8 (doP c d now r a).2):=by
 unfold doP;by_cases h5:a.kind=5
 ·rw[K0 h5];have f1:=yy env c d now r (by have:=hr.tml;omega) a.name;show ConI _ _ _ _ _ _ _ _ fun _=>nilE;generalize without r.tms a.name=L at*;have k5:(a.kind==5)=true:=by simp[h5]
  unfold RY RYe at f1;refine qi func291 call291 ntmps291 results291 ?_;intro vs esc hesc;obtain⟨e0,e1,e2,e3,e4,e5⟩:=es6 hesc;have F:=ai12 bP.eq_1 RY.eq_1 RYe.eq_1 gr5.eq_1 eK k5 e0 e1 e2 e3 e4 e5;repeat refine st ?_
  refine iL L6 f1 ?_;repeat refine st ?_
  exact rI
 rw[KZ h5]
 have hcode:cB a.code c.vars.length c.states.length=true:=by
  unfold gd at ha;repeat' split at ha
  all_goals (first|(exact absurd ‹a.kind=5› h5)|(simp only[KY]at ha;exact ha.2)|cases ha)
 have f1:=A8 env c hc d now r hl;have f2:=FZ env a1 a2 a8 he h2 (woR c d r) (H3 hr hd) (by show r.vars.length<=_;rw[hr.len];exact hcv) a.code (by rw[show (woR c d r).act.length=c.states.length from wS c r.act r.vars d,show (woR c d r).vars.length=c.vars.length from hr.len];exact hcode);have hw:(woR c d r).vars=r.vars:=rfl;generalize (woR c d r)=W at*;have k5:(a.kind==5)=false:=by simp[h5]
 unfold woI at f1 f2;unfold tY at f2;rw[hw]at f2;cases hv:pt W a.code with
 | none=>
   have f3:=fU env [109,105,99,114,111,46,100,111] (-1) (sentV a2);rw[hv]at f2;unfold jL at f2;show ConI _ _ _ _ _ _ _ _ fun _=>errV (-1) (errV (-1) (sentV a2));simp only;unfold RY RYe at f1;refine qi func291 call291 ntmps291 results291 ?_;intro vs esc hesc;obtain⟨e0,e1,e2,e3,e4,e5⟩:=es6 hesc;have F:=ai12 bP.eq_1 RY.eq_1 RYe.eq_1 gr5.eq_1 eK k5 e0 e1 e2 e3 e4 e5;repeat refine st ?_
   refine iL L6 f1 ?_;repeat refine st ?_
   refine iL [(1002,1002)] f2 ?_;repeat refine tz1 f3 ?_
   exact rI
 | some v=>
   rw[hv]at f2;unfold jL at f2;simp only;have r0:=u6 env a2 a8 he.e8 c d now r a.name v;have r1:=EN env a2 a8 h2 he.e8 c d now hn r hr a.name v;have r2:=sf env a8 he.e8;by_cases k1:a.kind=1
   ·rw[K0 k1];have q1:(a.kind==1)=true:=by simp[k1]
    obtain⟨hn0,hn1⟩:0<=a.n/\a.n<c.vars.length:=by
     unfold gd at ha;rw[K0 k1]at ha;simp only[KY,K6]at ha;exact ha.1.1
    have hlen:=hr.len;have q2:a.n< (r.vars.length:Int):=by omega
    obtain⟨x,hx⟩: ∃x,r.vars[a.n.toNat]? =some x:=⟨r.vars[a.n.toNat]'(by omega),KV _⟩;show ConI _ _ _ _ _ _ _ _ fun _=>nilE;unfold RY RYe at f1;unfold RY;simp only[NX];refine qi func291 call291 ntmps291 results291 ?_;intro vs esc hesc;obtain⟨e0,e1,e2,e3,e4,e5⟩:=es6 hesc;have F:=ai12 bP.eq_1 intAV.eq_1 RYe.eq_1 gr5.eq_1 eK k5 q1 q2 hn0 hx e0<|ai5 e1 e2 e3 e4 e5;repeat refine st ?_
    refine iL L6 f1 ?_;repeat refine st ?_
    refine iL [(1002,1002)] f2 ?_;repeat refine st ?_
    exact rI
   rw[KZ k1];have q1:(a.kind==1)=false:=by simp[k1]
   by_cases k2:a.kind=2
   ·rw[K0 k2];have q2:(a.kind==2)=true:=by simp[k2]
    generalize raiseP r a.name v=X at*;unfold RY RYe at f1 r0;refine qi func291 call291 ntmps291 results291 ?_;intro vs esc hesc;obtain⟨e0,e1,e2,e3,e4,e5⟩:=es6 hesc;have F:=ai12 bP.eq_1 RY.eq_1 RYe.eq_1 gr5.eq_1 eK k5 q1 q2 e0 e1 e2<|ai3 e3 e4 e5;repeat refine st ?_
    refine iL L6 f1 ?_;repeat refine st ?_
    refine iL [(1002,1002)] f2 ?_;repeat refine st ?_
    refine iL L6 r0 ?_;repeat refine st ?_
    exact rI
   rw[KZ k2];have q2:(a.kind==2)=false:=by simp[k2]
   by_cases k4:a.kind=4
   ·rw[K0 k4];have q4:(a.kind==4)=true:=by simp[k4]
    generalize startP now r a.name v=X at*;unfold RY RYe at f1 r1;refine qi func291 call291 ntmps291 results291 ?_;intro vs esc hesc;obtain⟨e0,e1,e2,e3,e4,e5⟩:=es6 hesc;have F:=ai12 bP.eq_1 RY.eq_1 RYe.eq_1 gr5.eq_1 eK k5 q1 q2 q4 e0 e1<|ai4 e2 e3 e4 e5;repeat refine st ?_
    refine iL L6 f1 ?_;repeat refine st ?_
    refine iL [(1002,1002)] f2 ?_;repeat refine st ?_
    refine iL L6 r1 ?_;repeat refine st ?_
    exact rI
   rw[KZ k4];have q4:(a.kind==4)=false:=by simp[k4]
   unfold IV;by_cases ho:256<=r.outs.length
   ·rw[K0 ho];have q0:(256:Int)<=(r.outs.length:Int):=by omega
    show ConI _ _ _ _ _ _ _ _ fun _=>errV (-1) (sentV a8);unfold RY RYe at f1;refine qi func291 call291 ntmps291 results291 ?_;intro vs esc hesc;obtain⟨e0,e1,e2,e3,e4,e5⟩:=es6 hesc;have F:=ai12 bP.eq_1 RY.eq_1 RYe.eq_1 gr5.eq_1 eK k5 q1 q2 q4 q0 e0<|ai5 e1 e2 e3 e4 e5;repeat refine st ?_
    refine iL L6 f1 ?_;repeat refine st ?_
    refine iL [(1002,1002)] f2 ?_;repeat refine tz1 r2 ?_
    exact rI
   ·rw[KZ ho];have q0: ¬(256:Int)<=(r.outs.length:Int):=by omega
    have q3:Fits (r.outs.length+1) 8:=aG (by omega) (by omega);show ConI _ _ _ _ _ _ _ _ fun _=>nilE;unfold RY RYe at f1;unfold RY;simp only[Ki,LI,Lt];refine qi func291 call291 ntmps291 results291 ?_;intro vs esc hesc;obtain⟨e0,e1,e2,e3,e4,e5⟩:=es6 hesc;have F:=ai12 bP.eq_1 intAV.eq_1 RYe.eq_1 gr5.eq_1 eK k5 q1 q2 q4 q0 q3<|ai6 e0 e1 e2 e3 e4 e5;repeat refine st ?_
    refine iL L6 f1 ?_;repeat refine st ?_
    refine iL [(1002,1002)] f2 ?_;repeat refine st ?_
    exact rI
structure RunEnv (env:Env) (a1 a2 a8:Addr) (c:ChD) (d now:Int):Prop where
 he:ChEnv env a1 a8
 h2:env 2=some (sentV a2)
 h:Full c
 hs:Small c
 hd:aJ d=true
 hn:0<=now/\now<=1099511627776
theorem H0 {c:ChD} {d now:Int} {r:RunD} {l:List ActD} {j:Nat} {a:ActD} (ha:l[j]? =some a):allP c d now r (l.drop j)=match doP c d now r a with
 |(r1,none)=>allP c d now r1 (l.drop (j+1))
 |x=>x:=by
 rw[bE ha]
 conv=>lhs;unfold allP
 rcases doP c d now r a with⟨r1,_|_⟩<;>rfl
theorem xW (env:Env) (a1 a2 a8:Addr) (c:ChD) (d now:Int) (E:RunEnv env a1 a2 a8 c d now) (r:RunD) (hr:RunOk c r) (hl:r.act.length<=1000000) (l:List ActD) (hll:l.length<=1000) (ha: ∀a∈l,gd c.vars.length c.states.length a=true):
 ConI prog env 247 [1000,1001,1002,1003,1004,1005] gr5 (fun g=>[.loc 1000 (g 1000) 0 0, .seq 4 (l.map bP)]) (RY c d now r) (RY c d now (allP c d now r l).1) (fun _=>cN a2 a8 (allP c d now r l).2):=by
 have hfew:=E.h.few;have hcv:=E.hs.vars;have hdo:=fun(r:RunD) hr hl (a:ActD) ha=>Jh env a1 a2 a8 E.he E.h2 c (by omega) (by omega) d now E.hd E.hn r hr hl a ha;have hok:=fun(r:RunD) (hr:RunOk c r) (a:ActD) ha=>JN E.hd E.hn hr (a:=a) ha;refine qi func247 call247 ntmps247 results247 ?_;intro vs esc hesc;obtain⟨e0,e1,e2,e3,e4,e5⟩:=es6 hesc;have F:=ai9 RY.eq_1 RYe.eq_1 gr5.eq_1 e0 e1 e2 e3 e4 e5;repeat refine st ?_
 refine lp (D:=Nat×RunD) (fun x vs'=>[(0, .loc 1000 (vs' 1000) 0 0),(8, .seq 4 (l.map bP)),(9,I l.length),(10,I x.1)]) (fun x vs'=>RY c d now x.2 vs') (fun x vs' esc'=>(x.1<=l.length/\allP c d now r l=allP c d now x.2 (l.drop x.1)/\RunOk c x.2/\x.2.act=r.act)/\(vs' 1000=vs 1000/\vs' 1002=vs 1002)/\esc' 1000=false/\esc' 1001=false/\esc' 1002=false/\esc' 1003=false/\esc' 1004=false/\esc' 1005=false) (fun x=>l.length-x.1) (0,r) ⟨⟨Ke _,rfl,hr,rfl⟩,by simp only[go_sem,Kn],by simp only[go_sem,e0,e1,e2,e3,e4,e5,Kn]⟩ ?_;try clear e0 e1 e2 e3 e4 e5
 rintro⟨j,r1⟩ ws es ⟨⟨hj,heq,hr1,hact⟩,⟨v0,v2⟩,e0,e1,e2,e3,e4,e5⟩;simp only at hj heq hr1 hact;by_cases hlt:j<l.length
 ·obtain⟨a,hx⟩:=gE hlt;have ham:=ha a (K1 hx);have f0:=hdo r1 hr1 (by rw[hact];exact hl) a ham;obtain⟨k1,k2⟩:=hok r1 hr1 a ham;have q1:=nlt hlt;have q2:=aD hlt (by omega);rw[H0 hx]at heq;rcases hX:doP c d now r1 a with⟨r2,_|⟨k,ps⟩⟩
  ·rw[hX]at heq f0 k1 k2;simp only at heq k1 k2;unfold cN RY RYe at f0;simp only at f0;unfold bP at f0;have F:=ai12 bP.eq_1 RY.eq_1 RYe.eq_1 gr5.eq_1 hx q1 q2 e0 e1 e2 e3<|ai e4 e5;repeat refine st ?_
   refine iL L6 f0 ?_;repeat refine st ?_
   refine⟨(j+1,r2),⟨⟨hlt,heq,k1,k2.act.trans hact⟩,?_,?_⟩,?_,?_,?_⟩
   ·simp only[go_sem,v0,v2,Kn]
   ·simp only[go_sem,e0,e1,e2,e3,e4,e5,Kn]
   ·exact qe
   ·exact qe
   ·simp only;omega
  ·rw[hX]at heq f0;simp only at heq;rw[heq];unfold cN RY RYe at f0;unfold bP at f0;simp only at f0;show awp _ _ _ _ _ _;unfold cN;simp only;have F:=ai12 bP.eq_1 RY.eq_1 RYe.eq_1 gr5.eq_1 hx q1 q2 v0 v2 e0 e1<|ai4 e2 e3 e4 e5;repeat refine st ?_
   refine iL L6 f0 ?_;repeat refine st ?_
   exact rI
 ·obtain rfl:j=l.length:=by omega
  have q1:=nl l.length;rw[MP]at heq;rw[heq];unfold allP;show awp _ _ _ _ _ _;unfold cN;simp only;have F:=ai12 RY.eq_1 RYe.eq_1 gr5.eq_1 q1 v0 v2 e0 e1 e2 e3 e4 e5;repeat refine st ?_
  exact rI
end
section
open Go.RowKit
end
section
open Go.RowKit
end
section
open Go.RowKit
def xZ (e:ErD):Prop:= ∀x,e=some x->x.1=2\/x.1=8
theorem sX (r:RunD) (s:List UInt8) (v:Int):xZ (raiseP r s v).2:=by
 unfold raiseP;split<;>(intro x h;cases h);exact .inr rfl
theorem KH (c:ChD) (d now:Int) (r:RunD) (a:ActD):xZ (doP c d now r a).2:=by
 unfold doP;split
 ·intro x h;cases h
 split
 ·intro x h;cases h;exact .inl rfl
 split
 ·intro x h;cases h
 split
 ·exact sX _ _ _
 split
 ·unfold startP;split
  ·intro x h;cases h;exact .inl rfl
  split
  ·intro x h;cases h;exact .inr rfl
  ·intro x h;cases h
 ·unfold IV;split
  ·intro x h;cases h;exact .inr rfl
  ·intro x h;cases h
theorem xr (c:ChD) (d now:Int): ∀(l:List ActD) (r:RunD),xZ (allP c d now r l).2
 |[],r=>fun x h=>by cases h
 | a::l,r=>by
   unfold allP;split
   ·exact xr c d now l _
   ·exact KH c d now r a
end

end Go.Proofs.YtbjldjekgepopaaGreatDoor