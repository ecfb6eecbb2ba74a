/- Package micro: which transitions are enabled. -/
import Derived.Shelf.SlSortCmp.NoneTotal
import Derived.Test.YtfhkmjbjafeckaaGreatDoorP24
set_option linter.unusedSimpArgs false
set_option linter.defProp false
namespace Go.Proofs.YtfhkmjbjafeckaaGreatDoor
open Go.Proofs.Tryz
open Go.RowKit
set_option maxRecDepth 100000
set_option maxHeartbeats 16000000
def pQ(p:(List UInt8×Int)->Bool):List (List UInt8×Int)->Option Nat
 |[]=>none
 |d::l=>if p d=true then some 0 else(pQ p l).map (· +1)
def xG{p:(List UInt8×Int)->Bool} : ∀ {l:List (List UInt8×Int)}{i:Nat},pQ p l=some i->i<l.length/\l.take i=(l.take i).filter (fun d=> !p d)/\ ∃d,l[i]? =some d/\p d=true
 |[],i,h=>by simp[pQ]at h
 | d::l,i,h=>by
   unfold pQ at h;split at h
   ·rename_i a;cases h;exact⟨by simp,by simp,d,rfl,a⟩
   ·rename_i a;cases b:pQ p l with
    |none=>rw[b]at h;cases h
    | some j=>
      rw[b]at h;cases h;obtain⟨g,c,x,e,f⟩:=xG b;refine⟨by simp;omega,?_,x,by simpa using e,f⟩;have a:p d=false:=by simpa using a
      simp only[List.take_succ_cons,Oz,a,OT,Nt];rw[<-c]
def xH{p:(List UInt8×Int)->Bool} : ∀ {l:List (List UInt8×Int)},pQ p l=none->l.filter (fun d=> !p d)=l/\ ∀d∈l,p d=false
 |[],h=>by simp
 | d::l,h=>by
   unfold pQ at h;split at h
   ·cases h
   ·rename_i a;have a:p d=false:=by simpa using a
    cases c:pQ p l with
    |some j=>rw[c]at h;cases h
    | none=>
      obtain⟨e,f⟩:=xH c;refine⟨by simp only[Oz,a,OT,Nt,e],fun x b=> ?_⟩;rcases NV.1 b with rfl|b
      ·exact a
      exact f x b
def Hb{p:(List UInt8×Int)->Bool}{l:List (List UInt8×Int)}{n:Nat}{d:(List UInt8×Int)}(a:l[n]? =some d):pQ p (l.drop n)=if p d=true then some 0 else(pQ p (l.drop (n+1))).map (· +1):=by
 rw[au a];rfl
def Ag(env:b8)(l:List (List UInt8×Int))(p:(List UInt8×Int)->Bool)(g:FuncId)(a:List (List AV))(m: ∀d,b7 prog env g [.agg (c0 d), .ref 1 a 0 0] (B (p d)))(o:l.length<=4096):b7 prog env 302 [.seq 2 (l.map c0), .clo g [.ref 1 a 0 0]] (I (mS (pQ p l))):=by
 refine qf func302 call302 ntmps302 results302 ?_;repeat refine m9 ?_
 refine RK l.length (by omega) (fun n i=>[(0, .seq 2 (l.map c0)),(1, .clo g [.ref 1 a 0 0]),(7,I l.length),(8,I n)]) (fun n i=>[]) (fun n _ c=>pQ p l=(pQ p (l.drop n)).map (· +n)) (by simp) ?_ ?_
 ·rintro n i c e f j b;obtain⟨d,h⟩:=gE e;have f1:=m d;unfold c0 at f1;rw[Hb h]at b;cases k:p d
  ·rw[k]at b f1;simp only[NU,OA]at b;have F:=hU UG h f j;repeat refine st ?_
   refine oC (cM rfl (by simp only[go_sem,F];exact iR)) (f1) (by simp only[go_sem,F];exact iR) (by simp only[go_sem,F];exact⟨rfl,rfl⟩) ?_;repeat refine st ?_
   refine⟨n+1,⟨e,?_⟩,?_,?_,?_⟩
   ·rw[b];cases pQ p (l.drop (n+1))
    ·rfl
    simp;omega
   ·exact qe
   ·exact qe
   omega
  rw[k]at b f1;simp only[Nt,NT,OM]at b;rw[b];have F:=i' UG h f j UX mS.eq_2;repeat refine st ?_
  refine oC (cM rfl (by simp only[go_sem,F];exact iR)) (f1) (by simp only[go_sem,F];exact iR) (by simp only[go_sem,F];exact⟨rfl,rfl⟩) ?_;exact ek
 rintro i c f b;rw[OG (by omega)]at b;rw[b];have F:=g9 f UX mS.eq_2 pQ.eq_1 pQ.eq_2;exact ek
def yY(env:b8)(l:List (List UInt8×Int))(p:(List UInt8×Int)->Bool)(g:FuncId)(G:List UInt8)(P:TypeId)(U: ∀d,b7 prog env g [.agg (c0 d), .ref 1 [[Sg G]] 0 0] (B (p d)))(hl:l.length<=4096):
 ip prog env 289 [1000,1001] (fun k=>k==1000) (fun vs=>[.row 1000 (vs 1000), .clo g [.loc 1001 (vs 1001) 0 0]]) (fun _=>[(1000,⟨2,l.map c0,98,true⟩),(1001,⟨1,[[Sg G]],P,false⟩)]) (fun _=>[(1000,⟨2,(l.filter fun d=> !p d).map c0,98,true⟩),(1001,⟨1,[[Sg G]],P,false⟩)]) (fun vs=> .row 1000 (vs 1000)):=by
 have f0:=(Ag env l p g [[Sg G]] U hl).lend rfl;cases t:pQ p l with
 | none=>
   rw[t]at f0;obtain⟨m,_⟩:=xH t;rw[m];refine qi func289 call289 ntmps289 results289 ?_;intro vs z h;obtain⟨e,f⟩:=RC h;have F:=hU e f UX mS.eq_2;repeat refine st ?_
   refine lL f0 ?_;repeat refine st ?_
   exact rI
 | some s=>
   rw[t]at f0;obtain⟨m,E,d0,H,J⟩:=xG t;have R:((s:Int) == -1)=false:=by simp
   have r:=aD m (by omega);refine qi func289 call289 ntmps289 results289 ?_;intro vs z h;obtain⟨e,f⟩:=RC h;have F:=i' e f UX mS.eq_2 R r;repeat refine st ?_
   refine lL f0 ?_;repeat refine st ?_
   refine aH (D:=Nat×List (List UInt8×Int)) (fun x i=>[(0, .row 1000 (i 1000)),(1, .clo g [.loc 1001 (i 1001) 0 0]),(5,I (((l.take x.1).filter fun d=> !p d).length:Int)),(6,I (x.1:Int))]) (fun x i=>[(1000,⟨2,x.2.map c0,98,true⟩),(1001,⟨1,[[Sg G]],P,false⟩)]) (fun x i o=>(x.1<=l.length/\x.2.length=l.length/\((l.take x.1).filter fun d=> !p d).length<x.1/\x.2.take ((l.take x.1).filter fun d=> !p d).length=(l.take x.1).filter (fun d=> !p d)/\x.2.drop x.1=l.drop x.1)/\i 1001=vs 1001/\o 1000=false/\o 1001=false) (fun x=>l.length-x.1) (s+1,l) ?_ ?_ ?_ ?_
   ·have b:(l.take (s+1)).filter (fun d=> !p d)=l.take s:=by
     rw[bV H,N5, <-E];simp[J]
    refine⟨⟨m,rfl,?_,?_,rfl⟩,by simp only[go_sem],by simp only[go_sem,e],by simp only[go_sem,f]⟩
    ·rw[b,NJ];omega
    simp only;rw[b,NJ,P4 (by omega)]
   ·have b:((l.take (s+1)).filter fun d=> !p d).length=s:=by
     rw[bV H,N5, <-E];simp[J];omega
    simp only[b];exact qe
   ·exact qe
   try clear e f R r m E H J t
   rintro⟨j,L⟩ ws es ⟨⟨hj,K,hc,u,w⟩,Q,e,f⟩;simp only at hj K hc u w;generalize a:((l.take j).filter fun d=> !p d).length=c at*;by_cases n:j<l.length
   ·obtain⟨d,V⟩:=gE n
    have v:L[j]? =some d:=by
     have:=N6 (fun q:List (List UInt8×Int)=>q[0]?) w;simpa[V]using this
    have f1:=U d;unfold c0 at f1;have r:(j:Int)< (L.length:Int):=by omega
    have S:=aD n (by omega);have T:=bV V;cases m:p d
    ·rw[m]at f1;obtain⟨y,hy⟩: ∃x,L[c]? =some x:=⟨L[c]'(by omega),Mq (by omega)⟩;have A:(c:Int)< (L.length:Int):=by omega
     have C:IntKind.i64.wrap ((c:Int)+1)=((c+1:Nat):Int):=aD (show c<l.length by omega) (by omega);have b:((l.take (j+1)).filter fun d=> !p d)=(l.take j).filter (fun d=> !p d)++[d]:=by rw[T,N5];simp[m]
     have hs:(L.map c0).set c [Sg d.1,I d.2]=(L.set c d).map c0:=by rw[QC];rfl
     have F:=lE UG v hy e f r S A C hs;repeat refine st ?_
     refine oL (cM rfl (by simp only[go_sem,F];exact iR)) (f1.lend rfl) (by simp only[go_sem,F];exact iR) (by simp only[go_sem,F];exact⟨rfl,rfl⟩) ?_;repeat refine st ?_
     refine⟨(j+1,L.set c d),⟨⟨n,by simpa using K,?_,?_,?_⟩,?_,?_,?_⟩,?_,?_,?_⟩
     ·simp only[b,My,Na,a];omega
     ·simp only[b,My,Na,a];rw[<-u];apply Nv;intro k;rw[N8,O0];by_cases hk:k<c
      ·rw[Mw (by omega),Mt (by omega),Nb (by simp;omega),N8,Mw hk]
      by_cases N:k=c
      ·subst N;rw[Mw (by omega),Mw rfl,Mw (by omega),N3 (by rw[NJ];omega),NJ,P4 (by omega)];simp
      rw[Mt (by omega),NI (by rw[My,NJ,Na];omega)]
     ·simp only;rw[List.drop_set_of_lt (by omega)];have:=N6 (List.drop 1) w;simpa[Qz]using this
     ·simp only[go_sem,Q]
     ·simp only[go_sem,e]
     ·simp only[go_sem,f]
     ·have O:((l.take (j+1)).filter fun d=> !p d).length=c+1:=by rw[b,My,a];rfl
      simp only[O];exact qe
     ·exact qe
     simp only;omega
    rw[m]at f1;have b:((l.take (j+1)).filter fun d=> !p d)=(l.take j).filter (fun d=> !p d):=by rw[T,N5];simp[m]
    have F:=i' UG v e f r S;repeat refine st ?_
    refine oL (cM rfl (by simp only[go_sem,F];exact iR)) (f1.lend rfl) (by simp only[go_sem,F];exact iR) (by simp only[go_sem,F];exact⟨rfl,rfl⟩) ?_;repeat refine st ?_
    refine⟨(j+1,L),⟨⟨n,K,?_,?_,?_⟩,?_,?_,?_⟩,?_,?_,?_⟩
    ·simp only[b,a];omega
    ·simp only[b,a];exact u
    ·simp only;have:=N6 (List.drop 1) w;simpa[Qz]using this
    ·simp only[go_sem,Q]
    ·simp only[go_sem,e]
    ·simp only[go_sem,f]
    ·simp only[b,a];exact qe
    ·exact qe
    simp only;omega
   have r: ¬(j:Int)< (L.length:Int):=by omega
   have M:l.take j=l:=Nq (by omega);rw[M]at u a;have A:(c:Int)<=(L.length:Int):=by omega
   have C:c<=L.length:=by omega
   have W: ∀X:List (List AV),((L.take c).map c0++X).take c=(l.filter fun d=> !p d).map c0:=fun X=>by
    rw[Pr (by rw[NQ,NJ];omega),u]
   have Y:c+(L.length-c)=L.length:=by omega
   have Z:min c L.length=c:=by omega
   have F:=ql Q e f @NJ.{0} @List.length_replicate.{0} r A C W Y Z;repeat refine st ?_
   exact rI
end Go.Proofs.YtfhkmjbjafeckaaGreatDoor
namespace Go.Proofs.YtfhkmjbjafeckaaGreatDoor
open Go.Proofs.Tryz
open Go.RowKit Go.Sort Go.Shelf Go.Lib
section
variable {α:Type} [Inhabited α]
theorem t6(enc:α->List Value)(k:Nat)(a: ∀x,(enc x).length=k)(d:List α):flatK enc k d.toArray=(d.map enc).flatten.toArray:=by
 have j: ∀l∈d.map enc,l.length=k:=fun l c=>by
  obtain⟨x,_,rfl⟩:=NE.1 c;exact a x
 have c:=eE (d.map enc) j;apply Array.ext';apply Nv;intro p;by_cases e:p<d.length*k
 ·have b:0<k:=by
   rcases Nat.eq_zero_or_pos k with h|h
   ·subst h;simp at e
   exact h
  have g:p/k<d.length:=Pz (by rw[P3];exact e);have i:p%k<k:=Q4 _ b;have f:=fo (d.map enc) j (p/k) (p%k) (enc d[p/k]) ((enc d[p/k])[p%k]'(by rw[a];exact i)) (by simp[g]) (Mq _);rw[Q9]at f;rw[Qd,f,Ph];simp[flatK,e,g,a,i]
 rw[NI (by simp;omega),NI (by simp[c];omega)]
theorem ru{P:Program}{ρ:Ren}(L:SlLaysF0.n6 P ρ){e:TypeId}(k:Nat)(q: ∀w,(isAgg (ρ.t 24)).run P w= .ok true w)(D: ∀w,(Go.sizeOf (ρ.t 24)).run P w= .ok k w)(enc:α->List Value)(h: ∀x,(enc x).length=k)(p: ∀x,∀v∈enc x,v.oneCell'=true)
 (a:α->α->Int)(u:SWO (ltOf a))(g:Nat)(i:Array Value)(d:List α)(B:0<d.length)(o:d.length<4611686018427387904)(r: ∀(args:Array Value)(w:World),(callFunc (ρ.f 6) args).run P w= .ok (.enter (ρ.f 6) args) w)(s: ∀args w,(callFunc g args).run P w= .ok (.enter g args) w)
 (f: ∀j w,CmpLays P g i enc k a j 0 d.length w)(z: ∀x y,(ltOf a) x y=false->(ltOf a) y x=false->x=y):
 CT P (ρ.f 6) [.func (.func g) #[] i] e k (d.map enc) ((d.mergeSort fun x y=> !(ltOf a) y x).map enc):=by
 refine kD (by simpa using B) r (by simp) (fun l m=> ?_) (fun l m=> ?_) fun w b c t A=> ?_
 ·obtain⟨x,_,rfl⟩:=NE.1 m;exact h x
 ·obtain⟨x,_,rfl⟩:=NE.1 m;exact⟨h x,p x⟩
 have:=AnyQ.slices_SortFunc_total L k q D enc h p a u g i b 0 c d.toArray w s (by simpa using f b w) (by unfold HoldsK;rw[t6 enc k h];exact t) A (by simpa using o) z;rw[NQ];refine(by simpa using this:Calls P (ρ.f 6) #[.slice (some ⟨b,0,none⟩) d.length c, .func (.func g) #[] i] w _).mono ?_;rintro E G ⟨rfl,n,C,rfl⟩;refine⟨rfl,n,C,?_⟩;unfold sortWorldK putRowK;rw[t6 enc k h]
end
end Go.Proofs.YtfhkmjbjafeckaaGreatDoor
namespace Go.Proofs
open Go.Shelf
def Tryz.sortTm_ren:Go.Shelf.Ren:=⟨fun|6=>292|15=>152|14=>306|28=>216|29=>217|20=>315|21=>316|22=>317|23=>318|24=>319|25=>320|26=>321|27=>322|46=>325|47=>247|48=>248|49=>326|50=>327|57=>329|n=>n,fun|22=>35|24=>98|25=>344|3=>3|39=>231|0=>0|53=>168|55=>288|4=>4|46=>282|45=>281|50=>179|5=>5|9=>9|66=>309|70=>313|76=>332|77=>71|n=>n,fun|n=>n⟩
def Tryz.sortTm:Go.Proofs.SlLaysF0.n6 prog Tryz.sortTm_ren:={
 mixed:=by kernel_rfl
 f6:=⟨Tryz.f292.name,by decide,func292.trans (congrArg some (by kernel_rfl))⟩
 f14:=⟨Tryz.f306.name,by decide,func306.trans (congrArg some (by kernel_rfl))⟩
 f15:=func152.trans (congrArg some (by kernel_rfl))
 f20:=⟨Tryz.f315.name,by decide,func315.trans (congrArg some (by kernel_rfl))⟩
 f21:=⟨Tryz.f316.name,by decide,func316.trans (congrArg some (by kernel_rfl))⟩
 f22:=⟨Tryz.f317.name,by decide,func317.trans (congrArg some (by kernel_rfl))⟩
 f23:=⟨Tryz.f318.name,by decide,func318.trans (congrArg some (by kernel_rfl))⟩
 f24:=⟨Tryz.f319.name,by decide,func319.trans (congrArg some (by kernel_rfl))⟩
 f25:=⟨Tryz.f320.name,by decide,func320.trans (congrArg some (by kernel_rfl))⟩
 f26:=⟨Tryz.f321.name,by decide,func321.trans (congrArg some (by kernel_rfl))⟩
 f27:=⟨Tryz.f322.name,by decide,func322.trans (congrArg some (by kernel_rfl))⟩
 f28:=func216.trans (congrArg some (by kernel_rfl))
 f29:=func217.trans (congrArg some (by kernel_rfl))
 f46:=⟨Tryz.f325.name,by decide,func325.trans (congrArg some (by kernel_rfl))⟩
 f47:=func247.trans (congrArg some (by kernel_rfl))
 f48:=func248.trans (congrArg some (by kernel_rfl))
 f49:=⟨Tryz.f326.name,by decide,func326.trans (congrArg some (by kernel_rfl))⟩
 f50:=⟨Tryz.f327.name,by decide,func327.trans (congrArg some (by kernel_rfl))⟩
 f57:=⟨Tryz.f329.name,by decide,func329.trans (congrArg some (by kernel_rfl))⟩
 t0:=Tryz.underlying0
 a0:=Tryz.isAgg0
 z0:=Tryz.sizeOf0
 v0:=Tryz.zeroValue0
 t3:=Tryz.underlying3
 a3:=Tryz.isAgg3
 z3:=Tryz.sizeOf3
 v3:=Tryz.zeroValue3
 t4:=Tryz.underlying4
 a4:=Tryz.isAgg4
 z4:=Tryz.sizeOf4
 v4:=Tryz.zeroValue4
 t5:=Tryz.underlying5
 a5:=Tryz.isAgg5
 z5:=Tryz.sizeOf5
 v5:=Tryz.zeroValue5
 t9:=Tryz.underlying9
 a9:=Tryz.isAgg9
 z9:=Tryz.sizeOf9
 v9:=Tryz.zeroValue9
 t22:=Tryz.underlying35
 a22:=Tryz.isAgg35
 z22:=Tryz.sizeOf35
 v22:=Tryz.zeroValue35
 t25:=Tryz.underlying344
 a25:=Tryz.isAgg344
 z25:=Tryz.sizeOf344
 v25:=Tryz.zeroValue344
 t39:=Tryz.underlying231
 a39:=Tryz.isAgg231
 z39:=Tryz.sizeOf231
 v39:=Tryz.zeroValue231
 t45:=Tryz.underlying281
 a45:=Tryz.isAgg281
 z45:=Tryz.sizeOf281
 v45:=Tryz.zeroValue281
 t46:=Tryz.underlying282
 a46:=Tryz.isAgg282
 z46:=Tryz.sizeOf282
 v46:=Tryz.zeroValue282
 t50:=Tryz.underlying179
 a50:=Tryz.isAgg179
 z50:=Tryz.sizeOf179
 v50:=Tryz.zeroValue179
 t53:=Tryz.underlying168
 a53:=Tryz.isAgg168
 z53:=Tryz.sizeOf168
 v53:=Tryz.zeroValue168
 t55:=Tryz.underlying288
 a55:=Tryz.isAgg288
 z55:=Tryz.sizeOf288
 v55:=Tryz.zeroValue288
 t66:=Tryz.underlying309
 a66:=Tryz.isAgg309
 z66:=Tryz.sizeOf309
 v66:=Tryz.zeroValue309
 t70:=Tryz.underlying313
 a70:=Tryz.isAgg313
 z70:=Tryz.sizeOf313
 v70:=Tryz.zeroValue313
 t76:=Tryz.underlying332
 a76:=Tryz.isAgg332
 z76:=Tryz.sizeOf332
 v76:=Tryz.zeroValue332
 t77:=Tryz.underlying71
 a77:=Tryz.isAgg71
 z77:=Tryz.sizeOf71
 v77:=Tryz.zeroValue71 }
end Go.Proofs
set_option linter.unusedSimpArgs false
namespace Go.Proofs.YtfhkmjbjafeckaaGreatDoor
open Go.Proofs.Tryz
open Go.RowKit
set_option maxRecDepth 100000
set_option maxHeartbeats 1000000
def pY(p:List UInt8×Int):List Value:=[.string ⟨p.1.toArray⟩, .int .i64 p.2]
def Bg(l:List (List UInt8×Int)):bO (l.map pY)=l.map c0:=by simp[bO,pY,c0,Sg,I]
def uo(x:List UInt8×Int): ∀l,(tg x l).Perm (l++[x])
 |[]=> .refl _
 | y::l=>by
   unfold tg;split
   ·exact(List.perm_append_comm (l₁:=[x]) (l₂:=y::l))
   exact(uo x l).cons y
def JU{x:List UInt8×Int}{l:List (List UInt8×Int)}(h:l.Pairwise fun a b=>Op.bytesLess a.1 b.1=true)(B: ∀y∈l,y.1≠x.1):(l++[x]).mergeSort (fun x y=> !Op.bytesLess y.1 x.1)=tg x l:=by
 have o:=ul h B
 have u:((l++[x]).mergeSort fun x y=> !Op.bytesLess y.1 x.1).Pairwise fun x y=>(!Op.bytesLess y.1 x.1)=true:=Qt (fun a b c d g=>by
  simp only[Nx]at*;cases k:Op.bytesLess c.1 a.1
  ·rfl
  ·cases s:Op.bytesLess b.1 a.1
   ·cases t:Op.bytesLess a.1 b.1
    ·rw[<-dy t s,k]at g;cases g
    rw[fF k t]at g;cases g
   rw[s]at d;cases d) (fun a b=>by
  cases k:Op.bytesLess b.1 a.1
  ·simp
  rw[pF k];simp) (l++[x])
 refine(Qj (le:=fun x y=>(!Op.bytesLess y.1 x.1)=true) ?_ (o.imp fun {a b} h=>by simp[pF h]) u ((uo x l).trans (Qf _ _).symm)).symm;intro a b z A v w;have e:a.1=b.1:=dy (by simpa using w) (by simpa using v);by_cases d:a=b
 ·exact d
 exfalso
 obtain⟨i,p,m⟩:=OX z;obtain⟨j,q,n⟩:=OX (((uo x l).trans (Qf _ _).symm).mem_iff.2 A);have r:=Nn.1 o;rcases Px i j with f|f|f
 ·have:=r i j p q f;rw[m,n,e,eP]at this;cases this
 ·subst f;exact d (m.symm.trans n)
 have:=r j i q p f;rw[m,n,e,eP]at this;cases this
def MD{x:List UInt8×Int}{l:List (List UInt8×Int)}(h:l.Pairwise fun a b=>Op.bytesLess a.1 b.1=true)(f: ∀y∈l,y.1≠x.1):(l++[x]).Pairwise fun x y=>x.1≠y.1:=by
 rw[Pk];refine⟨h.imp (fun {a b} h e=>by rw[e,eP]at h;cases h),QJ _ _,fun a c b d=> ?_⟩;obtain rfl:=NO.1 d;exact f a c
section
open Go.Shelf Go.Lib Go.Sort
def LB: ∀w,(isAgg 98).run prog w= .ok true w:=fun w=>by kernel_rfl
def Ii: ∀w,(Go.sizeOf 98).run prog w= .ok 2 w:=fun w=>by kernel_rfl
def TG(x y:List UInt8):Int:=if Op.bytesLess x y then -1 else 1
def Jh(a:List UInt8)(b:Int)(c:List UInt8)(d:Int)(W:World):Calls prog 293 #[.agg #[.string ⟨a.toArray⟩, .int .i64 b], .agg #[.string ⟨c.toArray⟩, .int .i64 d]] W fun e w'=>e= .returned (.int .i64 (TG a c))/\ ∃q os',w'=grow (W.drewN q) os':=by
 unfold TG;by_cases h:Op.bytesLess a c=true
 ·rw[Mw h]
  go_enter func293,ntmps293
  go_wp2_with fail
  go_ret
  exact⟨rfl,0,_,by rw[alloc_eq_grow,alloc_eq_grow,grow_grow];rfl⟩
 have h:Op.bytesLess a c=false:=by simpa using h
 rw[Mt (by rw[h];simp)]
 go_enter func293,ntmps293
 go_wp2_with fail
 go_ret
 exact⟨rfl,0,_,by rw[alloc_eq_grow,alloc_eq_grow,grow_grow];rfl⟩
def yA(ps:List (List UInt8×Int))(J:ps.Pairwise (fun x y=>x.1≠y.1))(L:ps.length<=1000)(H:ps≠[]):
 CT prog 292 [.func (.func 293) #[] #[]] 98 2 (ps.map pY) ((ps.mergeSort fun x y=> !Op.bytesLess y.1 x.1).map pY):=by
 have G:=call292;have g:0<ps.length:=O2.2 H
 haveI:Inhabited {p // p∈ps} :=⟨⟨ps[0],Oq g⟩⟩
 have d: ∀x y: {p // p∈ps},ltOf (fun x y: {p // p∈ps} =>TG x.1.1 y.1.1) x y=Op.bytesLess x.1.1 y.1.1:=fun x y=>by
  unfold ltOf TG;cases k:Op.bytesLess x.1.1 y.1.1<;>simp[k]
 have l:SWO (ltOf fun x y: {p // p∈ps} =>TG x.1.1 y.1.1):=by
  refine⟨fun x=> ?_,fun x y z h f=> ?_,fun x y z h f=> ?_⟩
  ·rw[d];exact eP _
  ·rw[d]at*;exact fF h f
  rw[d]at*;cases k:Op.bytesLess x.1.1 z.1.1
  ·rfl
  cases B:Op.bytesLess y.1.1 x.1.1
  ·rw[dy h B]at k;rw[k]at f;cases f
  rw[fF B k]at f;cases f
 have I: ∀x y: {p // p∈ps},ltOf (fun x y: {p // p∈ps} =>TG x.1.1 y.1.1) x y=false->ltOf (fun x y: {p // p∈ps} =>TG x.1.1 y.1.1) y x=false->x=y:=fun x y h f=>by
  rw[d]at h f;have e:=dy h f;obtain⟨i,q,n⟩:=OX x.2;obtain⟨j,r,o⟩:=OX y.2;have t:=Nn.1 J;apply Subtype.ext;rw[<-n, <-o]at e |-;rcases Px i j with c|c|c
  ·exact absurd e (t i j q r c)
  ·subst c;rfl
  exact absurd e.symm (t j i r q c)
 have u:=ru (e:=98) Tryz.sortTm 2 LB Ii (fun x: {p // p∈ps} =>pY x.1) (fun _=>rfl) (fun x v A=>by simp[pY]at A;rcases A with rfl|rfl<;>rfl) (fun x y=>TG x.1.1 y.1.1) l 293 #[] ps.attach (by simpa using g) (by simp;omega) G call293
  (fun C w m M K _ x y=>Jh _ _ _ _ _) I
 have D:ps.attach.map (fun x: {p // p∈ps} =>pY x.1)=ps.map pY:=by
  rw[show (fun x: {p // p∈ps} =>pY x.1)=pY ∘ Subtype.val from rfl, <-P5,List.attach_map_subtype_val]
 have E:(ps.attach.mergeSort fun x y=> !ltOf (fun x y: {p // p∈ps} =>TG x.1.1 y.1.1) y x).map (fun x: {p // p∈ps} =>pY x.1)=(ps.mergeSort fun x y=> !Op.bytesLess y.1 x.1).map pY:=by
  rw[show (fun x: {p // p∈ps} =>pY x.1)=pY ∘ Subtype.val from rfl, <-P5]
  congr 1
  rw[List.map_mergeSort (s:=fun x y:List UInt8×Int=> !Op.bytesLess y.1 x.1) (fun a _ b _=>by simp only[d]),List.attach_map_subtype_val]
 rw[D,E]at u;exact u
def GH(x:List UInt8×Int)(l:List (List UInt8×Int))(h:l.Pairwise fun a b=>Op.bytesLess a.1 b.1=true)(c: ∀y∈l,y.1≠x.1)(d:l.length<=100):
 CT prog 292 [.func (.func 293) #[] #[]] 98 2 ((l++[x]).map pY) ((tg x l).map pY):=by
 rw[<-JU h c];exact yA _ (MD h c) (by simp;omega) (by simp)
end
end Go.Proofs.YtfhkmjbjafeckaaGreatDoor
namespace Go.Proofs.YtfhkmjbjafeckaaGreatDoor
open Go.Proofs.Tryz
open Go.RowKit
def By:List ds->Int->Nat
 |[],_=>0
 |x::r,h=>if x.1<h then By r h+1 else 0
def ym(h:Int): ∀l:List ds,By l h<=l.length
 |[]=>NC _
 | x::r=>by
   unfold By;split
   ·have:=ym h r;simp only[NN];omega
   exact NG _
def FF{h:Int} : ∀ {l:List ds},Sj l-> ∀ {j:Nat}{y:ds},l[j]? =some y->(j<By l h↔y.1<h)
 |[],_,j,y,a=>by simp at a
 | x::r,f,j,y,a=>by
   obtain⟨d,e⟩:=Od.1 f;unfold By;by_cases b:x.1<h
   ·rw[Mw b];cases j with
    | zero=>
      simp only[Nr,Ms]at a;subst a;exact⟨fun _=>b,fun _=>by omega⟩
    | succ j=>
      rw[Og]at a;have:=FF (h:=h) e a;omega
   ·rw[Mt b];refine⟨fun h=>by omega,fun c=> ?_⟩;cases j with
    | zero=>
      simp only[Nr,Ms]at a;subst a;exact absurd c b
    | succ j=>
      rw[Og]at a;have:=d y (Mv a);omega
def Tj(l:List ds)(h:Int):Bool:=match l[By l h]? with
 |some y=>y.1==h
 |none=>false
def B6{m:ds} : ∀ {l:List ds},Tj l m.1=true->lK l m=l.set (By l m.1) m
 |[],h=>by simp[Tj]at h
 | x::r,h=>by
   unfold lK;unfold Tj at h;unfold By at h |-;by_cases a:x.1<m.1
   ·rw[Mw a]at h |-;rw[Mw a,List.set_cons_succ,B6 (by unfold Tj;rw[Og]at h;exact h)]
   rw[Mt a]at h |-;rw[Mt a];have h:(x.1==m.1)=true:=h;rw[Mw (by simpa using h)];rfl
def B7{m:ds} : ∀ {l:List ds},Tj l m.1=false->lK l m=l.take (By l m.1)++m::l.drop (By l m.1)
 |[],h=>by simp[lK,By]
 | x::r,h=>by
   unfold lK;unfold Tj at h;unfold By at h |-;by_cases a:x.1<m.1
   ·rw[Mw a]at h |-;rw[Mw a,B7 (by unfold Tj;rw[Og]at h;exact h)];rfl
   rw[Mt a]at h |-;rw[Mt a];have h:(x.1==m.1)=false:=h;rw[Mt (by simpa using h)];rfl
def MB{l:List ds}{h:Int}(hi:Tj l h=true):By l h<l.length:=by
 unfold Tj at hi;cases a:l[By l h]? with
 |none=>rw[a]at hi;cases hi
 |some y=>exact(Mr.1 a).1
end Go.Proofs.YtfhkmjbjafeckaaGreatDoor
set_option linter.unusedSimpArgs false
namespace Go.Proofs.YtfhkmjbjafeckaaGreatDoor
open Go.Proofs.Tryz
open Go.RowKit
set_option maxRecDepth 100000
set_option maxHeartbeats 16000000
def EE(env:b8)(mem:List ds)(q:mem.length<=4096)(n: ∀m∈mem,m.2.length<=4096):b7 prog env 295 [fk mem] (.own 146 2 (mem.map fe)):=by
 refine qf func295 call295 ntmps295 results295 ?_;repeat refine m9 ?_
 refine ao 3 3 146 2 ?_;refine RK mem.length (by omega) (fun j o=>[(3, .row 3 (o 3)),(6,fk mem),(7,I mem.length),(8,I j)]) (fun j _=>[(3,⟨2,(mem.take j).map fe,146,true⟩)]) (fun j _ b=>b 3=false) rfl ?_ ?_
 ·rintro j p b c e k d;obtain⟨a,f⟩:=gE c;have f0:=dW env (a.2.map aa) (by rw[NQ];exact n a (Mv f));have i:(mem.take j).length=j:=by rw[NJ];omega
  have l:cU (j+1) 32:=aC (by omega) (by omega);have h:mem.take (j+1)=mem.take j++[a]:=by rw[N1,f];rfl
  have F:=mc UH e k f i l d;repeat refine fc f0 ?_
  refine⟨j+1,⟨c,by simp only[go_sem,d]⟩,?_,?_,by omega⟩
  ·exact qe
  have F:=gb UH h @NA.{0,0};exact qe
 rintro p b e d;have g:mem.take mem.length=mem:=NR;have F:=gb e g d;exact ek
def Ax(env:b8)(c:aq)(o:Right c)(L:List Int)(s:L.length<=4000)(d:Int):b7 prog env 298 [aG c, .seq 1 (L.map aa),I d] (.own 3 1 ((fl c L d).map aa)):=by
 have f1:=bQ env c;unfold aG aQ at f1;unfold aG;refine qf func298 call298 ntmps298 results298 ?_;repeat refine m9 ?_
 refine ao 7 7 3 1 ?_;refine RK L.length (by omega) (fun j q=>[(0, .ref 9 [ct c] 0 0),(2,I d),(7, .row 7 (q 7)),(10, .seq 1 (L.map aa)),(11,I L.length),(12,I j)]) (fun j _=>[(7,⟨1,(ge c L d j).map aa,3,true⟩)]) (fun j _ a=>a 7=false) rfl ?_ ?_
 ·rintro j r a b k n e;obtain⟨x,l⟩:=gE b;have f3:=fV env c o d x;unfold aQ at f3;have p:=pa c L d j;have m:cU ((ge c L d j).length+1) 8:=aC (by omega) (by omega);have h:=mg (c:=c) (i:=d) l;cases g:a7 c d x with
  | true=>
    rw[g]at f3;rw[g,Mw rfl]at h;have F:=g9 k n l m e;repeat refine wc f1 f3 ?_
    refine⟨j+1,⟨b,by simp only[go_sem,e]⟩,?_,?_,by omega⟩
    ·exact qe
    have F:=ai h @NA.{0,0};exact qe
  | false=>
    rw[g]at f3;rw[g,Mt Nc]at h;have F:=g9 k n l m e;repeat refine wc f1 f3 ?_
    refine⟨j+1,⟨b,by simp only[go_sem,e]⟩,?_,?_,by omega⟩
    ·exact qe
    have F:=ai h @NA.{0,0};exact qe
 rintro r a k e;have f:ge c L d L.length=fl c L d:=by unfold ge fl;rw[NR]
 rw[f];have F:=ai k e;exact ek
def ko(env:b8)(l:List Int)(p:Int->Bool)(g:FuncId)(a:List (List AV))(j: ∀d,b7 prog env g [I d, .ref 1 a 0 0] (B (p d)))(h:l.length<=4096):b7 prog env 236 [.seq 1 (l.map aa), .clo g [.ref 1 a 0 0]] (B (l.any p)):=by
 have f0:=qv env l p g a j h;cases b:mR p l with
 | none=>
   rw[b]at f0;have c:l.any p=false:=Q1.2 fun x k=>by rw[(qE b).2 x k];simp
   rw[c];unfold mS at f0;refine qf func236 call236 ntmps236 results236 ?_;repeat refine jJ f0 ?_
   exact oj
 | some i=>
   rw[b]at f0;obtain⟨_,_,d,e,f⟩:=qD b;have c:l.any p=true:=OE.2 ⟨d,Mv e,f⟩;have m:(0:Int)<=(i:Int):=by omega
   rw[c];unfold mS at f0;refine qf func236 call236 ntmps236 results236 ?_;have F:=m;exact hH f0
def Do(env:b8)(G:List Int)(a:G.length<=1000000)(i:Int):b7 prog env 307 [I i, .ref 1 [[.seq 1 (G.map aa)]] 0 0] (B (G.contains i)):=by
 have f0:=bL env G i a;refine qf func307 call307 ntmps307 results307 ?_;repeat refine jJ f0 ?_
 exact oj
def ot(c:aq)(l:List Int)(j:Nat):List Int:=(l.take j).filter (o' c l)
def Dp{c:aq}{l:List Int}{j:Nat}{x:Int}(h:l[j]? =some x):ot c l (j+1)=if o' c l x then ot c l j++[x] else ot c l j:=by
 unfold ot;rw[N1,h,N5];cases a:o' c l x<;>simp[a]
def H7(c:aq)(l:List Int)(j:Nat):(ot c l j).length<=l.length:=by
 unfold ot;exact NK (NS ..) (by rw[NJ];omega)
def H6(env:b8)(c:aq)(h:ch c)(l:List Int)(y:l.length<=4000)(t: ∀x∈l,fb c x=true):b7 prog env 297 [aG c, .seq 1 (l.map aa)] (.own 3 1 ((k5 c l).map aa)):=by
 unfold aG;refine qf func297 call297 ntmps297 results297 ?_;repeat refine m9 ?_
 refine ao 5 5 3 1 ?_;refine RK l.length (by omega) (fun j r=>[(0, .ref 9 [ct c] 0 0),(3, .loc 3 (r 3) 0 0),(5, .row 5 (r 5)),(9, .seq 1 (l.map aa)),(10,I l.length),(11,I j)]) (fun j _=>[(3,⟨1,[[.seq 1 (l.map aa)]],33,false⟩),(5,⟨1,(ot c l j).map aa,3,true⟩)]) (fun j _ f=>f 3=false/\f 5=false) ⟨rfl,rfl⟩ ?_ ?_
 ·rintro j u f g n q ⟨a,e⟩;obtain⟨x,m⟩:=gE g;have f2:=bf env c h x;rw[Mw (.inr (t x (Mv m)))]at f2;have v:=bE h.toRight x true;have f3:=(ko env (g6 c x) (fun d=>l.contains d) 307 [[.seq 1 (l.map aa)]] (Do env l (by omega)) (by rw[am];omega)).lend rfl;rw[bd]at f3;have s:=H7 c l j;have p:cU ((ot c l j).length+1) 8:=aC (by omega) (by omega);have k:=Dp (c:=c) m;have o:o' c l x= !((g6 c x).any fun d=>l.contains d):=rfl;generalize ((g6 c x).any fun d=>l.contains d)=b at*;generalize av c x true=K at*;unfold aG at f2;cases b with
  | true=>
    rw[o,Oi,Mt Nc]at k;have F:=i' n q m p a e;repeat refine fc f2 ?_
    refine lL f3 ?_;repeat refine st ?_
    refine⟨j+1,⟨g,by simp only[go_sem,a],by simp only[go_sem,e]⟩,?_,?_,by omega⟩
    ·exact qe
    have F:=k;exact qe
  | false=>
    rw[o,OT,Mw rfl]at k;have F:=i' n q m p a e;repeat refine fc f2 ?_
    refine lL f3 ?_;repeat refine st ?_
    refine⟨j+1,⟨g,by simp only[go_sem,a],by simp only[go_sem,e]⟩,?_,?_,by omega⟩
    ·exact qe
    have F:=ai k @NA.{0,0};exact qe
 rintro u f n ⟨a,e⟩;have i:ot c l l.length=l.filter (o' c l):=by unfold ot;rw[NR]
 rw[i];have w:(l.filter (o' c l)).length<=l.length:=NS ..;unfold k5;generalize l.filter (o' c l)=U at*;have f4:=qV U (by omega);have F:=gb n a e;repeat refine st ?_
 refine oW 5 rfl (row:=⟨1,U.map aa,3,true⟩) f4 (Nf 0) rfl (cB _).symm (by simp only[go_sem,a,e];exact iR) (by simp only[go_sem,a,e];exact iR) (by simp only[go_sem,a,e];exact iR) (by simp only[go_sem,a,e];exact iR) ?_;rw[cB];exact ek
end Go.Proofs.YtfhkmjbjafeckaaGreatDoor
set_option linter.unusedSimpArgs false
namespace Go.Proofs.YtfhkmjbjafeckaaGreatDoor
open Go.Proofs.Tryz
open Go.RowKit Go.ChangeShapes Go.WideShapes Go.ChangeAt
set_option maxRecDepth 100000
abbrev nw:=List Int×List Int×List ds×List (List UInt8×Int)×Bool
def hP(x:nw):List AV:=[cf x.1,cf x.2.1, .seq 2 (x.2.2.1.map fe), .seq 2 (x.2.2.2.1.map c0),B x.2.2.2.2]
def UQ:=@hP.eq_1
def o4(t:List UInt8×Int):Prop:=t.1.length<=maxLen
def vo(x:nw):Prop:=(x.1.length<=maxLen/\x.2.1.length<=maxLen)/\(x.2.2.1.length<=maxLen/\ ∀m∈x.2.2.1,KN m)/\x.2.2.2.1.length<=maxLen/\ ∀t∈x.2.2.2.1,o4 t
def MM:prog.cellsOf 4=1:=by kernel_rfl
def T9:prog.cellsOf 98=2:=by kernel_rfl
def ML:prog.cellsOf 37=5:=by kernel_rfl
section
variable {H:Type} {enc:TypeId×Value->H} {w:World} {base:Nat} {spare:Nat->Bool} {held:Bool}
theorem Kp(m:Nat)(cs:List Value)(y:DataW H×List MemPlace)(h:DataW.trod enc prog w base spare held m 98 cs=some y): ∃a:List UInt8×Int,RE w c0 o4 cs a:=by
 obtain⟨s,n,_,_,d,b,c⟩:=PE Tryz.underlying98 h;rw[T9]at d;obtain⟨e,f,rfl⟩:=Dh d;obtain⟨q,j⟩:=ba b c 0 _ rfl 9 0 1 rfl rfl io;obtain⟨o,g, -,l⟩:=Pp Tryz.underlying9 (show DataW.trod enc prog w base spare held n 9 [e]=some q from j);cases g;obtain⟨⟨t0⟩⟩:=o;obtain⟨r,k⟩:=ba b c 1 _ rfl 3 1 1 rfl rfl ra;obtain⟨p,i, -, -⟩:=O4 Tryz.underlying3 (show DataW.trod enc prog w base spare held n 3 [f]=some r from k);cases i;exact⟨(t0,p),⟨⟨rfl, .lit _⟩,⟨rfl, .lit _⟩,trivial⟩,(by simpa[o4,ByteArray.size]using l)⟩
end
end Go.Proofs.YtfhkmjbjafeckaaGreatDoor
set_option linter.unusedSimpArgs false
namespace Go.Proofs.YtfhkmjbjafeckaaGreatDoor
open Go.Proofs.Tryz
open Go.RowKit
set_option maxRecDepth 100000
set_option maxHeartbeats 8000000
end Go.Proofs.YtfhkmjbjafeckaaGreatDoor
set_option linter.unusedSimpArgs false
namespace Go.Proofs.YtfhkmjbjafeckaaGreatDoor
open Go.Proofs.Tryz
open Go.RowKit
set_option maxRecDepth 100000
set_option maxHeartbeats 16000000
def L'(c:aq)(act vars:List Int)(d:Int):r5:=⟨vars,d,(List.range c.Z9.length).map fun k:Nat=>act.contains (k:Int)⟩
def yd(c:aq)(act vars:List Int)(d:Int):(L' c act vars d).act.map C'=kE c.Z9.length act:=by
 unfold L' kE;rw[P5];rfl
def pH(c:aq)(act vars:List Int)(d:Int):(L' c act vars d).act.length=c.Z9.length:=by
 unfold L';simp
def bU{c:aq}(h:ch c):PB c:=by
 have f: ∀(i:Int)(s:nr),at_ c i=some s-> ∃k,cN c k s=true:=fun i s e=>by
  unfold at_ at e;split at e
  ·exact⟨_,h.st _ s e⟩
  cases e
 refine⟨fun i a b=> ?_,fun i a b=> ?_,fun n t g a b=> ?_⟩
 ·unfold wj at b;split at b
  ·rename_i s e;obtain⟨k,d⟩:=f i s e;unfold cN eS at d;simp only[Mu]at d;exact Mz.1 d.2.2 a b
  simp at b
 ·unfold Tm at b;split at b
  ·rename_i s e;obtain⟨k,d⟩:=f i s e;unfold cN eS at d;simp only[Mu]at d;exact Mz.1 d.1.2.2 a b
  simp at b
 have:=h.tr n t g;unfold da eS at this;simp only[Mu]at this;exact Mz.1 this.1.2.2 a b
def uv{c:aq}(h:ch c){n:Nat}{t:tR}(a:c.trans[n]? =some t):t.guard=[]\/br t.guard c.vars.length c.Z9.length=true:=by
 have:=h.tr n t a;unfold da at this;simp only[Mu,OQ,Nz]at this;exact this.1.1.2
def Sn(c:aq)(x:nw)(d:Int):List AV:=[cf x.1,cf x.2.1, .seq 2 (x.2.2.1.map fe), .seq 2 (x.2.2.2.1.map c0),B x.2.2.2.2,cy,cy, .ref 9 [ct c] 0 0,Sg c.name,I c.initial,pf c.vars,qa c.Z9,sT c.trans,I d,I 0]
def UV:=@Sn.eq_1
structure H'(c:aq)(x:nw)(d:Int):Prop where
 act:x.1.length<=1000
 len:x.2.1.length=c.vars.length
 fit: ∀v∈x.2.1,aL v=true
 data:aL d=true
 lg:tI c x.1=true
def H'.ok{c:aq}{x:nw}{d:Int}(h:H' c x d):(L' c x.1 x.2.1 d).Ok:=⟨h.fit,h.data⟩
def Fz(env:b8)(c:aq)(a:c.Z9.length<=4000)(x:nw)(d:Int)(b:H' c x d):b7 prog env 232 [.ref 15 [Sn c x d] 0 0] (.agg (dw (L' c x.1 x.2.1 d))):=by
 have f0:=j7 env c a x.1 (by have:=b.act;omega);unfold aG at f0;unfold dw;rw[yd];show b7 _ _ _ _ (.agg [cf x.2.1,I d, .seq 1 (kE c.Z9.length x.1)]);generalize kE c.Z9.length x.1=L at*;refine qf func232 call232 ntmps232 results232 ?_;have F:=Sn.eq_1;exact hH f0
def tj(a:Addr):Fd->AV
 | .no=> .tuple [I (-1),h9]
 | .one n=> .tuple [I (n:Nat),h9]
 | .bad n=> .tuple [I (-1),dt (1000+(n:Nat)) (bx a)]
def t7{c:aq}{w:r5}{n:Nat}{l:List Nat}(h:fh w (jU c n)=none):cQ c w (n::l)= .bad n:=by unfold cQ;rw[h]
def xW{c:aq}{w:r5}{n:Nat}{l:List Nat}(h:fh w (jU c n)=some true):cQ c w (n::l)= .one n:=by unfold cQ;rw[h]
def CE{c:aq}{w:r5}{n:Nat}{l:List Nat}(h:fh w (jU c n)=some false):cQ c w (n::l)=cQ c w l:=by conv=>lhs;unfold cQ;rw[h]
def Hj(env:b8)(s i u:Addr)(B:fU env s u)(w:env 1=some (bx i))(c:aq)(h:ch c)(H:g7 c)(x:nw)(d:Int)(g:H' c x d)(l:List Nat)(M:l.length<=1000)(G: ∀n∈l,n<c.trans.length):
 b7 prog env 190 [.ref 15 [Sn c x d] 0 0, .seq 1 (l.map aB)] (tj i (cQ c (L' c x.1 x.2.1 d) l)):=by
 have C:=h.Z6;have D:=h.ZP;have f0:=Fz env c (by omega) x d g;have E:=iT w;have q:(L' c x.1 x.2.1 d).vars.length<=1000000:=by show x.2.1.length<=_;have:=g.len;have:=H.vars;omega
 have f1: ∀(n:Nat)(t:tR),c.trans[n]? =some t-> ∀b,fh (L' c x.1 x.2.1 d) t.guard=some b->_:=fun n t e b y=>Ia env s i u B w (L' c x.1 x.2.1 d) g.ok q t.guard (by rw[pH];show _\/br t.guard (x.2.1.length:Int) _=true;rw[g.len];exact uv h e) b y;have f2: ∀(n:Nat)(t:tR),c.trans[n]? =some t->fh (L' c x.1 x.2.1 d) t.guard=none->_:=fun n t e y=>GI env s i u B w (L' c x.1 x.2.1 d) g.ok q t.guard (by rw[pH];show _\/br t.guard (x.2.1.length:Int) _=true;rw[g.len];exact uv h e) y;generalize L' c x.1 x.2.1 d=W at*;unfold dw at f0 f1 f2;refine qf func190 call190 ntmps190 results190 ?_;repeat refine m9 ?_
 refine RK l.length (by omega) (fun j _=>[(0, .ref 15 [Sn c x d] 0 0),(10, .seq 1 (l.map aB)),(11,I l.length),(12,I j)]) (fun _ _=>[]) (fun j _ _=>cQ c W l=cQ c W (l.drop j)) rfl ?_ ?_
 ·rintro j L v k r J a;obtain⟨n,m⟩:=gE k;have o:=G n (Mv m);obtain⟨t,e⟩:=gE o;have A:=it o;have K:IntKind.i64.wrap (1000+(n:Int))=1000+(n:Int):=aW (by omega) (by omega);have z:=au m;have f:jU c n=t.guard:=by unfold jU;rw[e]
  rw[z]at a;cases p:fh W t.guard with
  | none=>
    rw[t7 (by rw[f];exact p)]at a;rw[a];have f3:=f2 n t e p;have f4:=zH env [109,105,99,114,111,46,69,110,97,98,108,101,100] (1000+(n:Int)) i (by omega);show fp _ _ _ _ _ _;unfold tj;have F:=qr UV Uy Ux m e r A K E;exact An f0 f3 f4
  | some b=>
    have f3:=f1 n t e b p;cases b with
    | true=>
      rw[xW (by rw[f];exact p)]at a;rw[a];show fp _ _ _ _ _ _;unfold tj;have F:=mc UV Uy Ux m e r A;exact mw f0 f3
    | false=>
      rw[CE (by rw[f];exact p)]at a;have F:=n4 UV Uy Ux m e r J A;repeat refine wc f0 f3 ?_
      exact qn (j+1) ⟨k,a⟩
 rintro L v r a;rw[ON]at a;rw[a];show fp _ _ _ _ _ _;show fp _ _ _ _ _ _;unfold cQ tj;have F:=r;exact ek
def Lu(env:b8)(c:aq)(h:ch c)(x:nw)(d:Int)(k:Int)(ev:List UInt8):b7 prog env 191 [.ref 15 [Sn c x d] 0 0,I k,Sg ev] (.own 3 1 ((ii c k ev c.trans.length).map aB)):=by
 have b:=h.ZP;by_cases a:ev=[]
 ·subst a;rw[DK];have f0:=AA env c (by omega) k;unfold aG at f0;refine qf func191 call191 ntmps191 results191 ?_;have F:=Sn.eq_1;exact hH f0
 rw[DJ c k a];have f0:=yC env c (by omega) ev;have f1:=GL env c (by omega) k (SX c ev);have e:(ev == [])=false:=by simpa using a
 unfold aG at f0 f1;refine qf func191 call191 ntmps191 results191 ?_;have F:=ai UV e;exact mw f0 f1
def BU{c:aq}{k:Int}{ev:List UInt8}{j n:Nat}(h:n∈ii c k ev j):n<j:=NX.1 (ND.1 h).1
def F4{c:aq}{w:r5}{ev:List UInt8}{k:Int}{l:List Int}(h:cQ c w (ii c k ev c.trans.length)= .no):dU c w ev (k::l)=dU c w ev l:=by
 conv=>lhs;unfold dU
 rw[h]
def CG{c:aq}{w:r5}{ev:List UInt8}{k:Int}{l:List Int}{n:Nat}(h:cQ c w (ii c k ev c.trans.length)= .one n):dU c w ev (k::l)= .one n:=by
 unfold dU;rw[h]
def CH{c:aq}{w:r5}{ev:List UInt8}{k:Int}{l:List Int}{n:Nat}(h:cQ c w (ii c k ev c.trans.length)= .bad n):dU c w ev (k::l)= .bad n:=by
 unfold dU;rw[h]
def J2(env:b8)(q l r:Addr)(w:fU env q r)(v:env 1=some (bx l))(c:aq)(h:ch c)(A:g7 c)(x:nw)(d:Int)(D:H' c x d)(i:Int)(ev:List UInt8):
 b7 prog env 135 [.ref 15 [Sn c x d] 0 0,I i,Sg ev] (tj l (dU c (L' c x.1 x.2.1 d) ev (i::j0 c i))):=by
 have s:=h.Z6;have t:=h.ZP;have f0:=bQ env c;have f1:b7 prog env 189 [aQ c,I i] (.own 3 1 ((j0 c i).map aa)):=yg env c h.toRight i;have f2:=Lu env c h x d;have f3:=fun k=>Hj env q l r w v c h A x d D (ii c k ev c.trans.length) (by have:(ii c k ev c.trans.length).length<=c.trans.length:=gH (jf c k ev) c.trans.length;omega) (fun n z=>BU z);have B:(j0 c i).length<=40:=kV ..;have y:cU (1+(j0 c i).length) 8:=aC (by omega) (by omega);have u:[[I i]]++(j0 c i).map aa=(i::j0 c i).map aa:=rfl;have C:(i::j0 c i).length<=4000:=by simp only[NN];omega
 have G:((i::j0 c i).map aa).length=(i::j0 c i).length:=NQ ..;generalize L' c x.1 x.2.1 d=W at*;generalize H:(i::j0 c i)=R at*;unfold aQ at f0 f1;unfold aG at f0;refine qf func135 call135 ntmps135 results135 ?_;have F:=gb UV y u;repeat refine wc f0 f1 ?_
 have F:=Sn.eq_1;refine lq R.length (by omega) (fun j p=>[(0, .ref 15 [Sn c x d] 0 0),(2,Sg ev),(21, .row 13 (p 13)),(22,I R.length),(23,I j)]) (fun _ _=>[(13,⟨1,R.map aa,3,true⟩)]) (fun j _ _=>dU c W ev R=dU c W ev (R.drop j)) rfl ?_ ?_
 ·rintro j p m e f o a;obtain⟨k,g⟩:=gE e;have f4:=f2 k ev;have f5:=f3 k;rw[au g]at a;cases b:cQ c W (ii c k ev c.trans.length) with
  | no=>
    rw[b]at f5;unfold tj at f5;rw[F4 b]at a;have F:=hU UE g f o;repeat refine wc f4 f5 ?_
    exact qn (j+1) ⟨e,a⟩
  | one n=>
    rw[b]at f5;unfold tj at f5;rw[CG b]at a;rw[a];have E:(0:Int)<=(n:Int):=by omega
    show fp _ _ _ _ _ _;unfold tj;have F:=g9 UE g f o E;exact mw f4 f5
  | bad n=>
    rw[b]at f5;unfold tj at f5;rw[CH b]at a;rw[a];show fp _ _ _ _ _ _;unfold tj;have F:=hU UE g f o;exact mw f4 f5
 rintro p m f a;rw[ON]at a;rw[a];show fp _ _ _ _ _ _;unfold dU tj;have F:=f;exact ek
end Go.Proofs.YtfhkmjbjafeckaaGreatDoor
