/- Package micro: which transitions are enabled. -/
import Derived.Shelf.SlSortCmp.NoneTotal
import Derived.Test.YtfcdkaolcdglmaaGreatDoorP21
set_option linter.unusedSimpArgs false
set_option linter.defProp false
namespace Go.Proofs.YtfcdkaolcdglmaaGreatDoor
open Go.Proofs.Tryz
open Go.RowKit
set_option maxRecDepth 100000
set_option maxHeartbeats 16000000
def pN(p:(List UInt8×Int)->Bool):List (List UInt8×Int)->Option Nat
 |[]=>none
 |d::l=>if p d=true then some 0 else(pN p l).map (· +1)
def wR{p:(List UInt8×Int)->Bool} : ∀ {l:List (List UInt8×Int)}{i:Nat},pN p l=some i->i<l.length/\l.take i=(l.take i).filter (fun d=> !p d)/\ ∃d,l[i]? =some d/\p d=true
 |[],i,h=>by simp[pN]at h
 | d::l,i,h=>by
   unfold pN at h;split at h
   ·rename_i a;cases h;exact⟨by simp,by simp,d,rfl,a⟩
   ·rename_i a;cases b:pN p l with
    |none=>rw[b]at h;cases h
    | some j=>
      rw[b]at h;cases h;obtain⟨g,c,x,e,f⟩:=wR b;refine⟨by simp;omega,?_,x,by simpa using e,f⟩;have a:p d=false:=by simpa using a
      simp only[SC,QH,a,Pb,PW];rw[<-c]
def wS{p:(List UInt8×Int)->Bool} : ∀ {l:List (List UInt8×Int)},pN p l=none->l.filter (fun d=> !p d)=l/\ ∀d∈l,p d=false
 |[],h=>by simp
 | d::l,h=>by
   unfold pN at h;split at h
   ·cases h
   ·rename_i a;have a:p d=false:=by simpa using a
    cases c:pN p l with
    |some j=>rw[c]at h;cases h
    | none=>
      obtain⟨e,f⟩:=wS c;refine⟨by simp only[QH,a,Pb,PW,e],fun x b=> ?_⟩;rcases O7.1 b with rfl|b
      ·exact a
      exact f x b
def Hg{p:(List UInt8×Int)->Bool}{l:List (List UInt8×Int)}{n:Nat}{d:(List UInt8×Int)}(a:l[n]? =some d):pN p (l.drop n)=if p d=true then some 0 else(pN p (l.drop (n+1))).map (· +1):=by
 rw[bV a];rfl
def AJ(env:b7)(l:List (List UInt8×Int))(p:(List UInt8×Int)->Bool)(g:FuncId)(a:List (List AV))(m: ∀d,cy prog env g [.agg (ew d), .ref 1 a 0 0] (B (p d)))(o:l.length<=4096):cy prog env 247 [.seq 2 (l.map ew), .clo g [.ref 1 a 0 0]] (I (mJ (pN p l))):=by
 refine qf func247 call247 ntmps247 results247 ?_;repeat refine sm ?_
 refine UC l.length (by omega) (fun n i=>[(0, .seq 2 (l.map ew)),(1, .clo g [.ref 1 a 0 0]),(7,I l.length),(8,I n)]) (fun n i=>[]) (fun n _ c=>pN p l=(pN p (l.drop n)).map (· +n)) (by simp) ?_ ?_
 ·rintro n i c e f j b;obtain⟨d,h⟩:=gE e;have f1:=m d;unfold ew at f1;rw[Hg h]at b;cases k:p d
  ·rw[k]at b f1;simp only[On,P8]at b;have F:=mX WT h f j;repeat refine st ?_
   refine oC (cB rfl (by simp only[go_sem,F];exact iR)) (f1) (by simp only[go_sem,F];exact iR) (by simp only[go_sem,F];exact⟨rfl,rfl⟩) ?_;repeat refine st ?_
   refine⟨n+1,⟨e,?_⟩,?_,?_,?_⟩
   ·rw[b];cases pN p (l.drop (n+1))
    ·rfl
    simp;omega
   ·exact qe
   ·exact qe
   omega
  rw[k]at b f1;simp only[PW,O0,PR]at b;rw[b];have F:=pf WT h f j Xf mJ.eq_2;repeat refine st ?_
  refine oC (cB rfl (by simp only[go_sem,F];exact iR)) (f1) (by simp only[go_sem,F];exact iR) (by simp only[go_sem,F];exact⟨rfl,rfl⟩) ?_;exact fl
 rintro i c f b;rw[Pp (by omega)]at b;rw[b];have F:=ld f Xf mJ.eq_2 pN.eq_1 pN.eq_2;exact fl
def xj(env:b7)(l:List (List UInt8×Int))(p:(List UInt8×Int)->Bool)(g:FuncId)(G:List UInt8)(P:TypeId)(U: ∀d,cy prog env g [.agg (ew d), .ref 1 [[Sg G]] 0 0] (B (p d)))(hl:l.length<=4096):
 g6 prog env 235 [1000,1001] (fun k=>k==1000) (fun vs=>[.row 1000 (vs 1000), .clo g [.loc 1001 (vs 1001) 0 0]]) (fun _=>[(1000,⟨2,l.map ew,95,true⟩),(1001,⟨1,[[Sg G]],P,false⟩)]) (fun _=>[(1000,⟨2,(l.filter fun d=> !p d).map ew,95,true⟩),(1001,⟨1,[[Sg G]],P,false⟩)]) (fun vs=> .row 1000 (vs 1000)):=by
 have f0:=(AJ env l p g [[Sg G]] U hl).lend rfl;cases t:pN p l with
 | none=>
   rw[t]at f0;obtain⟨m,_⟩:=wS t;rw[m];refine qi func235 call235 ntmps235 results235 ?_;intro vs z h;obtain⟨e,f⟩:=Us h;have F:=mX e f Xf mJ.eq_2;repeat refine st ?_
   refine lL f0 ?_;repeat refine st ?_
   exact rI
 | some s=>
   rw[t]at f0;obtain⟨m,E,d0,H,J⟩:=wR t;have R:((s:Int) == -1)=false:=by simp
   have r:=aD m (by omega);refine qi func235 call235 ntmps235 results235 ?_;intro vs z h;obtain⟨e,f⟩:=Us h;have F:=pf e f Xf mJ.eq_2 R r;repeat refine st ?_
   refine lL f0 ?_;repeat refine st ?_
   refine aN (D:=Nat×List (List UInt8×Int)) (fun x i=>[(0, .row 1000 (i 1000)),(1, .clo g [.loc 1001 (i 1001) 0 0]),(5,I (((l.take x.1).filter fun d=> !p d).length:Int)),(6,I (x.1:Int))]) (fun x i=>[(1000,⟨2,x.2.map ew,95,true⟩),(1001,⟨1,[[Sg G]],P,false⟩)]) (fun x i o=>(x.1<=l.length/\x.2.length=l.length/\((l.take x.1).filter fun d=> !p d).length<x.1/\x.2.take ((l.take x.1).filter fun d=> !p d).length=(l.take x.1).filter (fun d=> !p d)/\x.2.drop x.1=l.drop x.1)/\i 1001=vs 1001/\o 1000=false/\o 1001=false) (fun x=>l.length-x.1) (s+1,l) ?_ ?_ ?_ ?_
   ·have b:(l.take (s+1)).filter (fun d=> !p d)=l.take s:=by
     rw[dF H,PH, <-E];simp[J]
    refine⟨⟨m,rfl,?_,?_,rfl⟩,by simp only[go_sem],by simp only[go_sem,e],by simp only[go_sem,f]⟩
    ·rw[b,OZ];omega
    simp only;rw[b,OZ,Qd (by omega)]
   ·have b:((l.take (s+1)).filter fun d=> !p d).length=s:=by
     rw[dF H,PH, <-E];simp[J];omega
    simp only[b];exact qe
   ·exact qe
   try clear e f R r m E H J t
   rintro⟨j,L⟩ ws es ⟨⟨hj,K,hc,u,w⟩,Q,e,f⟩;simp only at hj K hc u w;generalize a:((l.take j).filter fun d=> !p d).length=c at*;by_cases n:j<l.length
   ·obtain⟨d,V⟩:=gE n
    have v:L[j]? =some d:=by
     have:=Oj (fun q:List (List UInt8×Int)=>q[0]?) w;simpa[V]using this
    have f1:=U d;unfold ew at f1;have r:(j:Int)< (L.length:Int):=by omega
    have S:=aD n (by omega);have T:=dF V;cases m:p d
    ·rw[m]at f1;obtain⟨y,hy⟩: ∃x,L[c]? =some x:=⟨L[c]'(by omega),OE (by omega)⟩;have A:(c:Int)< (L.length:Int):=by omega
     have C:IntKind.i64.wrap ((c:Int)+1)=((c+1:Nat):Int):=aD (show c<l.length by omega) (by omega);have b:((l.take (j+1)).filter fun d=> !p d)=(l.take j).filter (fun d=> !p d)++[d]:=by rw[T,PH];simp[m]
     have hs:(L.map ew).set c [Sg d.1,I d.2]=(L.set c d).map ew:=by rw[Rk];rfl
     have F:=zs WT v hy e f r S A C hs;repeat refine st ?_
     refine oL (cB rfl (by simp only[go_sem,F];exact iR)) (f1.lend rfl) (by simp only[go_sem,F];exact iR) (by simp only[go_sem,F];exact⟨rfl,rfl⟩) ?_;repeat refine st ?_
     refine⟨(j+1,L.set c d),⟨⟨n,by simpa using K,?_,?_,?_⟩,?_,?_,?_⟩,?_,?_,?_⟩
     ·simp only[b,ON,Pa,a];omega
     ·simp only[b,ON,Pa,a];rw[<-u];apply PM;intro k;rw[Om,Pg];by_cases hk:k<c
      ·rw[OL (by omega),OK (by omega),Oq (by simp;omega),Om,OL hk]
      by_cases N:k=c
      ·subst N;rw[OL (by omega),OL rfl,OL (by omega),Og (by rw[OZ];omega),OZ,Qd (by omega)];simp
      rw[OK (by omega),OT (by rw[ON,OZ,Pa];omega)]
     ·simp only;rw[List.drop_set_of_lt (by omega)];have:=Oj (List.drop 1) w;simpa[S4]using this
     ·simp only[go_sem,Q]
     ·simp only[go_sem,e]
     ·simp only[go_sem,f]
     ·have O:((l.take (j+1)).filter fun d=> !p d).length=c+1:=by rw[b,ON,a];rfl
      simp only[O];exact qe
     ·exact qe
     simp only;omega
    rw[m]at f1;have b:((l.take (j+1)).filter fun d=> !p d)=(l.take j).filter (fun d=> !p d):=by rw[T,PH];simp[m]
    have F:=pf WT v e f r S;repeat refine st ?_
    refine oL (cB rfl (by simp only[go_sem,F];exact iR)) (f1.lend rfl) (by simp only[go_sem,F];exact iR) (by simp only[go_sem,F];exact⟨rfl,rfl⟩) ?_;repeat refine st ?_
    refine⟨(j+1,L),⟨⟨n,K,?_,?_,?_⟩,?_,?_,?_⟩,?_,?_,?_⟩
    ·simp only[b,a];omega
    ·simp only[b,a];exact u
    ·simp only;have:=Oj (List.drop 1) w;simpa[S4]using this
    ·simp only[go_sem,Q]
    ·simp only[go_sem,e]
    ·simp only[go_sem,f]
    ·simp only[b,a];exact qe
    ·exact qe
    simp only;omega
   have r: ¬(j:Int)< (L.length:Int):=by omega
   have M:l.take j=l:=PI (by omega);rw[M]at u a;have A:(c:Int)<=(L.length:Int):=by omega
   have C:c<=L.length:=by omega
   have W: ∀X:List (List AV),((L.take c).map ew++X).take c=(l.filter fun d=> !p d).map ew:=fun X=>by
    rw[Qv (by rw[O4,OZ];omega),u]
   have Y:c+(L.length-c)=L.length:=by omega
   have Z:min c L.length=c:=by omega
   have F:=u4 Q e f @OZ.{0} @List.length_replicate.{0} r A C W Y Z;repeat refine st ?_
   exact rI
end Go.Proofs.YtfcdkaolcdglmaaGreatDoor
namespace Go.Proofs.YtfcdkaolcdglmaaGreatDoor
open Go.Proofs.Tryz
open Go.RowKit Go.Sort Go.Shelf Go.Lib
section
variable {α:Type} [Inhabited α]
theorem tJ(enc:α->List Value)(k:Nat)(a: ∀x,(enc x).length=k)(d:List α):flatK enc k d.toArray=(d.map enc).flatten.toArray:=by
 have j: ∀l∈d.map enc,l.length=k:=fun l c=>by
  obtain⟨x,_,rfl⟩:=OW.1 c;exact a x
 have c:=eA (d.map enc) j;apply Array.ext';apply PM;intro p;by_cases e:p<d.length*k
 ·have b:0<k:=by
   rcases Nat.eq_zero_or_pos k with h|h
   ·subst h;simp at e
   exact h
  have g:p/k<d.length:=RH (by rw[QU];exact e);have i:p%k<k:=Rt _ b;have f:=fW (d.map enc) j (p/k) (p%k) (enc d[p/k]) ((enc d[p/k])[p%k]'(by rw[a];exact i)) (by simp[g]) (OE _);rw[R8]at f;rw[Rz,f,Qo];simp[flatK,e,g,a,i]
 rw[OT (by simp;omega),OT (by simp[c];omega)]
theorem r7{P:Program}{ρ:Ren}(L:SlLaysF0.n6 P ρ){e:TypeId}(k:Nat)(q: ∀w,(isAgg (ρ.t 24)).run P w= .ok true w)(D: ∀w,(Go.sizeOf (ρ.t 24)).run P w= .ok k w)(enc:α->List Value)(h: ∀x,(enc x).length=k)(p: ∀x,∀v∈enc x,v.oneCell'=true)
 (a:α->α->Int)(u:SWO (ltOf a))(g:Nat)(i:Array Value)(d:List α)(B:0<d.length)(o:d.length<4611686018427387904)(r: ∀(args:Array Value)(w:World),(callFunc (ρ.f 6) args).run P w= .ok (.enter (ρ.f 6) args) w)(s: ∀args w,(callFunc g args).run P w= .ok (.enter g args) w)
 (f: ∀j w,CmpLays P g i enc k a j 0 d.length w)(z: ∀x y,(ltOf a) x y=false->(ltOf a) y x=false->x=y):
 K' P (ρ.f 6) [.func (.func g) #[] i] e k (d.map enc) ((d.mergeSort fun x y=> !(ltOf a) y x).map enc):=by
 refine kJ (by simpa using B) r (by simp) (fun l m=> ?_) (fun l m=> ?_) fun w b c t A=> ?_
 ·obtain⟨x,_,rfl⟩:=OW.1 m;exact h x
 ·obtain⟨x,_,rfl⟩:=OW.1 m;exact⟨h x,p x⟩
 have:=AnyQ.slices_SortFunc_total L k q D enc h p a u g i b 0 c d.toArray w s (by simpa using f b w) (by unfold HoldsK;rw[tJ enc k h];exact t) A (by simpa using o) z;rw[O4];refine(by simpa using this:Calls P (ρ.f 6) #[.slice (some ⟨b,0,none⟩) d.length c, .func (.func g) #[] i] w _).mono ?_;rintro E G ⟨rfl,n,C,rfl⟩;refine⟨rfl,n,C,?_⟩;unfold sortWorldK putRowK;rw[tJ enc k h]
end
end Go.Proofs.YtfcdkaolcdglmaaGreatDoor
namespace Go.Proofs
open Go.Shelf
def Tryz.sortTm_ren:Go.Shelf.Ren:=⟨fun|6=>238|15=>105|14=>251|28=>147|29=>148|20=>260|21=>261|22=>262|23=>263|24=>264|25=>265|26=>266|27=>267|46=>270|47=>169|48=>170|49=>271|50=>272|57=>274|n=>n,fun|22=>37|24=>95|25=>283|3=>3|39=>184|0=>0|53=>114|55=>156|4=>4|46=>211|45=>210|50=>132|5=>5|9=>9|66=>229|70=>233|76=>246|77=>53|n=>n,fun|n=>n⟩
def Tryz.sortTm:Go.Proofs.SlLaysF0.n6 prog Tryz.sortTm_ren:={
 mixed:=by kernel_rfl
 f6:=⟨Tryz.f238.name,by decide,func238.trans (congrArg some (by kernel_rfl))⟩
 f14:=⟨Tryz.f251.name,by decide,func251.trans (congrArg some (by kernel_rfl))⟩
 f15:=func105.trans (congrArg some (by kernel_rfl))
 f20:=⟨Tryz.f260.name,by decide,func260.trans (congrArg some (by kernel_rfl))⟩
 f21:=⟨Tryz.f261.name,by decide,func261.trans (congrArg some (by kernel_rfl))⟩
 f22:=⟨Tryz.f262.name,by decide,func262.trans (congrArg some (by kernel_rfl))⟩
 f23:=⟨Tryz.f263.name,by decide,func263.trans (congrArg some (by kernel_rfl))⟩
 f24:=⟨Tryz.f264.name,by decide,func264.trans (congrArg some (by kernel_rfl))⟩
 f25:=⟨Tryz.f265.name,by decide,func265.trans (congrArg some (by kernel_rfl))⟩
 f26:=⟨Tryz.f266.name,by decide,func266.trans (congrArg some (by kernel_rfl))⟩
 f27:=⟨Tryz.f267.name,by decide,func267.trans (congrArg some (by kernel_rfl))⟩
 f28:=func147.trans (congrArg some (by kernel_rfl))
 f29:=func148.trans (congrArg some (by kernel_rfl))
 f46:=⟨Tryz.f270.name,by decide,func270.trans (congrArg some (by kernel_rfl))⟩
 f47:=func169.trans (congrArg some (by kernel_rfl))
 f48:=func170.trans (congrArg some (by kernel_rfl))
 f49:=⟨Tryz.f271.name,by decide,func271.trans (congrArg some (by kernel_rfl))⟩
 f50:=⟨Tryz.f272.name,by decide,func272.trans (congrArg some (by kernel_rfl))⟩
 f57:=⟨Tryz.f274.name,by decide,func274.trans (congrArg some (by kernel_rfl))⟩
 t0:=Tryz.underlying0
 a0:=Tryz.isAgg0
 z0:=Tryz.sizeOf0
 v0:=Tryz.zeroValue0
 t3:=Tryz.underlying3
 a3:=Tryz.isAgg3
 z3:=Tryz.sizeOf3
 v3:=Tryz.zeroValue3
 t4:=Tryz.underlying4
 a4:=Tryz.isAgg4
 z4:=Tryz.sizeOf4
 v4:=Tryz.zeroValue4
 t5:=Tryz.underlying5
 a5:=Tryz.isAgg5
 z5:=Tryz.sizeOf5
 v5:=Tryz.zeroValue5
 t9:=Tryz.underlying9
 a9:=Tryz.isAgg9
 z9:=Tryz.sizeOf9
 v9:=Tryz.zeroValue9
 t22:=Tryz.underlying37
 a22:=Tryz.isAgg37
 z22:=Tryz.sizeOf37
 v22:=Tryz.zeroValue37
 t25:=Tryz.underlying283
 a25:=Tryz.isAgg283
 z25:=Tryz.sizeOf283
 v25:=Tryz.zeroValue283
 t39:=Tryz.underlying184
 a39:=Tryz.isAgg184
 z39:=Tryz.sizeOf184
 v39:=Tryz.zeroValue184
 t45:=Tryz.underlying210
 a45:=Tryz.isAgg210
 z45:=Tryz.sizeOf210
 v45:=Tryz.zeroValue210
 t46:=Tryz.underlying211
 a46:=Tryz.isAgg211
 z46:=Tryz.sizeOf211
 v46:=Tryz.zeroValue211
 t50:=Tryz.underlying132
 a50:=Tryz.isAgg132
 z50:=Tryz.sizeOf132
 v50:=Tryz.zeroValue132
 t53:=Tryz.underlying114
 a53:=Tryz.isAgg114
 z53:=Tryz.sizeOf114
 v53:=Tryz.zeroValue114
 t55:=Tryz.underlying156
 a55:=Tryz.isAgg156
 z55:=Tryz.sizeOf156
 v55:=Tryz.zeroValue156
 t66:=Tryz.underlying229
 a66:=Tryz.isAgg229
 z66:=Tryz.sizeOf229
 v66:=Tryz.zeroValue229
 t70:=Tryz.underlying233
 a70:=Tryz.isAgg233
 z70:=Tryz.sizeOf233
 v70:=Tryz.zeroValue233
 t76:=Tryz.underlying246
 a76:=Tryz.isAgg246
 z76:=Tryz.sizeOf246
 v76:=Tryz.zeroValue246
 t77:=Tryz.underlying53
 a77:=Tryz.isAgg53
 z77:=Tryz.sizeOf53
 v77:=Tryz.zeroValue53 }
end Go.Proofs
set_option linter.unusedSimpArgs false
namespace Go.Proofs.YtfcdkaolcdglmaaGreatDoor
open Go.Proofs.Tryz
open Go.RowKit
set_option maxRecDepth 100000
set_option maxHeartbeats 1000000
def pU(p:List UInt8×Int):List Value:=[.string ⟨p.1.toArray⟩, .int .i64 p.2]
def BU(l:List (List UInt8×Int)):bI (l.map pU)=l.map ew:=by simp[bI,pU,ew,Sg,I]
def uT(x:List UInt8×Int): ∀l,(RC x l).Perm (l++[x])
 |[]=> .refl _
 | y::l=>by
   unfold RC;split
   ·exact(List.perm_append_comm (l₁:=[x]) (l₂:=y::l))
   exact(uT x l).cons y
def Jg{x:List UInt8×Int}{l:List (List UInt8×Int)}(h:l.Pairwise fun a b=>Op.bytesLess a.1 b.1=true)(B: ∀y∈l,y.1≠x.1):(l++[x]).mergeSort (fun x y=> !Op.bytesLess y.1 x.1)=RC x l:=by
 have o:=uS h B
 have u:((l++[x]).mergeSort fun x y=> !Op.bytesLess y.1 x.1).Pairwise fun x y=>(!Op.bytesLess y.1 x.1)=true:=SP (fun a b c d g=>by
  simp only[PT]at*;cases k:Op.bytesLess c.1 a.1
  ·rfl
  ·cases s:Op.bytesLess b.1 a.1
   ·cases t:Op.bytesLess a.1 b.1
    ·rw[<-eu t s,k]at g;cases g
    rw[ej k t]at g;cases g
   rw[s]at d;cases d) (fun a b=>by
  cases k:Op.bytesLess b.1 a.1
  ·simp
  rw[ue k];simp) (l++[x])
 refine(SF (le:=fun x y=>(!Op.bytesLess y.1 x.1)=true) ?_ (o.imp fun {a b} h=>by simp[ue h]) u ((uT x l).trans (SB _ _).symm)).symm;intro a b z A v w;have e:a.1=b.1:=eu (by simpa using w) (by simpa using v);by_cases d:a=b
 ·exact d
 exfalso
 obtain⟨i,p,m⟩:=Pe z;obtain⟨j,q,n⟩:=Pe (((uT x l).trans (SB _ _).symm).mem_iff.2 A);have r:=Ow.1 o;rcases RF i j with f|f|f
 ·have:=r i j p q f;rw[m,n,e,fh]at this;cases this
 ·subst f;exact d (m.symm.trans n)
 have:=r j i q p f;rw[m,n,e,fh]at this;cases this
def NQ{x:List UInt8×Int}{l:List (List UInt8×Int)}(h:l.Pairwise fun a b=>Op.bytesLess a.1 b.1=true)(f: ∀y∈l,y.1≠x.1):(l++[x]).Pairwise fun x y=>x.1≠y.1:=by
 rw[Qs];refine⟨h.imp (fun {a b} h e=>by rw[e,fh]at h;cases h),Rb _ _,fun a c b d=> ?_⟩;obtain rfl:=O2.1 d;exact f a c
section
open Go.Shelf Go.Lib Go.Sort
def MB: ∀w,(isAgg 95).run prog w= .ok true w:=fun w=>by kernel_rfl
def Iz: ∀w,(Go.sizeOf 95).run prog w= .ok 2 w:=fun w=>by kernel_rfl
def VM(x y:List UInt8):Int:=if Op.bytesLess x y then -1 else 1
def KT(a:List UInt8)(b:Int)(c:List UInt8)(d:Int)(W:World):Calls prog 239 #[.agg #[.string ⟨a.toArray⟩, .int .i64 b], .agg #[.string ⟨c.toArray⟩, .int .i64 d]] W fun e w'=>e= .returned (.int .i64 (VM a c))/\ ∃q os',w'=grow (W.drewN q) os':=by
 unfold VM;by_cases h:Op.bytesLess a c=true
 ·rw[OL h]
  go_enter func239,ntmps239
  go_wp2_with fail
  go_ret
  exact⟨rfl,0,_,by rw[alloc_eq_grow,alloc_eq_grow,grow_grow];rfl⟩
 have h:Op.bytesLess a c=false:=by simpa using h
 rw[OK (by rw[h];simp)]
 go_enter func239,ntmps239
 go_wp2_with fail
 go_ret
 exact⟨rfl,0,_,by rw[alloc_eq_grow,alloc_eq_grow,grow_grow];rfl⟩
def xT(ps:List (List UInt8×Int))(J:ps.Pairwise (fun x y=>x.1≠y.1))(L:ps.length<=1000)(H:ps≠[]):
 K' prog 238 [.func (.func 239) #[] #[]] 95 2 (ps.map pU) ((ps.mergeSort fun x y=> !Op.bytesLess y.1 x.1).map pU):=by
 have G:=call238;have g:0<ps.length:=QD.2 H
 haveI:Inhabited {p // p∈ps} :=⟨⟨ps[0],PV g⟩⟩
 have d: ∀x y: {p // p∈ps},ltOf (fun x y: {p // p∈ps} =>VM x.1.1 y.1.1) x y=Op.bytesLess x.1.1 y.1.1:=fun x y=>by
  unfold ltOf VM;cases k:Op.bytesLess x.1.1 y.1.1<;>simp[k]
 have l:SWO (ltOf fun x y: {p // p∈ps} =>VM x.1.1 y.1.1):=by
  refine⟨fun x=> ?_,fun x y z h f=> ?_,fun x y z h f=> ?_⟩
  ·rw[d];exact fh _
  ·rw[d]at*;exact ej h f
  rw[d]at*;cases k:Op.bytesLess x.1.1 z.1.1
  ·rfl
  cases B:Op.bytesLess y.1.1 x.1.1
  ·rw[eu h B]at k;rw[k]at f;cases f
  rw[ej B k]at f;cases f
 have I: ∀x y: {p // p∈ps},ltOf (fun x y: {p // p∈ps} =>VM x.1.1 y.1.1) x y=false->ltOf (fun x y: {p // p∈ps} =>VM x.1.1 y.1.1) y x=false->x=y:=fun x y h f=>by
  rw[d]at h f;have e:=eu h f;obtain⟨i,q,n⟩:=Pe x.2;obtain⟨j,r,o⟩:=Pe y.2;have t:=Ow.1 J;apply Subtype.ext;rw[<-n, <-o]at e |-;rcases RF i j with c|c|c
  ·exact absurd e (t i j q r c)
  ·subst c;rfl
  exact absurd e.symm (t j i r q c)
 have u:=r7 (e:=95) Tryz.sortTm 2 MB Iz (fun x: {p // p∈ps} =>pU x.1) (fun _=>rfl) (fun x v A=>by simp[pU]at A;rcases A with rfl|rfl<;>rfl) (fun x y=>VM x.1.1 y.1.1) l 239 #[] ps.attach (by simpa using g) (by simp;omega) G call239
  (fun C w m M K _ x y=>KT _ _ _ _ _) I
 have D:ps.attach.map (fun x: {p // p∈ps} =>pU x.1)=ps.map pU:=by
  rw[show (fun x: {p // p∈ps} =>pU x.1)=pU ∘ Subtype.val from rfl, <-Q1,List.attach_map_subtype_val]
 have E:(ps.attach.mergeSort fun x y=> !ltOf (fun x y: {p // p∈ps} =>VM x.1.1 y.1.1) y x).map (fun x: {p // p∈ps} =>pU x.1)=(ps.mergeSort fun x y=> !Op.bytesLess y.1 x.1).map pU:=by
  rw[show (fun x: {p // p∈ps} =>pU x.1)=pU ∘ Subtype.val from rfl, <-Q1]
  congr 1
  rw[List.map_mergeSort (s:=fun x y:List UInt8×Int=> !Op.bytesLess y.1 x.1) (fun a _ b _=>by simp only[d]),List.attach_map_subtype_val]
 rw[D,E]at u;exact u
def Fu(x:List UInt8×Int)(l:List (List UInt8×Int))(h:l.Pairwise fun a b=>Op.bytesLess a.1 b.1=true)(c: ∀y∈l,y.1≠x.1)(d:l.length<=100):
 K' prog 238 [.func (.func 239) #[] #[]] 95 2 ((l++[x]).map pU) ((RC x l).map pU):=by
 rw[<-Jg h c];exact xT _ (NQ h c) (by simp;omega) (by simp)
end
end Go.Proofs.YtfcdkaolcdglmaaGreatDoor
namespace Go.Proofs.YtfcdkaolcdglmaaGreatDoor
open Go.Proofs.Tryz
open Go.RowKit
def J':List ed->Int->Nat
 |[],_=>0
 |x::r,h=>if x.1<h then J' r h+1 else 0
def yD(h:Int): ∀l:List ed,J' l h<=l.length
 |[]=>OO _
 | x::r=>by
   unfold J';split
   ·have:=yD h r;simp only[OU];omega
   exact O6 _
def Em{h:Int} : ∀ {l:List ed},UI l-> ∀ {j:Nat}{y:ed},l[j]? =some y->(j<J' l h↔y.1<h)
 |[],_,j,y,a=>by simp at a
 | x::r,f,j,y,a=>by
   obtain⟨d,e⟩:=Ps.1 f;unfold J';by_cases b:x.1<h
   ·rw[OL b];cases j with
    | zero=>
      simp only[PK,OH]at a;subst a;exact⟨fun _=>b,fun _=>by omega⟩
    | succ j=>
      rw[Pw]at a;have:=Em (h:=h) e a;omega
   ·rw[OK b];refine⟨fun h=>by omega,fun c=> ?_⟩;cases j with
    | zero=>
      simp only[PK,OH]at a;subst a;exact absurd c b
    | succ j=>
      rw[Pw]at a;have:=d y (OM a);omega
def Vn(l:List ed)(h:Int):Bool:=match l[J' l h]? with
 |some y=>y.1==h
 |none=>false
def BF{m:ed} : ∀ {l:List ed},Vn l m.1=true->lN l m=l.set (J' l m.1) m
 |[],h=>by simp[Vn]at h
 | x::r,h=>by
   unfold lN;unfold Vn at h;unfold J' at h |-;by_cases a:x.1<m.1
   ·rw[OL a]at h |-;rw[OL a,List.set_cons_succ,BF (by unfold Vn;rw[Pw]at h;exact h)]
   rw[OK a]at h |-;rw[OK a];have h:(x.1==m.1)=true:=h;rw[OL (by simpa using h)];rfl
def BG{m:ed} : ∀ {l:List ed},Vn l m.1=false->lN l m=l.take (J' l m.1)++m::l.drop (J' l m.1)
 |[],h=>by simp[lN,J']
 | x::r,h=>by
   unfold lN;unfold Vn at h;unfold J' at h |-;by_cases a:x.1<m.1
   ·rw[OL a]at h |-;rw[OL a,BG (by unfold Vn;rw[Pw]at h;exact h)];rfl
   rw[OK a]at h |-;rw[OK a];have h:(x.1==m.1)=false:=h;rw[OK (by simpa using h)];rfl
def NP{l:List ed}{h:Int}(hi:Vn l h=true):J' l h<l.length:=by
 unfold Vn at hi;cases a:l[J' l h]? with
 |none=>rw[a]at hi;cases hi
 |some y=>exact(OG.1 a).1
end Go.Proofs.YtfcdkaolcdglmaaGreatDoor
set_option linter.unusedSimpArgs false
namespace Go.Proofs.YtfcdkaolcdglmaaGreatDoor
open Go.Proofs.Tryz
open Go.RowKit
set_option maxRecDepth 100000
set_option maxHeartbeats 16000000
def Dj(env:b7)(mem:List ed)(q:mem.length<=4096)(n: ∀m∈mem,m.2.length<=4096):cy prog env 240 [i9 mem] (.own 93 2 (mem.map fi)):=by
 refine qf func240 call240 ntmps240 results240 ?_;repeat refine sm ?_
 refine am 3 3 93 2 ?_;refine UC mem.length (by omega) (fun j o=>[(3, .row 3 (o 3)),(6,i9 mem),(7,I mem.length),(8,I j)]) (fun j _=>[(3,⟨2,(mem.take j).map fi,93,true⟩)]) (fun j _ b=>b 3=false) rfl ?_ ?_
 ·rintro j p b c e k d;obtain⟨a,f⟩:=gE c;have f0:=dU env (a.2.map aa) (by rw[O4];exact n a (OM f));have i:(mem.take j).length=j:=by rw[OZ];omega
  have l:ek (j+1) 32:=aG (by omega) (by omega);have h:mem.take (j+1)=mem.take j++[a]:=by rw[Ot,f];rfl
  have F:=vb WS e k f i l d;repeat refine g8 f0 ?_
  refine⟨j+1,⟨c,by simp only[go_sem,d]⟩,?_,?_,by omega⟩
  ·exact qe
  have F:=jw WS h @Oa.{0,0};exact qe
 rintro p b e d;have g:mem.take mem.length=mem:=Ob;have F:=jw e g d;exact fl
def AZ(env:b7)(c:aq)(o:Right c)(L:List Int)(s:L.length<=4000)(d:Int):cy prog env 243 [aH c, .seq 1 (L.map aa),I d] (.own 3 1 ((fc c L d).map aa)):=by
 have f1:=bJ env c;unfold aH aS at f1;unfold aH;refine qf func243 call243 ntmps243 results243 ?_;repeat refine sm ?_
 refine am 7 7 3 1 ?_;refine UC L.length (by omega) (fun j q=>[(0, .ref 9 [aK c] 0 0),(2,I d),(7, .row 7 (q 7)),(10, .seq 1 (L.map aa)),(11,I L.length),(12,I j)]) (fun j _=>[(7,⟨1,(kH c L d j).map aa,3,true⟩)]) (fun j _ a=>a 7=false) rfl ?_ ?_
 ·rintro j r a b k n e;obtain⟨x,l⟩:=gE b;have f3:=fP env c o d x;unfold aS at f3;have p:=ve c L d j;have m:ek ((kH c L d j).length+1) 8:=aG (by omega) (by omega);have h:=ry (c:=c) (i:=d) l;cases g:bx c d x with
  | true=>
    rw[g]at f3;rw[g,OL rfl]at h;have F:=ld k n l m e;repeat refine PJ f1 f3 ?_
    refine⟨j+1,⟨b,by simp only[go_sem,e]⟩,?_,?_,by omega⟩
    ·exact qe
    have F:=ai h @Oa.{0,0};exact qe
  | false=>
    rw[g]at f3;rw[g,OK P3]at h;have F:=ld k n l m e;repeat refine PJ f1 f3 ?_
    refine⟨j+1,⟨b,by simp only[go_sem,e]⟩,?_,?_,by omega⟩
    ·exact qe
    have F:=ai h @Oa.{0,0};exact qe
 rintro r a k e;have f:kH c L d L.length=fc c L d:=by unfold kH fc;rw[Ob]
 rw[f];have F:=ai k e;exact fl
def kq(env:b7)(l:List Int)(p:Int->Bool)(g:FuncId)(a:List (List AV))(j: ∀d,cy prog env g [I d, .ref 1 a 0 0] (B (p d)))(h:l.length<=4096):cy prog env 203 [.seq 1 (l.map aa), .clo g [.ref 1 a 0 0]] (B (l.any p)):=by
 have f0:=qd env l p g a j h;cases b:mI p l with
 | none=>
   rw[b]at f0;have c:l.any p=false:=Rp.2 fun x k=>by rw[(pu b).2 x k];simp
   rw[c];unfold mJ at f0;refine qf func203 call203 ntmps203 results203 ?_;repeat refine nf f0 ?_
   exact L0
 | some i=>
   rw[b]at f0;obtain⟨_,_,d,e,f⟩:=pt b;have c:l.any p=true:=P1.2 ⟨d,OM e,f⟩;have m:(0:Int)<=(i:Int):=by omega
   rw[c];unfold mJ at f0;refine qf func203 call203 ntmps203 results203 ?_;have F:=m;exact nb f0
def D2(env:b7)(G:List Int)(a:G.length<=1000000)(i:Int):cy prog env 252 [I i, .ref 1 [[.seq 1 (G.map aa)]] 0 0] (B (G.contains i)):=by
 have f0:=bG env G i a;refine qf func252 call252 ntmps252 results252 ?_;repeat refine nf f0 ?_
 exact L0
def oq(c:aq)(l:List Int)(j:Nat):List Int:=(l.take j).filter (qa c l)
def D3{c:aq}{l:List Int}{j:Nat}{x:Int}(h:l[j]? =some x):oq c l (j+1)=if qa c l x then oq c l j++[x] else oq c l j:=by
 unfold oq;rw[Ot,h,PH];cases a:qa c l x<;>simp[a]
def Hd(c:aq)(l:List Int)(j:Nat):(oq c l j).length<=l.length:=by
 unfold oq;exact O3 (Ol ..) (by rw[OZ];omega)
def Hc(env:b7)(c:aq)(h:cD c)(l:List Int)(y:l.length<=4000)(t: ∀x∈l,fe c x=true):cy prog env 242 [aH c, .seq 1 (l.map aa)] (.own 3 1 ((kE c l).map aa)):=by
 unfold aH;refine qf func242 call242 ntmps242 results242 ?_;repeat refine sm ?_
 refine am 5 5 3 1 ?_;refine UC l.length (by omega) (fun j r=>[(0, .ref 9 [aK c] 0 0),(3, .loc 3 (r 3) 0 0),(5, .row 5 (r 5)),(9, .seq 1 (l.map aa)),(10,I l.length),(11,I j)]) (fun j _=>[(3,⟨1,[[.seq 1 (l.map aa)]],35,false⟩),(5,⟨1,(oq c l j).map aa,3,true⟩)]) (fun j _ f=>f 3=false/\f 5=false) ⟨rfl,rfl⟩ ?_ ?_
 ·rintro j u f g n q ⟨a,e⟩;obtain⟨x,m⟩:=gE g;have f2:=bX env c h x;rw[OL (.inr (t x (OM m)))]at f2;have v:=d7 h.toRight x true;have f3:=(kq env (hU c x) (fun d=>l.contains d) 252 [[.seq 1 (l.map aa)]] (D2 env l (by omega)) (by rw[cQ];omega)).lend rfl;rw[gL]at f3;have s:=Hd c l j;have p:ek ((oq c l j).length+1) 8:=aG (by omega) (by omega);have k:=D3 (c:=c) m;have o:qa c l x= !((hU c x).any fun d=>l.contains d):=rfl;generalize ((hU c x).any fun d=>l.contains d)=b at*;generalize aw c x true=K at*;unfold aH at f2;cases b with
  | true=>
    rw[o,QA,OK P3]at k;have F:=pf n q m p a e;repeat refine g8 f2 ?_
    refine lL f3 ?_;repeat refine st ?_
    refine⟨j+1,⟨g,by simp only[go_sem,a],by simp only[go_sem,e]⟩,?_,?_,by omega⟩
    ·exact qe
    have F:=k;exact qe
  | false=>
    rw[o,Pb,OL rfl]at k;have F:=pf n q m p a e;repeat refine g8 f2 ?_
    refine lL f3 ?_;repeat refine st ?_
    refine⟨j+1,⟨g,by simp only[go_sem,a],by simp only[go_sem,e]⟩,?_,?_,by omega⟩
    ·exact qe
    have F:=ai k @Oa.{0,0};exact qe
 rintro u f n ⟨a,e⟩;have i:oq c l l.length=l.filter (qa c l):=by unfold oq;rw[Ob]
 rw[i];have w:(l.filter (qa c l)).length<=l.length:=Ol ..;unfold kE;generalize l.filter (qa c l)=U at*;have f4:=qM U (by omega);have F:=jw n a e;repeat refine st ?_
 refine oU 5 rfl (row:=⟨1,U.map aa,3,true⟩) f4 (PD 0) rfl (bl _).symm (by simp only[go_sem,a,e];exact iR) (by simp only[go_sem,a,e];exact iR) (by simp only[go_sem,a,e];exact iR) (by simp only[go_sem,a,e];exact iR) ?_;rw[bl];exact fl
end Go.Proofs.YtfcdkaolcdglmaaGreatDoor
set_option linter.unusedSimpArgs false
namespace Go.Proofs.YtfcdkaolcdglmaaGreatDoor
open Go.Proofs.Tryz
open Go.RowKit Go.ChangeShapes Go.WideShapes Go.ChangeAt
set_option maxRecDepth 100000
abbrev E':=List Int×List Int×List ed×List (List UInt8×Int)×Bool
def o'(x:E'):List AV:=[cI x.1,cI x.2.1, .seq 2 (x.2.2.1.map fi), .seq 2 (x.2.2.2.1.map ew),B x.2.2.2.2]
def W8:=@o'.eq_1
def vC(t:List UInt8×Int):Prop:=t.1.length<=maxLen
def LA(x:E'):Prop:=(x.1.length<=maxLen/\x.2.1.length<=maxLen)/\(x.2.2.1.length<=maxLen/\ ∀m∈x.2.2.1,Kz m)/\x.2.2.2.1.length<=maxLen/\ ∀t∈x.2.2.2.1,vC t
section
variable {H:Type} {enc:TypeId×Value->H} {w:World} {base:Nat} {spare:Nat->Bool} {held:Bool}
end
end Go.Proofs.YtfcdkaolcdglmaaGreatDoor
set_option linter.unusedSimpArgs false
namespace Go.Proofs.YtfcdkaolcdglmaaGreatDoor
open Go.Proofs.Tryz
open Go.RowKit
set_option maxRecDepth 100000
set_option maxHeartbeats 8000000
end Go.Proofs.YtfcdkaolcdglmaaGreatDoor
set_option linter.unusedSimpArgs false
namespace Go.Proofs.YtfcdkaolcdglmaaGreatDoor
open Go.Proofs.Tryz
open Go.RowKit
set_option maxRecDepth 100000
set_option maxHeartbeats 16000000
def UV(c:aq)(act vars:List Int)(d:Int):u0:=⟨vars,d,(List.range c.Z9.length).map fun k:Nat=>act.contains (k:Int)⟩
def E0(c:aq)(act vars:List Int)(d:Int):(UV c act vars d).act.map rK=lf c.Z9.length act:=by
 unfold UV lf;rw[Q1];rfl
def xu(c:aq)(act vars:List Int)(d:Int):(UV c act vars d).act.length=c.Z9.length:=by
 unfold UV;simp
def cc{c:aq}(h:cD c):Uh c:=by
 have f: ∀(i:Int)(s:pc),at_ c i=some s-> ∃k,cG c k s=true:=fun i s e=>by
  unfold at_ at e;split at e
  ·exact⟨_,h.st _ s e⟩
  cases e
 refine⟨fun i a b=> ?_,fun i a b=> ?_,fun n t g a b=> ?_⟩
 ·unfold Ep at b;split at b
  ·rename_i s e;obtain⟨k,d⟩:=f i s e;unfold cG eR at d;simp only[OJ]at d;exact OP.1 d.2.2 a b
  simp at b
 ·unfold V2 at b;split at b
  ·rename_i s e;obtain⟨k,d⟩:=f i s e;unfold cG eR at d;simp only[OJ]at d;exact OP.1 d.1.2.2 a b
  simp at b
 have:=h.tr n t g;unfold d9 eR at this;simp only[OJ]at this;exact OP.1 this.1.2.2 a b
def Bc{c:aq}(h:cD c){n:Nat}{t:Fr}(a:c.trans[n]? =some t):t.guard=[]\/cP t.guard c.vars.length c.Z9.length=true:=by
 have:=h.tr n t a;unfold d9 at this;simp only[OJ,PS,P4]at this;exact this.1.1.2
def UJ(c:aq)(x:E')(d:Int):List AV:=[cI x.1,cI x.2.1, .seq 2 (x.2.2.1.map fi), .seq 2 (x.2.2.2.1.map ew),B x.2.2.2.2,gb,gb, .ref 9 [aK c] 0 0,Sg c.name,I c.initial,ur c.vars,u6 c.Z9,CD c.trans,I d,I 0]
def Xd:=@UJ.eq_1
structure Uu(c:aq)(x:E')(d:Int):Prop where
 act:x.1.length<=1000
 len:x.2.1.length=c.vars.length
 fit: ∀v∈x.2.1,aL v=true
 data:aL d=true
 lg:F' c x.1=true
def Uu.ok{c:aq}{x:E'}{d:Int}(h:Uu c x d):(UV c x.1 x.2.1 d).Ok:=⟨h.fit,h.data⟩
def Fo(env:b7)(c:aq)(a:c.Z9.length<=4000)(x:E')(d:Int)(b:Uu c x d):cy prog env 199 [.ref 15 [UJ c x d] 0 0] (.agg (jG (UV c x.1 x.2.1 d))):=by
 have f0:=j8 env c a x.1 (by have:=b.act;omega);unfold aH at f0;unfold jG;rw[E0];show cy _ _ _ _ (.agg [cI x.2.1,I d, .seq 1 (lf c.Z9.length x.1)]);generalize lf c.Z9.length x.1=L at*;refine qf func199 call199 ntmps199 results199 ?_;have F:=UJ.eq_1;exact nb f0
def tM(a:Addr):Fd->AV
 | .no=> .tuple [I (-1),gc]
 | .one n=> .tuple [I (n:Nat),gc]
 | .bad n=> .tuple [I (-1),dj (1000+(n:Nat)) (b6 a)]
def D8{c:aq}{w:u0}{n:Nat}{l:List Nat}(h:jC w (mK c n)=none):cw c w (n::l)= .bad n:=by unfold cw;rw[h]
def Hq{c:aq}{w:u0}{n:Nat}{l:List Nat}(h:jC w (mK c n)=some true):cw c w (n::l)= .one n:=by unfold cw;rw[h]
def Jt{c:aq}{w:u0}{n:Nat}{l:List Nat}(h:jC w (mK c n)=some false):cw c w (n::l)=cw c w l:=by conv=>lhs;unfold cw;rw[h]
def Hr(env:b7)(s i u:Addr)(B:fk env s u)(w:env 3=some (b6 i))(c:aq)(h:cD c)(H:h9 c)(x:E')(d:Int)(g:Uu c x d)(l:List Nat)(M:l.length<=1000)(G: ∀n∈l,n<c.trans.length):
 cy prog env 179 [.ref 15 [UJ c x d] 0 0, .seq 1 (l.map aB)] (tM i (cw c (UV c x.1 x.2.1 d) l)):=by
 have C:=h.Z6;have D:=h.ZF;have f0:=Fo env c (by omega) x d g;have E:=gS w;have q:(UV c x.1 x.2.1 d).vars.length<=1000000:=by show x.2.1.length<=_;have:=g.len;have:=H.vars;omega
 have f1: ∀(n:Nat)(t:Fr),c.trans[n]? =some t-> ∀b,jC (UV c x.1 x.2.1 d) t.guard=some b->_:=fun n t e b y=>It env s i u B w (UV c x.1 x.2.1 d) g.ok q t.guard (by rw[xu];show _\/cP t.guard (x.2.1.length:Int) _=true;rw[g.len];exact Bc h e) b y;have f2: ∀(n:Nat)(t:Fr),c.trans[n]? =some t->jC (UV c x.1 x.2.1 d) t.guard=none->_:=fun n t e y=>Fw env s i u B w (UV c x.1 x.2.1 d) g.ok q t.guard (by rw[xu];show _\/cP t.guard (x.2.1.length:Int) _=true;rw[g.len];exact Bc h e) y;generalize UV c x.1 x.2.1 d=W at*;unfold jG at f0 f1 f2;refine qf func179 call179 ntmps179 results179 ?_;repeat refine sm ?_
 refine UC l.length (by omega) (fun j _=>[(0, .ref 15 [UJ c x d] 0 0),(10, .seq 1 (l.map aB)),(11,I l.length),(12,I j)]) (fun _ _=>[]) (fun j _ _=>cw c W l=cw c W (l.drop j)) rfl ?_ ?_
 ·rintro j L v k r J a;obtain⟨n,m⟩:=gE k;have o:=G n (OM m);obtain⟨t,e⟩:=gE o;have A:=mc o;have K:IntKind.i64.wrap (1000+(n:Int))=1000+(n:Int):=bB (by omega) (by omega);have z:=bV m;have f:mK c n=t.guard:=by unfold mK;rw[e]
  rw[z]at a;cases p:jC W t.guard with
  | none=>
    rw[D8 (by rw[f];exact p)]at a;rw[a];have f3:=f2 n t e p;have f4:=yb env [109,105,99,114,111,46,69,110,97,98,108,101,100] (1000+(n:Int)) i (by omega);show gu _ _ _ _ _ _;unfold tM;have F:=y' Xd WP WJ m e r A K E;exact UR f0 f3 f4
  | some b=>
    have f3:=f1 n t e b p;cases b with
    | true=>
      rw[Hq (by rw[f];exact p)]at a;rw[a];show gu _ _ _ _ _ _;unfold tM;have F:=vb Xd WP WJ m e r A;exact po f0 f3
    | false=>
      rw[Jt (by rw[f];exact p)]at a;have F:=L7 Xd WP WJ m e r J A;repeat refine PJ f0 f3 ?_
      exact qn (j+1) ⟨k,a⟩
 rintro L v r a;rw[Q3]at a;rw[a];show gu _ _ _ _ _ _;show gu _ _ _ _ _ _;unfold cw tM;have F:=r;exact fl
def NJ(env:b7)(c:aq)(h:cD c)(x:E')(d:Int)(k:Int)(ev:List UInt8):cy prog env 180 [.ref 15 [UJ c x d] 0 0,I k,Sg ev] (.own 3 1 ((dm c k ev c.trans.length).map aB)):=by
 have b:=h.ZF;by_cases a:ev=[]
 ·subst a;rw[Ci];have f0:=za env c (by omega) k;unfold aH at f0;refine qf func180 call180 ntmps180 results180 ?_;have F:=UJ.eq_1;exact nb f0
 rw[Ch c k a];have f0:=xV env c (by omega) ev;have f1:=GA env c (by omega) k (U3 c ev);have e:(ev == [])=false:=by simpa using a
 unfold aH at f0 f1;refine qf func180 call180 ntmps180 results180 ?_;have F:=ai Xd e;exact po f0 f1
def JF{c:aq}{k:Int}{ev:List UInt8}{j n:Nat}(h:n∈dm c k ev j):n<j:=Oh.1 (OY.1 h).1
def ML{c:aq}{w:u0}{ev:List UInt8}{k:Int}{l:List Int}(h:cw c w (dm c k ev c.trans.length)= .no):eh c w ev (k::l)=eh c w ev l:=by
 conv=>lhs;unfold eh
 rw[h]
def Ju{c:aq}{w:u0}{ev:List UInt8}{k:Int}{l:List Int}{n:Nat}(h:cw c w (dm c k ev c.trans.length)= .one n):eh c w ev (k::l)= .one n:=by
 unfold eh;rw[h]
def Jw{c:aq}{w:u0}{ev:List UInt8}{k:Int}{l:List Int}{n:Nat}(h:cw c w (dm c k ev c.trans.length)= .bad n):eh c w ev (k::l)= .bad n:=by
 unfold eh;rw[h]
def Jv(env:b7)(q l r:Addr)(w:fk env q r)(v:env 3=some (b6 l))(c:aq)(h:cD c)(A:h9 c)(x:E')(d:Int)(D:Uu c x d)(i:Int)(ev:List UInt8):
 cy prog env 156 [.ref 15 [UJ c x d] 0 0,I i,Sg ev] (tM l (eh c (UV c x.1 x.2.1 d) ev (i::mu c i))):=by
 have s:=h.Z6;have t:=h.ZF;have f0:=bJ env c;have f1:cy prog env 178 [aS c,I i] (.own 3 1 ((mu c i).map aa)):=xy env c h.toRight i;have f2:=NJ env c h x d;have f3:=fun k=>Hr env q l r w v c h A x d D (dm c k ev c.trans.length) (by have:(dm c k ev c.trans.length).length<=c.trans.length:=AA (yv c k ev) c.trans.length;omega) (fun n z=>JF z);have B:(mu c i).length<=40:=uo ..;have y:ek (1+(mu c i).length) 8:=aG (by omega) (by omega);have u:[[I i]]++(mu c i).map aa=(i::mu c i).map aa:=rfl;have C:(i::mu c i).length<=4000:=by simp only[OU];omega
 have G:((i::mu c i).map aa).length=(i::mu c i).length:=O4 ..;generalize UV c x.1 x.2.1 d=W at*;generalize H:(i::mu c i)=R at*;unfold aS at f0 f1;unfold aH at f0;refine qf func156 call156 ntmps156 results156 ?_;have F:=jw Xd y u;repeat refine PJ f0 f1 ?_
 have F:=UJ.eq_1;refine lq R.length (by omega) (fun j p=>[(0, .ref 15 [UJ c x d] 0 0),(2,Sg ev),(21, .row 13 (p 13)),(22,I R.length),(23,I j)]) (fun _ _=>[(13,⟨1,R.map aa,3,true⟩)]) (fun j _ _=>eh c W ev R=eh c W ev (R.drop j)) rfl ?_ ?_
 ·rintro j p m e f o a;obtain⟨k,g⟩:=gE e;have f4:=f2 k ev;have f5:=f3 k;rw[bV g]at a;cases b:cw c W (dm c k ev c.trans.length) with
  | no=>
    rw[b]at f5;unfold tM at f5;rw[ML b]at a;have F:=mX WN g f o;repeat refine PJ f4 f5 ?_
    exact qn (j+1) ⟨e,a⟩
  | one n=>
    rw[b]at f5;unfold tM at f5;rw[Ju b]at a;rw[a];have E:(0:Int)<=(n:Int):=by omega
    show gu _ _ _ _ _ _;unfold tM;have F:=ld WN g f o E;exact po f4 f5
  | bad n=>
    rw[b]at f5;unfold tM at f5;rw[Jw b]at a;rw[a];show gu _ _ _ _ _ _;unfold tM;have F:=mX WN g f o;exact po f4 f5
 rintro p m f a;rw[Q3]at a;rw[a];show gu _ _ _ _ _ _;unfold eh tM;have F:=f;exact fl
end Go.Proofs.YtfcdkaolcdglmaaGreatDoor
