/- What actions make of an instance, plain. No program is named here. -/
import Derived.Test.YtfhkmjbjafeckaaGreatDoorP22
set_option maxRecDepth 100000
set_option maxHeartbeats 16000000
set_option linter.unusedSimpArgs false
set_option linter.defProp false
namespace Go.Proofs.YtfhkmjbjafeckaaGreatDoor
open Go.Proofs.Tryz
section
open Go.RowKit
def T3(mem:List ds)(h:Int):List Int:=match mem.find? (fun m=>m.1==h) with|some m=>m.2|none=>[]
def FB(env:b8)(mem:List ds)(h:Int)(n:mem.length<=1000000):b7 prog env 170 [fk mem,I h] (.seq 1 ((T3 mem h).map aa)):=by
 unfold T3;cases g:mem.find? (fun m=>m.1==h) with
 | some m=>
   simp only;refine qf func170 call170 ntmps170 results170 ?_;repeat refine m9 ?_
   refine RK mem.length (by omega) (fun j l=>[(0,fk mem),(1,I h),(5,I j)]) (fun _ _=>[]) (fun j _ _=>mem.find? (fun m=>m.1==h)=(mem.drop j).find? (fun m=>m.1==h)) rfl ?_ ?_
   ·rintro j k d b e i a;obtain⟨x,f⟩:=gE b;rw[iH f]at a;cases c:(x.1==h) with
    | true=>
      rw[c]at a;simp only[Nt]at a;obtain rfl:m=x:=by rw[g]at a;cases a;rfl
      have F:=hU UH f e c;exact ek
    | false=>
      rw[c]at a;simp only[NU,OA]at a;have F:=g9 UH f e i c;repeat refine st ?_
      exact qn (j+1) ⟨b,a⟩
   rintro k d e a;rw[ON,QK]at a;rw[g]at a;cases a
 | none=>
   simp only;refine qw func170 call170 ntmps170 results170 ?_;have F:=fe.eq_1;repeat refine st ?_
   refine lq mem.length (by omega) (fun j l=>[(0,fk mem),(1,I h),(5,I j)]) (fun _ _=>[]) (fun j _ _=>mem.find? (fun m=>m.1==h)=(mem.drop j).find? (fun m=>m.1==h)) rfl ?_ ?_
   ·rintro j k d b e i a;obtain⟨x,f⟩:=gE b;rw[iH f]at a;cases c:(x.1==h) with
    | true=>
      rw[c]at a;simp only[Nt]at a;rw[g]at a;cases a
    | false=>
      rw[c]at a;simp only[NU,OA]at a;have F:=g9 UH f e i c;repeat refine st ?_
      exact qn (j+1) ⟨b,a⟩
   rintro k d e a;rw[ON,QK]at a;have F:=e;repeat refine st ?_
   (refine aM ?_;refine⟨_,(by show (aj _ _ _).run _=some _;simp only[go_sem,F];rfl),?_⟩)
   exact .of (.nil 1) (fun _ _ _ h=>by cases h) (fun _ _ _ h=>by cases h)
def HZ{c:aq}{l:List Int}{j:Nat}(a:j<c.Z9.length):eZ c l j=match jh c l j with|some v=>some v|none=>eZ c l (j+1):=by
 unfold eZ;rw[Om (by simpa using a),List.getElem_range,List.findSome?_cons];cases jh c l j<;>rfl
def JP(c:aq)(l:List Int):eZ c l c.Z9.length=none:=by
 unfold eZ;rw[OG (by simp)];rfl
def DR(env:b8)(c:aq)(h:ch c)(l:List Int)(R:l.length<=1000000):b7 prog env 225 [.agg (aA c), .seq 1 (l.map aa)] (I (RW c l)):=by
 have X:=h.Z6;have U:=fun(i:Int)=>bh env c i true (by omega);unfold aA at U;unfold RW;refine qf func225 call225 ntmps225 results225 ?_;have F:=aA.eq_1;repeat refine st ?_
 have F:=aA.eq_1;refine lq c.Z9.length (by omega) (fun j o=>[(1, .seq 1 (l.map aa)),(2, .loc 2 (o 2) 0 0),(5,I j)]) (fun _ _=>[(2,⟨5,[aA c],26,false⟩)]) (fun j _ _=>eZ c l 0=eZ c l j) rfl ?_ ?_
 ·rintro j ws O g n A a;obtain⟨s,b⟩:=gE g;have f0:=cK env l (j:Int) R;rw[HZ g]at a;have d:jh c l j=if l.contains (j:Int)=true then(if s.kind=1/\av c j true≠[]/\b6 l (av c j true)=0 then some s.initial else if s.kind=2 then(g6 c j).find? (fun k=> !l.contains k) else none) else none:=by unfold jh;rw[b]
  cases W:l.contains (j:Int) with
  | false=>
    rw[W]at f0 d;rw[Mt Nc]at d;rw[d]at a;simp only at a;have F:=gb Uv n A;repeat refine fc f0 ?_
    refine⟨j+1,⟨g,a⟩,?_,?_,by omega⟩
    ·exact qe
    have F:=aA.eq_1;exact qe
  | true=>
    rw[W]at f0 d;rw[Mw rfl]at d;have x:=U (j:Int);have hK:=bE h.toRight j true;have z:=gF env l (av c j true) R (by omega);have Z:g6 c (j:Int)=zL (av c j true):=rfl;rw[Z]at d;generalize av c (j:Int) true=K at*;have P:(zL K).length=K.length:=am K;by_cases v:s.kind=1/\K≠[]/\b6 l K=0
    ·rw[Mw v]at d;rw[d]at a;rw[a,OH];have r:(s.kind==1)=true:=by simp[v.1]
     have t:(0:Int)< (K.length:Int):=by
      have:=O2.2 v.2.1;omega
     have M:((b6 l K:Nat):Int)=0:=by rw[v.2.2];rfl
     generalize b6 l K=N at*;have F:=mc Uv Uw b n r t M;exact An f0 x z
    ·have G:K.length=0->(((zL K).find? fun k=> !l.contains k)=none):=fun e=>by rw[OZ.1 e];rfl
     have p:s.kind≠2\/K.length=0->eZ c l 0=eZ c l (j+1):=fun q=>by
      rw[Mt v]at d
      have:jh c l j=none:=by
       rw[d];rcases q with q|q
       ·rw[Mt q]
       rw[G q];split<;>rfl
      rw[this]at a;exact a
     cases r:(s.kind==1) with
     | true=>
       have w:s.kind=1:=by simpa using r
       have t:(s.kind==2)=false:=by simp[w]
       have a:=p (.inl (by omega));by_cases C:K.length=0
       ·have u: ¬(0:Int)< (K.length:Int):=by omega
        have F:=i' Uv Uw b n r u;repeat refine Sx f0 x z ?_
        refine aH (D:=Unit) (fun _ o=>[(1, .seq 1 (l.map aa)),(2, .loc 2 (o 2) 0 0),(5,I j),(6, .row 21 (o 21)),(7,I 0)]) (fun _ _=>[(2,⟨5,[aA c],26,false⟩),(21,⟨1,K.map aB,3,true⟩)]) (fun _ _ _=>True) (fun _=>0) () trivial ?_ ?_ ?_
        ·(simp only[go_sem,F])
         try rfl
        ·have F:=aA.eq_1
         (simp only[go_sem,F])
         try rfl
        rintro _ H B _;have F:=i' Uv Uw b n A u;repeat refine st ?_
        refine⟨j+1,⟨g,a⟩,?_,?_,by omega⟩
        ·exact qe
        have F:=aA.eq_1;exact qe
       have u:(0:Int)< (K.length:Int):=by omega
       have M:(((b6 l K:Nat):Int)==0)=false:=by
        have:b6 l K≠0:=fun e=>v ⟨w,fun Y=>C (by rw[Y];rfl),e⟩;simp;omega
       generalize b6 l K=N at*;have F:=mc Uv Uw b n r u M;repeat refine Sx f0 x z ?_
       refine aH (D:=Unit) (fun _ o=>[(1, .seq 1 (l.map aa)),(2, .loc 2 (o 2) 0 0),(5,I j),(6, .row 21 (o 21)),(7,I 0)]) (fun _ _=>[(2,⟨5,[aA c],26,false⟩),(21,⟨1,K.map aB,3,true⟩)]) (fun _ _ _=>True) (fun _=>0) () trivial ?_ ?_ ?_
       ·(simp only[go_sem,F])
        try rfl
       ·have F:=aA.eq_1
        (simp only[go_sem,F])
        try rfl
       rintro _ H B _;have F:=mc Uv Uw b n A u t;repeat refine st ?_
       refine⟨j+1,⟨g,a⟩,?_,?_,by omega⟩
       ·exact qe
       have F:=aA.eq_1;exact qe
     | false=>
       have w:s.kind≠1:=by simpa using r
       cases t:(s.kind==2) with
       | false=>
         have a:=p (.inl (by simpa using t));by_cases C:K.length=0
         ·have u: ¬(0:Int)< (K.length:Int):=by omega
          have F:=g9 Uv Uw b n r;repeat refine Sx f0 x z ?_
          refine aH (D:=Unit) (fun _ o=>[(1, .seq 1 (l.map aa)),(2, .loc 2 (o 2) 0 0),(5,I j),(6, .row 21 (o 21)),(7,I 0)]) (fun _ _=>[(2,⟨5,[aA c],26,false⟩),(21,⟨1,K.map aB,3,true⟩)]) (fun _ _ _=>True) (fun _=>0) () trivial ?_ ?_ ?_
          ·(simp only[go_sem,F])
           try rfl
          ·have F:=aA.eq_1
           (simp only[go_sem,F])
           try rfl
          rintro _ H B _;have F:=i' Uv Uw b n A u;repeat refine st ?_
          refine⟨j+1,⟨g,a⟩,?_,?_,by omega⟩
          ·exact qe
          have F:=aA.eq_1;exact qe
         have u:(0:Int)< (K.length:Int):=by omega
         have F:=g9 Uv Uw b n r;repeat refine Sx f0 x z ?_
         refine aH (D:=Unit) (fun _ o=>[(1, .seq 1 (l.map aa)),(2, .loc 2 (o 2) 0 0),(5,I j),(6, .row 21 (o 21)),(7,I 0)]) (fun _ _=>[(2,⟨5,[aA c],26,false⟩),(21,⟨1,K.map aB,3,true⟩)]) (fun _ _ _=>True) (fun _=>0) () trivial ?_ ?_ ?_
         ·(simp only[go_sem,F])
          try rfl
         ·have F:=aA.eq_1
          (simp only[go_sem,F])
          try rfl
         rintro _ H B _;have F:=mc Uv Uw b n A u t;repeat refine st ?_
         refine⟨j+1,⟨g,a⟩,?_,?_,by omega⟩
         ·exact qe
         have F:=aA.eq_1;exact qe
       | true=>
         have Q:s.kind=2:=by simpa using t
         rw[Mt v,Mw Q]at d;rw[d]at a;try clear p G
         have F:=g9 Uv Uw b n r;repeat refine Sx f0 x z ?_
         have F:=aA.eq_1;refine lq K.length (by omega) (fun m o=>[(1, .seq 1 (l.map aa)),(2, .loc 2 (o 2) 0 0),(5,I j),(6, .row 21 (o 21)),(7,I m)]) (fun _ _=>[(2,⟨5,[aA c],26,false⟩),(21,⟨1,K.map aB,3,true⟩)]) (fun m _ _=>((zL K).find? fun k=> !l.contains k)=((zL K).drop m).find? fun k=> !l.contains k) rfl ?_ ?_
         ·rintro m H B E L p2 f;obtain⟨y,S⟩:=gE E;have J:=cK env l (y:Int) R;have T:(zL K)[m]? =some (y:Int):=by unfold zL;rw[NB,S];rfl
          rw[iH T]at f;cases V:l.contains (y:Int) with
          | false=>
            rw[V]at J f;rw[Mw (by rfl)]at f;rw[f]at a;simp only at a;rw[a,OH];have F:=n4 Uv Uw Ux b S n L t;exact hH J
          | true=>
            rw[V]at J f;rw[Mt (by simp)]at f;have F:=qr Uv Uw Ux b S n L p2 t;repeat refine fc J ?_
            refine⟨m+1,⟨E,f⟩,?_,?_,by omega⟩
            ·exact qe
            have F:=aA.eq_1;exact qe
         rintro H B L f;rw[OG (by rw[P];exact NC _),QK]at f;rw[f]at a;simp only at a;have F:=i' Uv Uw b n A L;repeat refine st ?_
         refine⟨j+1,⟨g,a⟩,?_,?_,by omega⟩
         ·exact qe
         have F:=aA.eq_1;exact qe
 rintro ws O n a;rw[a,JP,PG];have F:=ai Uv n;exact ek
def tW(c:aq): ∀(f:Nat)(l:List Int),(mT c f l).length<=l.length+f
 |0,l=>NC _
 | f+1,l=>by
   unfold mT;split
   ·omega
   have:=tW c f (l++[RW c l]);rw[My,Na]at this;omega
def Gh(env:b8)(c:aq)(h:ch c)(l:List Int)(t:l.length<=3000):b7 prog env 172 [.agg (aA c), .seq 1 (l.map aa)] (.own 3 1 ((A' c l).map aa)):=by
 have k:=h.Z6;have j:cU l.length 8:=aC (by omega) (by omega);refine qf func172 call172 ntmps172 results172 ?_;have F:=ai Uv j;repeat refine st ?_
 refine aH (D:=Nat×List Int) (fun d m=>[(2, .loc 2 (m 2) 0 0),(5, .row 8 (m 8)),(6,I d.1)]) (fun d _=>[(2,⟨5,[aA c],26,false⟩),(8,⟨1,d.2.map aa,3,true⟩)]) (fun d _ b=>(d.1<=c.Z9.length+1/\mT c (c.Z9.length+1-d.1) d.2=A' c l/\d.2.length<=l.length+d.1)/\b 8=false) (fun d=>c.Z9.length+1-d.1) (0,l) ?_ ?_ ?_ ?_
 ·exact⟨⟨NG _,rfl,NC _⟩,by simp only[go_sem]⟩
 ·(simp only[go_sem,F])
  try rfl
 ·have F:=aA.eq_1
  (simp only[go_sem,F])
  try rfl
 rintro⟨n,L⟩ u b ⟨⟨r,a,o⟩,e⟩;simp only at r a o;by_cases q:n<=c.Z9.length
 ·have g:(n:Int)<=(c.Z9.length:Int):=by omega
  have s:=aD (show n<c.Z9.length+1 by omega) (by omega);have f1:=(DR env c h L (by omega)).lend rfl;unfold aA at f1;rw[show c.Z9.length+1-n=(c.Z9.length-n)+1 by omega]at a;unfold mT at a;generalize RW c L=i at*;by_cases f:i<0
  ·rw[Mw f]at a;rw[<-a];have F:=hU Uv g e f;repeat refine st ?_
   refine lL f1 ?_;exact ek
  rw[Mt f]at a;have p:cU (L.length+1) 8:=aC (by omega) (by omega);have F:=i' Uv g s e f p;repeat refine st ?_
  refine lL f1 ?_;repeat refine st ?_
  refine⟨(n+1,L++[i]),⟨⟨by simp only;omega,?_,by simp only[My,Na];omega⟩,by simp only[go_sem,e]⟩,?_,?_,by simp only;omega⟩
  ·simp only;rw[show c.Z9.length+1-(n+1)=c.Z9.length-n by omega];exact a
  ·exact qe
  have F:=ai Uv @NA.{0,0};exact qe
 obtain rfl:n=c.Z9.length+1:=by omega
 have g: ¬((c.Z9.length+1:Nat):Int)<=(c.Z9.length:Int):=by omega
 rw[QQ]at a;have a:L=A' c l:=a;rw[<-a];have F:=gb Uv g e;exact ek
def so{c:aq}(h:ch c){mem:List ds}(i:bc c mem=true): ∀m∈mem,m.2≠[]/\m.2.length<=32:=fun m d=>by
 have a:=(pO i).2 m d;unfold lQ at a;split at a
 ·split at a
  ·rw[Mu,NF]at a;exact⟨fun e=>by rw[e]at a;simp at a,by omega⟩
  unfold D' at a;simp only[Mu]at a;have g:=a.2.1.1.1;have f:m.2.Nodup:=kJ g
  have b: ∀x∈m.2,fb c x=true:=fun x j=>by
   have:=Mz.1 a.2.1.1.2 x j;unfold eD at this;rw[Mu]at this;exact aZ this.1
  have:=iI f b;have:=h.toRight.Z6;refine⟨fun e=> ?_,by omega⟩;rw[e]at g;cases g
 cases a
def vZ(env:b8)(c:aq)(h:ch c)(t:tR)(f:fb c t.src=true)(g:fb c t.target=true)(mem:List ds)(H:mem.length<=1000000)(A:bc c mem=true):
 b7 prog env 119 [.agg (aA c), .agg (ax t),fk mem] (.own 3 1 ((IZ c t.src t.target mem).map aB)):=by
 obtain⟨a,w,y,v,M⟩:=t;simp only at f g |-;obtain⟨k,s,rfl,e,n⟩:=cS g;have o:=h.toRight;have z:=h.Z6;obtain⟨K,L⟩:=FP h g A;have r: ¬(k:Int)<0:=by omega
 have P:=(Mr.1 e).1;have u:((k:Nat):Int)< (c.Z9.length:Int):=by omega
 have f1:=mG env c o ⟨a,w,y,v,(k:Int)⟩ f;have f2:=wX env c o (kv c (k:Int) mem) L (ns c a (k:Int));have J:=B9 c (kv c (k:Int) mem) (ns c a (k:Int))
 have j: ∀x∈zL (th c (kv c (k:Int) mem) (ns c a (k:Int))),fb c x=true:=fun x q=>by
  obtain⟨i,E,rfl⟩:=NE.1 q;exact aV.2 (NX.1 (ND.1 E).1)
 have f3:=Gh env c h (zL (th c (kv c (k:Int) mem) (ns c a (k:Int)))) (by rw[am];omega)
 have p:(A' c (zL (th c (kv c (k:Int) mem) (ns c a (k:Int))))).length<=1000000:=by
  have:=tW c (c.Z9.length+1) (zL (th c (kv c (k:Int) mem) (ns c a (k:Int))));rw[am]at this;unfold A';omega
 have f4:=sV env c o (A' c (zL (th c (kv c (k:Int) mem) (ns c a (k:Int))))) p fun x q=>(aI.1 (((tV h j).1 q).in h j)).1;unfold IZ;rw[zy h K];rw[bd]at f3;have f5:=bu env s;have f6:=FB env mem (k:Int) H
 have b:kv c (k:Int) mem=if aU s=true then(if T3 mem (k:Int)=[] then [s.initial] else T3 mem (k:Int)) else [(k:Int)]:=by
  unfold kv;rw[n];simp only;cases I:aU s with
  |false=>rfl
  | true=>
    unfold T3;cases C:mem.find? (fun m=>m.1==(k:Int)) with
    | some m=>
      simp only[Nt];rw[Mt (so h A m (On C)).1]
    |none=>rfl
 generalize ns c a (k:Int)=D at*;generalize A' c (zL (th c (kv c (k:Int) mem) D))=G at*;generalize th c (kv c (k:Int) mem) D=N at*;generalize T3 mem (k:Int)=O at*;unfold ax at f1;simp only at f1;unfold aA at f1 f2 f3 f4;unfold aK at f5;cases d:aU s with
 | false=>
   rw[d]at f5;rw[b,d,Mt Nc]at f2;refine qf func119 call119 ntmps119 results119 ?_;have F:=i' Uv Uy Uw r u e;exact Uh f5 f1 f2 f3 f4
 | true=>
   rw[d]at f5;rw[b,d,Mw rfl]at f2;by_cases l:O=[]
   ·rw[Mw l]at f2;subst l;refine qf func119 call119 ntmps119 results119 ?_;have F:=i' Uv Uy Uw r u e;exact TC f5 f6 f1 f2 f3 f4
   rw[Mt l]at f2
   have B:((O.length:Int)==0)=false:=by
    have:=O2.2 l;simp;omega
   refine qf func119 call119 ntmps119 results119 ?_;have F:=mc Uv Uy Uw r u e B;exact TC f5 f6 f1 f2 f3 f4
end
section
open Go.RowKit Go.Extern.Stop Go.Stop Go.Extern
def Tryz.typeOfS(v:Value)(w:World):(ReflectliteType.typeOf #[.iface 369 v]).run prog w= .ok (.iface 237 (.agg #[.pointer (some ⟨11,369,none⟩)])) w:=by kernel_rfl
def Tryz.assignS(w:World):(ReflectliteType.relation "AssignableTo" ReflectliteType.assignableTo #[.agg #[.pointer (some ⟨11,369,none⟩)], .iface 237 (.agg #[.pointer (some ⟨11,134,none⟩)])]).run prog w= .ok (.bool false) w:=by kernel_rfl
def Tryz.noAsE(v:Value)(a:TypeId)(w:World):(Instr.typeAssert (.iface 369 v) a 263 true).run prog w= .ok (.tuple #[.nilIface, .bool false]) w:=Pw Tryz.underlying263 (by kernel_rfl) (by kernel_rfl) v a w
def zR(e t:Addr)(w:World)(hg:w.cell? ⟨9,0,none⟩=some z6):
 Calls prog 70 #[.iface 369 (.pointer (some e)), .iface 155 (.pointer (some t))] w fun ev w'=>ev= .returned (.bool false)/\w'=((w.alloc (.cells #[.pointer (some t)] 155)).alloc (.cells #[.pointer (some ⟨11,155,none⟩), .pointer (some ⟨w.heap.size,0,none⟩), .int .u64 150] 210)).alloc (.cells #[.pointer (some ⟨11,155,none⟩), .pointer (some ⟨w.heap.size,0,none⟩), .int .u64 150] 210):=by
 have h6:=@OC prog 125 _ (fun args=>ReflectliteValue.unpack (args.getD 0 (.tuple #[]))) func125 (by kernel_rfl) (by kernel_rfl) (by kernel_rfl) (by kernel_rfl);have h7:=@OC prog 126 _ (ReflectliteValue.methodAny (ReflectliteValue.valueError "reflectlite.Value.Type" 0) (fun t _ _ _=>ReflectliteType.toType t)) func126 (by kernel_rfl) (by kernel_rfl) (by kernel_rfl) (by kernel_rfl);have h8:=@OC prog 127 _ (ReflectliteValue.method (ReflectliteValue.valueError "reflectlite.Value.IsNil" 0) ReflectliteValue.isNil) func127 (by kernel_rfl) (by kernel_rfl) (by kernel_rfl) (by kernel_rfl);have h27:=@OC prog 345 _ (ReflectliteType.abiMethod fun t=>do pure (.int .u8 (<-Rtype.kind t))) func345 (by kernel_rfl) (by kernel_rfl) (by kernel_rfl) (by kernel_rfl);have h37:=@OC prog 356 _ (ReflectliteType.method ReflectliteType.elem) func356 (by kernel_rfl) (by kernel_rfl) (by kernel_rfl) (by kernel_rfl);have h38:=@OC prog 357 _ (ReflectliteType.relation "Implements" ReflectliteType.implements_) func357 (by kernel_rfl) (by kernel_rfl) (by kernel_rfl) (by kernel_rfl);have h10:=@OC prog 103 _ ReflectliteType.typeOf func103 (by kernel_rfl) (by kernel_rfl) (by kernel_rfl) (by kernel_rfl);have h35:=@OC prog 354 _ (ReflectliteType.relation "AssignableTo" ReflectliteType.assignableTo) func354 (by kernel_rfl) (by kernel_rfl) (by kernel_rfl) (by kernel_rfl);have tO:=Tryz.typeOfS;have mA:=Tryz.asmethodAssignableTo;have a25:=Tryz.assignS;have f6:=Tryz.asvalueOf27;have f7:=Tryz.astype27;have mK:=Tryz.asmethodKind;have mE:=Tryz.asmethodElem;have mI:=Tryz.asmethodImplements;have k27:=Tryz.askind27;have k25:=Tryz.askind25;have e27:=Tryz.aselem27;have i25:=Tryz.asimplements25;have aE:=Tryz.noAsE;have uE:=Tryz.noUnwrapE;have vE:=Tryz.noUnwrapsE;have n8:=Tryz.asisNil27 ⟨w.heap.size,0,none⟩ t ((w.alloc (.cells #[.pointer (some t)] 155)).alloc (.cells #[.pointer (some ⟨11,155,none⟩), .pointer (some ⟨w.heap.size,0,none⟩), .int .u64 150] 210)) (by simp);have hlt:9<w.heap.size:=ag hg
 have hg2:((w.alloc (.cells #[.pointer (some t)] 155)).alloc (.cells #[.pointer (some ⟨11,155,none⟩), .pointer (some ⟨w.heap.size,0,none⟩), .int .u64 150] 210)).cell? ⟨9,0,none⟩=some (.iface 237 (.agg #[.pointer (some ⟨11,40,none⟩)])):=by
  rw[OU _ _ ⟨9,0,none⟩ (by simp;omega),OU _ _ ⟨9,0,none⟩ hlt];exact hg
 go_enter func70,ntmps70
 go_wp2
 refine Pm 1 ?_;rw[Ow]
 go_wp2
 go_ret
 exact⟨rfl,rfl⟩
end
section
open Go.RowKit
def b9(e t:Addr)(c:Value)(w:World)(h:w.cell? ⟨9,0,none⟩=some z6)(a:w.cell? t=some c)(d:w.frozen? t=false)(i:t.spot=none):
 Calls prog 70 #[.iface 134 (.pointer (some e)), .iface 155 (.pointer (some t))] w fun ev g=>ev= .returned (.bool true)/\g.cell? t=some (.pointer (some e))/\g.frozen? t=false/\Below t.block w g:=by
 refine(MS e t c w h a d).mono ?_;rintro ev g ⟨rfl,rfl⟩
 have f:t.block<w.heap.size:=by
  obtain⟨b,o,sp⟩:=t;cases i;exact ag a
 refine⟨rfl,?_,?_,?_⟩
 ·refine World.cell?_setCell_same (u:=c) _ _ _ ?_;rw[OU _ _ t (by simp;omega),OU _ _ t (by simp;omega),OU _ _ t (by simp;omega),OU _ _ t f,a]
 ·rw[World.frozen?_setCell,PC _ _ t (by simp;omega),PC _ _ t (by simp;omega),PC _ _ t (by simp;omega),PC _ _ t (Qv f)];exact d
 exact(((((O1 _ _).alloc (by omega) _).alloc (by simp;omega) _).alloc (by simp;omega) _).alloc (by simp;omega) _).setCell (NC _) _
def Iu(b0 o0 b1 o1:Nat)(w:World)(q0:Int)(n0:q0<0)(hp0:w.cell? ⟨b0,o0+1,none⟩=some (.int .i64 q0))(hs0:w.cell? ⟨b0,o0+2,none⟩=some (.iface 134 (.pointer (some ⟨b1,o1,none⟩))))(p:Int)(h0:0<=p)(hp1:w.cell? ⟨b1,o1+1,none⟩=some (.int .i64 p))(hg:w.cell? ⟨9,0,none⟩=some z6):
 Calls prog 40 #[.iface 134 (.pointer (some ⟨b0,o0,none⟩))] w fun e w'=>e= .returned (.int .i64 p)/\Below w.heap.size w w':=by
 have hb0:=(O1 w.heap.size w).alloc (NC _) (.cells #[.pointer none] 134);have G0:=N9 (dj hg hb0);have P0:=N9 (dj hp0 hb0);have l0:=ag hp0;have S0:=N9 (dj hs0 hb0);have m0:=ag hs0;have P1:=N9 (dj hp1 hb0);have l1:=ag hp1;have B0:=N9 hb0;have hgb:=ag hg;have hwb:fI (w.alloc (.cells #[.pointer none] 134)) w.heap.size 134 #[.pointer none]:=fI.new w 134 #[.pointer none];have n0': ¬0<=q0:=by omega
 try clear hb0 hg hp0 hp1 hs0
 go_enter func40,ntmps40
 go_wp2_with fail
 refine Pm 2 ?_;rw[Ow]
 go_wp2_with fail
 refine(b9 ⟨b0,o0,none⟩ ⟨w.heap.size,0,none⟩ (.pointer none) _ G0.out (by simp) (hwb.frozen 0) rfl).mono ?_;rintro e w2 ⟨rfl,hc0,fz0,hb⟩;have P0:=N9 ((hb.cell (p:=⟨b0,o0+1,none⟩) l0).trans P0.out);have S0:=N9 ((hb.cell (p:=⟨b0,o0+2,none⟩) m0).trans S0.out);have P1:=N9 ((hb.cell (p:=⟨b1,o1+1,none⟩) l1).trans P1.out);have G1:=N9 ((hb.cell (p:=⟨9,0,none⟩) hgb).trans G0.out);have B1:=N9 (B0.out.trans hb);have hp0:=P0.out;have hs0:=S0.out;try clear hb
 go_wp2_with fail
 try clear hp0 hs0
 rw[Ow]
 go_wp2_with fail
 refine(b9 ⟨b1,o1,none⟩ ⟨w.heap.size,0,none⟩ (.pointer (some ⟨b0,o0,none⟩)) w2 G1.out hc0 (fz0) rfl).mono ?_;rintro e w3 ⟨rfl,hc1,fz1,hb⟩;have P1:=N9 ((hb.cell (p:=⟨b1,o1+1,none⟩) l1).trans P1.out);have G2:=N9 ((hb.cell (p:=⟨9,0,none⟩) hgb).trans G1.out);have B2:=N9 (B1.out.trans hb);have hp1:=P1.out;try clear hb
 go_wp2_with fail
 try clear hp1
 go_ret
 exact⟨rfl,B2.out⟩
def Gu(b0 o0 b1 o1:Nat)(w:World)(q0:Int)(n0:q0<0)(hp0:w.cell? ⟨b0,o0+1,none⟩=some (.int .i64 q0))(hs0:w.cell? ⟨b0,o0+2,none⟩=some (.iface 134 (.pointer (some ⟨b1,o1,none⟩))))(p:Int)(h0:p<0)(hp1:w.cell? ⟨b1,o1+1,none⟩=some (.int .i64 p))(a:Addr)(hs1:w.cell? ⟨b1,o1+2,none⟩=some (.iface 369 (.pointer (some a))))(hg:w.cell? ⟨9,0,none⟩=some z6):
 Calls prog 40 #[.iface 134 (.pointer (some ⟨b0,o0,none⟩))] w fun e w'=>e= .returned (.int .i64 (-1))/\Below w.heap.size w w':=by
 have hb0:=(O1 w.heap.size w).alloc (NC _) (.cells #[.pointer none] 134);have G0:=N9 (dj hg hb0);have P0:=N9 (dj hp0 hb0);have l0:=ag hp0;have S0:=N9 (dj hs0 hb0);have m0:=ag hs0;have P1:=N9 (dj hp1 hb0);have l1:=ag hp1;have S1:=N9 (dj hs1 hb0);have m1:=ag hs1;have B0:=N9 hb0;have hgb:=ag hg;have hwb:fI (w.alloc (.cells #[.pointer none] 134)) w.heap.size 134 #[.pointer none]:=fI.new w 134 #[.pointer none];have n0': ¬0<=q0:=by omega
 have h0': ¬0<=p:=by omega
 try clear hb0 hg hp0 hp1 hs0 hs1
 go_enter func40,ntmps40
 go_wp2_with fail
 refine Pm 3 ?_;rw[Ow]
 go_wp2_with fail
 refine(b9 ⟨b0,o0,none⟩ ⟨w.heap.size,0,none⟩ (.pointer none) _ G0.out (by simp) (hwb.frozen 0) rfl).mono ?_;rintro e w2 ⟨rfl,hc0,fz0,hb⟩;have P0:=N9 ((hb.cell (p:=⟨b0,o0+1,none⟩) l0).trans P0.out);have S0:=N9 ((hb.cell (p:=⟨b0,o0+2,none⟩) m0).trans S0.out);have P1:=N9 ((hb.cell (p:=⟨b1,o1+1,none⟩) l1).trans P1.out);have S1:=N9 ((hb.cell (p:=⟨b1,o1+2,none⟩) m1).trans S1.out);have G1:=N9 ((hb.cell (p:=⟨9,0,none⟩) hgb).trans G0.out);have B1:=N9 (B0.out.trans hb);have hp0:=P0.out;have hs0:=S0.out;try clear hb
 go_wp2_with fail
 try clear hp0 hs0
 rw[Ow]
 go_wp2_with fail
 refine(b9 ⟨b1,o1,none⟩ ⟨w.heap.size,0,none⟩ (.pointer (some ⟨b0,o0,none⟩)) w2 G1.out hc0 (fz0) rfl).mono ?_;rintro e w3 ⟨rfl,hc1,fz1,hb⟩;have P1:=N9 ((hb.cell (p:=⟨b1,o1+1,none⟩) l1).trans P1.out);have S1:=N9 ((hb.cell (p:=⟨b1,o1+2,none⟩) m1).trans S1.out);have G2:=N9 ((hb.cell (p:=⟨9,0,none⟩) hgb).trans G1.out);have B2:=N9 (B1.out.trans hb);have hp1:=P1.out;have hs1:=S1.out;try clear hb
 go_wp2_with fail
 try clear hp1 hs1
 rw[Ow]
 go_wp2_with fail
 refine(zR a ⟨w.heap.size,0,none⟩ w3 G2.out).mono ?_;rintro e w9 ⟨rfl,rfl⟩
 go_wp2_with fail
 go_ret
 have hsz:=B2.out.size;exact⟨rfl,((B2.out.alloc hsz _).alloc (by simp;omega) _).alloc (by simp;omega) _⟩
def It(b0 o0 b1 o1 b2 o2:Nat)(w:World)(q0:Int)(n0:q0<0)(hp0:w.cell? ⟨b0,o0+1,none⟩=some (.int .i64 q0))(hs0:w.cell? ⟨b0,o0+2,none⟩=some (.iface 134 (.pointer (some ⟨b1,o1,none⟩))))(q1:Int)(n1:q1<0)(hp1:w.cell? ⟨b1,o1+1,none⟩=some (.int .i64 q1))(hs1:w.cell? ⟨b1,o1+2,none⟩=some (.iface 134 (.pointer (some ⟨b2,o2,none⟩))))(p:Int)(h0:0<=p)(hp2:w.cell? ⟨b2,o2+1,none⟩=some (.int .i64 p))(hg:w.cell? ⟨9,0,none⟩=some z6):
 Calls prog 40 #[.iface 134 (.pointer (some ⟨b0,o0,none⟩))] w fun e w'=>e= .returned (.int .i64 p)/\Below w.heap.size w w':=by
 have hb0:=(O1 w.heap.size w).alloc (NC _) (.cells #[.pointer none] 134);have G0:=N9 (dj hg hb0);have P0:=N9 (dj hp0 hb0);have l0:=ag hp0;have S0:=N9 (dj hs0 hb0);have m0:=ag hs0;have P1:=N9 (dj hp1 hb0);have l1:=ag hp1;have S1:=N9 (dj hs1 hb0);have m1:=ag hs1;have P2:=N9 (dj hp2 hb0);have l2:=ag hp2;have B0:=N9 hb0;have hgb:=ag hg;have hwb:fI (w.alloc (.cells #[.pointer none] 134)) w.heap.size 134 #[.pointer none]:=fI.new w 134 #[.pointer none];have n0': ¬0<=q0:=by omega
 have n1': ¬0<=q1:=by omega
 try clear hb0 hg hp0 hp1 hp2 hs0 hs1
 go_enter func40,ntmps40
 go_wp2_with fail
 refine Pm 3 ?_;rw[Ow]
 go_wp2_with fail
 refine(b9 ⟨b0,o0,none⟩ ⟨w.heap.size,0,none⟩ (.pointer none) _ G0.out (by simp) (hwb.frozen 0) rfl).mono ?_;rintro e w2 ⟨rfl,hc0,fz0,hb⟩;have P0:=N9 ((hb.cell (p:=⟨b0,o0+1,none⟩) l0).trans P0.out);have S0:=N9 ((hb.cell (p:=⟨b0,o0+2,none⟩) m0).trans S0.out);have P1:=N9 ((hb.cell (p:=⟨b1,o1+1,none⟩) l1).trans P1.out);have S1:=N9 ((hb.cell (p:=⟨b1,o1+2,none⟩) m1).trans S1.out);have P2:=N9 ((hb.cell (p:=⟨b2,o2+1,none⟩) l2).trans P2.out);have G1:=N9 ((hb.cell (p:=⟨9,0,none⟩) hgb).trans G0.out);have B1:=N9 (B0.out.trans hb);have hp0:=P0.out;have hs0:=S0.out;try clear hb
 go_wp2_with fail
 try clear hp0 hs0
 rw[Ow]
 go_wp2_with fail
 refine(b9 ⟨b1,o1,none⟩ ⟨w.heap.size,0,none⟩ (.pointer (some ⟨b0,o0,none⟩)) w2 G1.out hc0 (fz0) rfl).mono ?_;rintro e w3 ⟨rfl,hc1,fz1,hb⟩;have P1:=N9 ((hb.cell (p:=⟨b1,o1+1,none⟩) l1).trans P1.out);have S1:=N9 ((hb.cell (p:=⟨b1,o1+2,none⟩) m1).trans S1.out);have P2:=N9 ((hb.cell (p:=⟨b2,o2+1,none⟩) l2).trans P2.out);have G2:=N9 ((hb.cell (p:=⟨9,0,none⟩) hgb).trans G1.out);have B2:=N9 (B1.out.trans hb);have hp1:=P1.out;have hs1:=S1.out;try clear hb
 go_wp2_with fail
 try clear hp1 hs1
 rw[Ow]
 go_wp2_with fail
 refine(b9 ⟨b2,o2,none⟩ ⟨w.heap.size,0,none⟩ (.pointer (some ⟨b1,o1,none⟩)) w3 G2.out hc1 (fz1) rfl).mono ?_;rintro e w4 ⟨rfl,hc2,fz2,hb⟩;have P2:=N9 ((hb.cell (p:=⟨b2,o2+1,none⟩) l2).trans P2.out);have G3:=N9 ((hb.cell (p:=⟨9,0,none⟩) hgb).trans G2.out);have B3:=N9 (B2.out.trans hb);have hp2:=P2.out;try clear hb
 go_wp2_with fail
 try clear hp2
 go_ret
 exact⟨rfl,B3.out⟩
def Gt(b0 o0 b1 o1 b2 o2:Nat)(w:World)(q0:Int)(n0:q0<0)(hp0:w.cell? ⟨b0,o0+1,none⟩=some (.int .i64 q0))(hs0:w.cell? ⟨b0,o0+2,none⟩=some (.iface 134 (.pointer (some ⟨b1,o1,none⟩))))(q1:Int)(n1:q1<0)(hp1:w.cell? ⟨b1,o1+1,none⟩=some (.int .i64 q1))(hs1:w.cell? ⟨b1,o1+2,none⟩=some (.iface 134 (.pointer (some ⟨b2,o2,none⟩))))(p:Int)(h0:p<0)(hp2:w.cell? ⟨b2,o2+1,none⟩=some (.int .i64 p))(a:Addr)(hs2:w.cell? ⟨b2,o2+2,none⟩=some (.iface 369 (.pointer (some a))))(hg:w.cell? ⟨9,0,none⟩=some z6):
 Calls prog 40 #[.iface 134 (.pointer (some ⟨b0,o0,none⟩))] w fun e w'=>e= .returned (.int .i64 (-1))/\Below w.heap.size w w':=by
 have hb0:=(O1 w.heap.size w).alloc (NC _) (.cells #[.pointer none] 134);have G0:=N9 (dj hg hb0);have P0:=N9 (dj hp0 hb0);have l0:=ag hp0;have S0:=N9 (dj hs0 hb0);have m0:=ag hs0;have P1:=N9 (dj hp1 hb0);have l1:=ag hp1;have S1:=N9 (dj hs1 hb0);have m1:=ag hs1;have P2:=N9 (dj hp2 hb0);have l2:=ag hp2;have S2:=N9 (dj hs2 hb0);have m2:=ag hs2;have B0:=N9 hb0;have hgb:=ag hg;have hwb:fI (w.alloc (.cells #[.pointer none] 134)) w.heap.size 134 #[.pointer none]:=fI.new w 134 #[.pointer none];have n0': ¬0<=q0:=by omega
 have n1': ¬0<=q1:=by omega
 have h0': ¬0<=p:=by omega
 try clear hb0 hg hp0 hp1 hp2 hs0 hs1 hs2
 go_enter func40,ntmps40
 go_wp2_with fail
 refine Pm 4 ?_;rw[Ow]
 go_wp2_with fail
 refine(b9 ⟨b0,o0,none⟩ ⟨w.heap.size,0,none⟩ (.pointer none) _ G0.out (by simp) (hwb.frozen 0) rfl).mono ?_;rintro e w2 ⟨rfl,hc0,fz0,hb⟩;have P0:=N9 ((hb.cell (p:=⟨b0,o0+1,none⟩) l0).trans P0.out);have S0:=N9 ((hb.cell (p:=⟨b0,o0+2,none⟩) m0).trans S0.out);have P1:=N9 ((hb.cell (p:=⟨b1,o1+1,none⟩) l1).trans P1.out);have S1:=N9 ((hb.cell (p:=⟨b1,o1+2,none⟩) m1).trans S1.out);have P2:=N9 ((hb.cell (p:=⟨b2,o2+1,none⟩) l2).trans P2.out);have S2:=N9 ((hb.cell (p:=⟨b2,o2+2,none⟩) m2).trans S2.out);have G1:=N9 ((hb.cell (p:=⟨9,0,none⟩) hgb).trans G0.out);have B1:=N9 (B0.out.trans hb);have hp0:=P0.out;have hs0:=S0.out;try clear hb
 go_wp2_with fail
 try clear hp0 hs0
 rw[Ow]
 go_wp2_with fail
 refine(b9 ⟨b1,o1,none⟩ ⟨w.heap.size,0,none⟩ (.pointer (some ⟨b0,o0,none⟩)) w2 G1.out hc0 (fz0) rfl).mono ?_;rintro e w3 ⟨rfl,hc1,fz1,hb⟩;have P1:=N9 ((hb.cell (p:=⟨b1,o1+1,none⟩) l1).trans P1.out);have S1:=N9 ((hb.cell (p:=⟨b1,o1+2,none⟩) m1).trans S1.out);have P2:=N9 ((hb.cell (p:=⟨b2,o2+1,none⟩) l2).trans P2.out);have S2:=N9 ((hb.cell (p:=⟨b2,o2+2,none⟩) m2).trans S2.out);have G2:=N9 ((hb.cell (p:=⟨9,0,none⟩) hgb).trans G1.out);have B2:=N9 (B1.out.trans hb);have hp1:=P1.out;have hs1:=S1.out;try clear hb
 go_wp2_with fail
 try clear hp1 hs1
 rw[Ow]
 go_wp2_with fail
 refine(b9 ⟨b2,o2,none⟩ ⟨w.heap.size,0,none⟩ (.pointer (some ⟨b1,o1,none⟩)) w3 G2.out hc1 (fz1) rfl).mono ?_;rintro e w4 ⟨rfl,hc2,fz2,hb⟩;have P2:=N9 ((hb.cell (p:=⟨b2,o2+1,none⟩) l2).trans P2.out);have S2:=N9 ((hb.cell (p:=⟨b2,o2+2,none⟩) m2).trans S2.out);have G3:=N9 ((hb.cell (p:=⟨9,0,none⟩) hgb).trans G2.out);have B3:=N9 (B2.out.trans hb);have hp2:=P2.out;have hs2:=S2.out;try clear hb
 go_wp2_with fail
 try clear hp2 hs2
 rw[Ow]
 go_wp2_with fail
 refine(zR a ⟨w.heap.size,0,none⟩ w4 G3.out).mono ?_;rintro e w9 ⟨rfl,rfl⟩
 go_wp2_with fail
 go_ret
 have hsz:=B3.out.size;exact⟨rfl,((B3.out.alloc hsz _).alloc (by simp;omega) _).alloc (by simp;omega) _⟩
def iW{S:Nat->Nat->Prop}{w:World}{v:Value}{p:Int}{e:AV}(h:RV S w v (dt p e)): ∃b o u,v= .iface 134 (.pointer (some ⟨b,o,none⟩))/\w.cell? ⟨b,o+1,none⟩=some (.int .i64 p)/\w.cell? ⟨b,o+2,none⟩=some u/\RV S w u e:=by
 have h:RV S w v (.iface 134 (.ref 3 [[.any,I p,e]] 0 0)):=h;cases h with
 | iface t v c h=>
   cases h with
   | ref m k i j b o u l f a=>
     have d:=(f 0 1 (I p) rfl).2.1;rw[(a 0 1 (I p) rfl).lit_inv]at d;have g:=(f 0 2 e rfl).2.1;exact⟨b,o+(0*3+0),u 0 2,rfl,by simpa using d,by simpa using g,a 0 2 e rfl⟩
def Aq(env:b8)(b:Nat->Addr)(a: ∀w,env.inv w->sh w b)(k:Nat)(c:1<=k/\k<=9)(ps:List Int):b7 prog env 30 [gc ps (bx (b k))] (I k):=
 pZ call30 fun w S h d f g=>by
  match h,f with
  | [v],_=>
    have a:sh w b:=a w d.inv;refine(Jg a k c ps.length v (C2 (Cv a k c) ps v (g 0 v _ rfl rfl))).mono ?_;rintro e i ⟨rfl,rfl⟩;exact⟨rfl,O1 _ _⟩
def Gx(env:b8)(n:env 9=some (.lit z6))(p:Int)(x: -1<=p)(a:Addr):b7 prog env 40 [dt (-1) (dt p (bx a))] (I p):=by
 refine pZ call40 fun w S t m o q=> ?_
 match t,o with
 | [v],_=>
   obtain⟨u,b,_,_,l⟩:=m.env _ _ n;rw[l.lit_inv]at b;obtain⟨c,e,y,rfl,g,j,r⟩:=iW (q 0 v _ rfl rfl);obtain⟨d,f,z,rfl,i,k,s⟩:=iW r;rw[s.lit_inv]at k;by_cases h:0<=p
   ·exact Iu c e d f w (-1) (by omega) g j p h i b
   obtain rfl:p= -1:=by omega
   exact Gu c e d f w (-1) (by omega) g j (-1) (by omega) i a k b
def Gw(env:b8)(s:env 9=some (.lit z6))(p:Int)(C: -1<=p)(a:Addr):b7 prog env 40 [dt (-1) (dt (-1) (dt p (bx a)))] (I p):=by
 refine pZ call40 fun w S B r t x=> ?_
 match B,t with
 | [v],_=>
   obtain⟨u,b,_,_,q⟩:=r.env _ _ s;rw[q.lit_inv]at b;obtain⟨c,f,D,rfl,j,m,y⟩:=iW (x 0 v _ rfl rfl);obtain⟨d,g,E,rfl,k,n,z⟩:=iW y;obtain⟨e,i,G,rfl,l,o,A⟩:=iW z;rw[A.lit_inv]at o;by_cases h:0<=p
   ·exact It c f d g e i w (-1) (by omega) j m (-1) (by omega) k n p h l b
   obtain rfl:p= -1:=by omega
   exact Gt c f d g e i w (-1) (by omega) j m (-1) (by omega) k n (-1) (by omega) l a o b
def ae(b:Nat->Addr):b8:=⟨fun g=>if g=9 then some (.lit z6) else vU b g,fun w=>(sh w b/\wg w)/\w.cell? ⟨9,0,none⟩=some z6,fun _ _ h a=>⟨⟨h.1.1.below a,h.1.2.below a⟩,dj h.2 a⟩⟩
def wn{d:Nat->Addr}{w:World}(h:sh w d)(j:wg w)(f:w.cell? ⟨9,0,none⟩=some z6):tS (ae d) (fun b _=>b<w.heap.size) w:=by
 have i:=Hr (mo:=⟨fun _=>True,fun _ _ _ _=>trivial⟩) h trivial;refine⟨⟨⟨h,j⟩,f⟩,fun b o k=>k,fun g c a=> ?_⟩;have a:(if g=9 then some (.lit z6) else vU d g)=some c:=a;split at a
 ·rename_i e;subst e;cases a;exact⟨_,f,rfl,ag f, .lit _⟩
 exact i.env g c a
def wo(a:Nat->Addr):fU (ae a) (a 1) (a 8):=⟨rfl,rfl⟩
def sk(a:Nat->Addr): ∀W,(ae a).inv W->wg W:=fun _ h=>h.1.2
def nq(a:Nat->Addr): ∀W,(ae a).inv W->sh W a:=fun _ h=>h.1.1
end
section
end
section
open Go.RowKit
def m6(c:aq)(t:tR)(mem:List ds):List Nat:=if t.target<0 then [] else IZ c t.src t.target mem
def EY(env:b8)(i j:Addr)(o:fU env i j)(c:aq)(h:ch c)(d:g7 c)(mem:List ds)(l:mem.length<=1000000)(n: ∀m∈mem,cU m.2.length 8)(k:Nat)(t:tR)(f:c.trans[k]? =some t)(b:bc c mem=true):b7 prog env 239 [aG c,I k,fk mem] (.tuple [.seq 1 ((m6 c t mem).map aB),h9]):=by
 have f0:=qP env i j o c h d mem l n;unfold KT at f0;rw[b,Mw rfl]at f0;have f1:=o6 env c d k t f;unfold m6;unfold ax at f1;by_cases a:t.target<0
 ·rw[Mw a];unfold aG at f0 f1 |-;refine qw func239 call239 ntmps239 results239 ?_;have F:=a;repeat refine wc f0 f1 ?_
  (refine aM ?_;refine⟨_,(by show (aj _ _ _).run _=some _;simp only[go_sem,F];rfl),?_⟩)
  exact .of (.tuple (.cons (.nil 1) (.cons (.refl _) .nil))) (fun _ _ _ h=>by cases h) (fun _ _ _ h=>by cases h)
 rw[Mt a]
 have g:fb c t.target=true:=by
  rcases (h.src f).2 with e|e
  ·omega
  exact e
 have f2:=Cg env c h d t (h.src f).1 g mem l (fun m p=>by have:=(so h b m p).2;omega) b;unfold ax at f2;unfold aG at f0 f1 f2 |-;refine qf func239 call239 ntmps239 results239 ?_;have F:=a;exact An f0 f1 f2
def yJ(env:b8)(c:aq)(h:ch c)(mem:List ds)(g:mem.length<=1000000)(k:Nat)(t:tR)(d:c.trans[k]? =some t)(f:bc c mem=true):b7 prog env 119 [.agg (aA c), .agg (ax t),fk mem] (.own 3 1 ((m6 c t mem).map aB)):=by
 unfold m6;by_cases a:t.target<0
 ·rw[Mw a];refine qw func119 call119 ntmps119 results119 ?_;have F:=gb Uv Uy a;repeat refine st ?_
  (refine aM ?_;refine⟨_,(by show (aj _ _ _).run _=some _;simp only[go_sem,F];rfl),?_⟩)
  exact gA.own_nil _ _ (by decide)
 rw[Mt a]
 have b:fb c t.target=true:=by
  rcases (h.src d).2 with e|e
  ·omega
  exact e
 exact vZ env c h t (h.src d).1 b mem g f
structure cD where
 act:List Int
 vars:List Int
 mem:List ds
 Z1:List (List UInt8×Int)
 over:Bool
 outs:List Int
 Z7:List (List UInt8×Int)
abbrev tD:=Option (Nat×List Int)
def Ti(c:aq)(d:Int)(r:cD):r5:=⟨r.vars,d,(List.range c.Z9.length).map fun k:Nat=>r.act.contains (k:Int)⟩
def eg(l:List (List UInt8×Int))(s:List UInt8):List (List UInt8×Int):=l.filter fun x=> !(x.1==s)
def tg(x:List UInt8×Int):List (List UInt8×Int)->List (List UInt8×Int)
 |[]=>[x]
 |y::l=>if Op.bytesLess x.1 y.1=true then x::y::l else y::tg x l
def gs(r:cD)(s:List UInt8)(v:Int):cD×tD:=if 16<=r.Z7.length then(r,some (8,[-1])) else({ r with Z7:=r.Z7++[(s,v)] },none)
def BY(now:Int)(r:cD)(s:List UInt8)(v:Int):cD×tD:=
 if v<0\/1099511627776-now<v then(r,some (2,[-1]))
 else if 8<=(eg r.Z1 s).length then({ r with Z1:=eg r.Z1 s },some (8,[-1]))
 else({ r with Z1:=tg (s,now+v) (eg r.Z1 s) },none)
def KD(r:cD)(v:Int):cD×tD:=if 256<=r.outs.length then(r,some (8,[-1])) else({ r with outs:=r.outs++[v] },none)
def Sl(c:aq)(d now:Int)(r:cD)(a:j'):cD×tD:=
 if a.kind=5 then({ r with Z1:=eg r.Z1 a.name },none)
 else match k8 (Ti c d r) a.code with
  |none=>(r,some (2,[-1, -1]))
  | some v=>if a.kind=1 then({ r with vars:=r.vars.set a.n.toNat v },none)
    else if a.kind=2 then gs r a.name v
    else if a.kind=4 then BY now r a.name v
    else KD r v
def l'(c:aq)(d now:Int)(r:cD):List j'->cD×tD
 |[]=>(r,none)
 | a::l=>match Sl c d now r a with
   |(b,none)=>l' c d now b l
   |x=>x
def wj(c:aq)(i:Int):List j':=match at_ c i with
 |some s=>s.out
 |none=>[]
def Tm(c:aq)(i:Int):List j':=match at_ c i with
 |some s=>s.ZW
 |none=>[]
def bY(c:aq)(i:Int):Int:=match at_ c i with
 |some s=>s.kind
 |none=>0
def K2(c:aq)(i:Int):List UInt8:=match at_ c i with
 |some s=>s.name
 |none=>[]
def bT(c:aq)(d now:Int)(r:cD):List Int->cD×tD
 |[]=>(r,none)
 | i::l=>match l' c d now r (wj c i) with
   |(a,none)=>bT c d now { a with act:=a.act.filter fun k=> !(k==i) } l
   |x=>x
def dX(c:aq)(d now:Int)(r:cD):List Nat->cD×tD
 |[]=>(r,none)
 | n::l=>match l' c d now r (dm c n).Z0 with
   |(a,none)=>dX c d now a l
   |x=>x
def ak(c:aq)(d now:Int)(r:cD)(f:List Int):List Int->(cD×tD)×List Int
 |[]=>((r,none),f)
 | i::l=>if r.act.contains i=true then ak c d now r f l
   else match l' c d now { r with act:=bR (r.act++[i]) } (Tm c i) with
    |(a,none)=>ak c d now a (if bY c i=3 then f++[i] else f) l
    |x=>(x,[])
def ja(c:aq)(i:Int):List UInt8:=[100,111,110,101,46]++K2 c i
def cY(c:aq)(r:cD)(o:List Int):List Int->(cD×tD)×List Int
 |[]=>((r,none),o)
 | i::l=>if aP c i<0 then cY c { r with over:=true } o l
   else match gs r (ja c (aP c i)) 0 with
    |(a,none)=>cY c a (if 0<=aP c (aP c i)/\bY c (aP c (aP c i))=2 then o++[aP c (aP c i)] else o) l
    |x=>(x,[])
def oy(c:aq)(act:List Int):Nat->Int->Bool
 |0,_=>false
 | f+1,i=>if bY c i=3 then true
   else if bY c i=1 then(match (g6 c i).find? fun k=>act.contains k with
    |some k=>bY c k==3
    |none=>false)
   else(g6 c i).all fun k=>oy c act f k
def tw(c:aq)(act:List Int)(i:Int):Bool:=act.contains i&&oy c act 40 i
def dV(c:aq)(r:cD):List Int->cD×tD
 |[]=>(r,none)
 | g::l=>if tw c r.act g=true then(match gs r (ja c g) 0 with
    |(a,none)=>dV c a l
    |x=>x)
   else dV c r l
def p'(c:aq)(r:cD)(f:List Int):cD×tD:=match cY c r [] f with
 |((a,none),o)=>dV c a (zL (bt c o))
 |(x,_)=>x
def gv(c:aq)(d now:Int)(r:cD)(l:List Int):cD×tD:=match ak c d now r [] l with
 |((a,none),f)=>p' c a f
 |(x,_)=>x
def dg(c:aq)(act:List Int)(ts:List Nat):List Int:=ts.flatMap fun n=>fj c act (dm c n)
def toR(c:aq)(mem:List ds)(ts:List Nat):List Nat:=ts.flatMap fun n=>m6 c (dm c n) mem
def lP(c:aq)(d now:Int)(r:cD)(ts:List Nat):cD×tD:=
 let a:=bt c (dg c r.act ts)
 let b:=na c r.act (zL a) r.mem
 match bT c d now { r with mem:=b } (zL a).reverse with
 |(e,none)=>match dX c d now e ts with
   |(f,none)=>gv c d now f (zL (bt c (zL (toR c b ts))))
   |x=>x
 |x=>x
def dN(c:aq)(now:Int):cD×tD:=gv c 0 now ⟨[],c.vars.map (·.start),[],[],false,[],[]⟩ (zL (k6 c (-1)))
end
end Go.Proofs.YtfhkmjbjafeckaaGreatDoor
