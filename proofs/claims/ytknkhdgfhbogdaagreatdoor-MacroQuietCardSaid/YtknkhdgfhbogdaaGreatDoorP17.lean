/- Errors in errors; checks of any states. -/
import Derived.Test.YtknkhdgfhbogdaaGreatDoorP16
set_option maxRecDepth 100000
set_option maxHeartbeats 8000000
set_option linter.unusedSimpArgs false
set_option linter.defProp false
namespace Go.Proofs.YtknkhdgfhbogdaaGreatDoor
open Go.Proofs.Tryz
open Go.RowKit
section
def sx(env:b6):b7 prog env 47 [ct] (.own 3 1 []):=(dQ env [] (by simp)).args (u3.cons (DS.nil 1) u3.nil)
def bP(env:b6)(c:aq):b7 prog env 142 [aH c] (aQ c):=by
 refine qf func142 call142 ntmps142 results142 ?_;have F:=fI Tj Te Tl;exact dT
def au(env:b6)(c:aq)(a:g6 c):b7 prog env 74 [aH c] (.agg (aA c)):=by
 have f0:=pD env c a;unfold aA at f0;refine qf func74 call74 ntmps74 results74 ?_;have F:=ai Tj Te;repeat refine ef f0 ?_
 (refine aM ?_;show (ag _ _ _).run _=some _;simp only[go_sem,F])
 rfl
def xB(env:b6)(c:aq)(a:c.trans.length<=4096)(s:List UInt8):b7 prog env 32 [aH c,Sg s] (I (Qz c s)):=wW env c (by omega) _ _ s
def J3(c:aq)(i e:Int):List Nat:=if e<0 then [] else RC c i e
def Ef(c:aq)(i e:Int):(RC c i e).length<=c.trans.length:=Dq ..
def BS{c:aq}{i e:Int}{q:Nat}(a:qv (i,e) (cy c c.trans.length) 0=some q):(fB c)[q]? =some [.agg [I i,I e], .seq 1 ((RC c i e).map aB)]:=by
 have:=(pP a).2;unfold fB;rw[Lo,OJ]at*;rw[this];rfl
def Ey(env:b6)(c:aq)(f:c.trans.length<=4096)(i e:Int):b7 prog env 199 [aH c,I i,I e] (.own 3 1 ((J3 c i e).map aB)):=by
 have g:=Ef c i e;have a:=EB c i e;unfold J3;by_cases h:e<0
 ·rw[Lj h];refine qw func199 call199 ntmps199 results199 ?_;have F:=fI Tj Te h;repeat refine st ?_
  (refine aM ?_;refine⟨_,(by show (ag _ _ _).run _=some _;simp only[go_sem,F];rfl),?_⟩)
  exact fX.own_nil _ _ (by decide)
 ·rw[Lf h];cases b:qv (i,e) (cy c c.trans.length) 0 with
  | none=>
    rw[b]at a;have f0:=sx env;rw[show RC c i e=[] from tc (lT b)];refine qf func199 call199 ntmps199 results199 ?_;have F:=hH Tj Te h a;exact g9 f0
  | some q=>
    rw[b]at a;have d:=BS b;have f0:=dQ env ((RC c i e).map aB) (by rw[ME];omega);refine qf func199 call199 ntmps199 results199 ?_;have F:=g7 Tj Te h a d;exact g9 f0
def yo(env:b6)(c:aq)(e:c.trans.length<=4096)(i:Int):b7 prog env 198 [aH c,I i] (.own 3 1 ((RC c i (-1)).map aB)):=by
 have f:=Ef c i (-1);have a:=EB c i (-1);cases b:qv (i, -1) (cy c c.trans.length) 0 with
 | none=>
   rw[b]at a;have f0:=sx env;rw[show RC c i (-1)=[] from tc (lT b)];refine qf func198 call198 ntmps198 results198 ?_;have F:=fI Tj Te a;exact g9 f0
 | some q=>
   rw[b]at a;have d:=BS b;have f0:=dQ env ((RC c i (-1)).map aB) (by rw[ME];omega);refine qf func198 call198 ntmps198 results198 ?_;have F:=hH Tj Te a d;exact g9 f0
def lG(env:b6)(c:aq)(i:Int):b7 prog env 122 [aH c,I i] (B (ed c i)):=by
 unfold ed;by_cases a:0<=i
 ·by_cases b:i< (c.Z9.length:Int)
  ·refine qf func122 call122 ntmps122 results122 ?_;have F:=hH Tj Te a b;exact dT
  refine qf func122 call122 ntmps122 results122 ?_;have F:=hH Tj Te a b;exact dT
 refine qf func122 call122 ntmps122 results122 ?_;have F:=fI Tj Te a;exact dT
def kv(c:aq)(i:Int):List Nat:=if ed c (if i= -1 then c.initial else i)=true then Rq c (if i= -1 then c.initial else i).toNat else []
def xC(env:b6)(c:aq)(h:b8 c)(i:Int):b7 prog env 76 [aH c,I i] (.own 3 1 ((kv c i).map aB)):=by
 have n:=h.Z6;unfold kv;by_cases e:i= -1
 ·subst e;simp only[Mb];obtain⟨s,l,a,_⟩:=h.topS;have f:=(Ld.1 l).1;have f0:=lG env c c.initial;have d:ed c c.initial=true:=by rw[a];exact aV.2 f
  rw[d]at f0;rw[d,Lj rfl];have f1:=dQ env ((Rq c (Fr c)).map aB) (by rw[ME];have:=DZ h (Fr c);omega);have j:(qO c c.Z9.length)[Fr c]? =some [.seq 1 ((Rq c (Fr c)).map aB)]:=by unfold qO;rw[Lo,NN f];rfl
  have b:(qO c c.Z9.length).length=c.Z9.length:=by simp[qO]
  have g:((Fr c:Nat):Int)< (c.Z9.length:Int):=by omega
  rw[a]at f0 |-;rw[Mz];unfold aH ca at f0 |-;rw[a]at f0 |-;refine qf func76 call76 ntmps76 results76 ?_;have F:=fI j b g;exact m5 f0 f1
 ·rw[Lf e];have m:(i == -1)=false:=by simpa using e
  have f0:=lG env c i;cases d:ed c i with
  | false=>
    rw[d]at f0;rw[Lf (by simp)];unfold aH ca at f0 |-;refine qw func76 call76 ntmps76 results76 ?_;have F:=m;repeat refine ef f0 ?_
    (refine aM ?_;refine⟨_,(by show (ag _ _ _).run _=some _;simp only[go_sem,F];rfl),?_⟩)
    exact fX.own_nil _ _ (by decide)
  | true=>
    obtain⟨k,s,rfl,l,o⟩:=cO d;have f:=(Ld.1 l).1;rw[d]at f0;rw[Lj rfl,Mz];have f1:=dQ env ((Rq c k).map aB) (by rw[ME];have:=DZ h k;omega);have j:(qO c c.Z9.length)[k]? =some [.seq 1 ((Rq c k).map aB)]:=by unfold qO;rw[Lo,NN f];rfl
    have b:(qO c c.Z9.length).length=c.Z9.length:=by simp[qO]
    have g:((k:Nat):Int)< (c.Z9.length:Int):=by omega
    unfold aH ca at f0 |-;refine qf func76 call76 ntmps76 results76 ?_;have F:=hH j b g m;exact m5 f0 f1
def bc(env:b6)(c:aq)(h:b8 c)(i:Int):b7 prog env 138 [aH c,I i] (.own 3 1 ((if i= -1\/ed c i=true then av c i true else []).map aB)):=by
 have d:=h.Z6;have f0:=lG env c i;have f1:=gk env c i (by omega);unfold aA at f1;unfold aH ca at f0 |-;by_cases e:i= -1
 ·subst e;have a:ed c (-1)=false:=by unfold ed;simp
  rw[a]at f0;rw[Lj (.inl rfl)];refine qf func138 call138 ntmps138 results138 ?_;repeat refine zy f0 f1 ?_
  exact p'
 ·have b:(i != -1)=true:=by simpa using e
  cases a:ed c i with
  | false=>
    rw[a]at f0;rw[Lf (by simp[e])];refine qw func138 call138 ntmps138 results138 ?_;have F:=b;repeat refine vb f0 f1 ?_
    (refine aM ?_;refine⟨_,(by show (ag _ _ _).run _=some _;simp only[go_sem,F];rfl),?_⟩)
    exact fX.own_nil _ _ (by decide)
  | true=>
    rw[a]at f0;rw[Lj (.inr rfl)];refine qf func138 call138 ntmps138 results138 ?_;have F:=b;exact m5 f0 f1
def Jm(c:aq)(i:Int)(k:Nat):Bool:=match c.Z9[k]? with
 |some s=>ed c i&&((s.parent==i)&&aU s)
 |none=>false
def va(c:aq)(i:Int):List Nat:=(List.range c.Z9.length).filter (Jm c i)
def Hn{c:aq}(i:Int)(h:ed c i=true):va c i=(av c i false).filter fun k:Nat=> !DH (av c i true) (k:Int):=by
 unfold va av bg;rw[List.filter_filter];apply NR;intro k a;have a:=MK.1 a;obtain⟨s,b⟩:=gE a;have d:dI c i false k=(s.parent==i):=by unfold dI;rw[b];simp
 have f:DH ((List.range c.Z9.length).filter (dI c i true)) (k:Int)=((s.parent==i)&& !aU s):=by
  rw[MP,og];constructor
  ·rintro⟨j,g,e⟩;have:j=k:=by omega
   subst this;have:=(Lq.1 g).2;unfold dI at this;rw[b]at this;simpa using this
  intro e;refine⟨k,Lq.2 ⟨MK.2 a,?_⟩,rfl⟩;unfold dI;rw[b];simpa using e
 unfold Jm;rw[d,f,b];simp only[h,M5];cases (s.parent==i)<;>cases aU s<;>rfl
def oF(K R:List Nat)(j:Nat):List Nat:=(K.take j).filter fun k:Nat=> !DH R (k:Int)
def CV{K R:List Nat}{j k:Nat}(h:K[j]? =some k):oF K R (j+1)=if DH R (k:Int) then oF K R j else oF K R j++[k]:=by
 unfold oF;rw[MM,h,MR];cases a:DH R (k:Int)<;>simp[a]
def Ft(K R:List Nat)(j:Nat):(oF K R j).length<=K.length:=by
 unfold oF;exact Ly (MF ..) (by rw[Lw];omega)
def B6(env:b6)(c:aq)(h:b8 c)(i:Int):b7 prog env 261 [aH c,I i] (.own 3 1 ((va c i).map aB)):=by
 have q:=h.Z6;have f0:=lG env c i;cases l:ed c i with
 | false=>
   rw[l]at f0
   have w:va c i=[]:=by
    unfold va;rw[Nr];intro k _;unfold Jm;cases c.Z9[k]? with
    |none=>simp
    |some s=>simp[l]
   rw[w];unfold aH ca at f0 |-;refine qw func261 call261 ntmps261 results261 ?_;repeat refine jL f0 ?_
   (refine aM ?_;refine⟨_,(by show (ag _ _ _).run _=some _;simp only[go_sem];rfl),?_⟩)
   exact fX.own_nil _ _ (by decide)
 | true=>
   rw[l]at f0;rw[Hn i l];have f1:=gk env c i (by omega);have f2:=pC env c i (by omega);unfold aA at f1 f2;have t:=bC h.toRight i false;have u:=bC h.toRight i true;generalize av c i true=R at*;generalize av c i false=K at*;unfold aH ca at f0 |-;refine qf func261 call261 ntmps261 results261 ?_;repeat refine HF f0 f1 f2 ?_
   refine am 6 6 3 1 ?_;refine PA K.length (by omega) (fun j o=>[(5, .row 18 (o 18)),(6, .row 6 (o 6)),(24, .row 24 (o 24)),(25,I K.length),(26,I j)]) (fun j _=>[(6,⟨1,(oF K R j).map aB,3,true⟩),(18,⟨1,R.map aB,3,true⟩),(24,⟨1,K.map aB,3,true⟩)]) (fun j _ a=>a 6=false) rfl ?_ ?_
   ·rintro j x a b m r d;obtain⟨k,n⟩:=gE b;have f3:=jl env R k (by omega);have v:=Ft K R j;have p:cI ((oF K R j).length+1) 8:=aC (by omega) (by omega);have g:=CV (R:=R) n;cases f:DH R k with
    | true=>
      rw[f]at f3;rw[f,Lj rfl]at g;have F:=ip SU m r n p d;repeat refine ef f3 ?_
      refine⟨j+1,⟨b,by simp only[go_sem,d]⟩,?_,?_,by omega⟩
      ·exact qe
      have F:=fI SU g @Ln.{0,0};exact qe
    | false=>
      rw[f]at f3;rw[f,Lf MW]at g;have F:=ip SU m r n p d;repeat refine ef f3 ?_
      refine⟨j+1,⟨b,by simp only[go_sem,d]⟩,?_,?_,by omega⟩
      ·exact qe
      have F:=fI SU g @Ln.{0,0};exact qe
   rintro x a m d;have e:oF K R K.length=K.filter fun k:Nat=> !DH R (k:Int):=by unfold oF;rw[MC]
   have F:=fI m e d;exact dT
end
section
def DS.seq{sz:Nat}{a es:List (List AV)}(C:a.length=es.length)(s: ∀(i:Nat)(r e:List AV),a[i]? =some r->es[i]? =some e->u3 r e):DS (.seq sz a) (.seq sz es):=fun S w v h=>by
 have cell: ∀ {i j:Nat}{c:AV},bs es i j=some c-> ∃k,bs a i j=some k/\DS k c:=fun {i j c} f=>by
  unfold bs at f |-;cases g:es[i]? with
  |none=>rw[g]at f;cases f
  | some e=>
    rw[g]at f;have x:=(Ld.1 g).1;have d:a[i]? =some a[i]:=Lc (by omega);obtain⟨m,q⟩:=s i _ e d g;have B:=(Ld.1 (show e[j]? =some c from f)).1;rw[d];exact⟨a[i][j],Lc (by omega),q j _ c (Lc (by omega)) f⟩
 cases h with
 | seq A n p sz a b o u D l t z f y=>
   refine .seq A n p sz es b o u (by omega) l t (fun i e g=> ?_) (fun i j c h=> ?_) fun i j c h=> ?_
   ·have x:=(Ld.1 g).1;have d:a[i]? =some a[i]:=Lc (by omega);rw[<-(s i _ e d g).1];exact z i _ d
   ·obtain⟨k,m,_⟩:=cell h;exact f i j k m
   obtain⟨k,m,q⟩:=cell h;exact q _ _ _ (y i j k m)
def u3.one{a c:AV}(h:DS a c):u3 [a] [c]:= .cons h .nil
def Qg(a es:List (List AV)):Prop:=a.length=es.length/\ ∀(i:Nat)(b e:List AV),a[i]? =some b->es[i]? =some e->u3 b e
def Qg.nil:Qg [] []:=⟨rfl,fun i a c h _=>by simp at h⟩
def Qg.cons{g e:List AV}{c es:List (List AV)}(h:u3 g e)(j:Qg c es):Qg (g::c) (e::es):=⟨by simp[j.1],fun i a b d f=>by
 cases i with
 | zero=>
   simp only[M9,Le]at d f;subst d f;exact h
 |succ i=>exact j.2 i a b (by simpa using d) (by simpa using f)⟩
def DS.seqs{sz:Nat}{a es:List (List AV)}(h:Qg a es):DS (.seq sz a) (.seq sz es):= .seq h.1 h.2
end
section
def sH(c:aq):Bool:=decide ((c.Z9.length:Int)<=40)&&decide ((c.trans.length:Int)<=70)&&decide ((c.vars.length:Int)<=10)
def mX(env:b6)(c:aq):b7 prog env 12 [.agg (aA c)] (B ((nv c).1==0)):=by
 have f0:=CG env c;unfold RZ at f0;refine qf func12 call12 ntmps12 results12 ?_;repeat refine jL f0 ?_
 exact p'
def lU(c:aq):Bool:=sH c&&((nv c).1==0)
def Ks{c:aq}(h:(nv c).1=0):nv c=(0, -1):=by
 unfold nv at h |-;split at h
 ·simp at h
 rename_i a;rw[Lf a];split at h
 ·simp at h
 rename_i b;rw[Lf b];split at h
 ·simp at h
 rename_i e;try simp only at h |-
 split at h
 ·simp at h
 rename_i f;try simp only at h |-
 split at h
 ·simp at h
 rename_i d;rw[Lf d];split at h
 ·simp at h
 rfl
def GU{c:aq}(h:lU c=true):b8 c:=by
 unfold lU at h;rw[Li,Mh]at h;exact Qq h.2
end
section
def jA(c:aq)(i:Int)(s:List UInt8)(k:Nat):Bool:=match c.trans[k]? with|some t=>decide (t.src=i/\t.Z8=s)|none=>false
def g5(c:aq)(i:Int)(s:List UInt8)(j:Nat):List Nat:=(List.range j).filter (jA c i s)
def jg(p:Nat->Bool)(j:Nat):(List.range (j+1)).filter p=if p j then(List.range j).filter p++[j] else(List.range j).filter p:=by
 rw[Nn,MR];cases a:p j<;>simp[a]
def fo(p:Nat->Bool)(j:Nat):((List.range j).filter p).length<=j:=Ly (MF ..) (by simp)
def Jb(env:b6)(c:aq)(u:c.trans.length<=4000)(i:Int)(s:List UInt8):b7 prog env 181 [.agg (aA c),I i,Sg s] (.own 3 1 ((g5 c i s c.trans.length).map aB)):=by
 refine qf func181 call181 ntmps181 results181 ?_;have F:=aA.eq_1;repeat refine st ?_
 have F:=aA.eq_1;refine lq c.trans.length (by omega) (fun j p=>[(1,I i),(2,Sg s),(3, .loc 3 (p 3) 0 0),(7, .row 9 (p 9)),(8,I j)]) (fun j _=>[(3,⟨5,[aA c],26,false⟩),(9,⟨1,(g5 c i s j).map aB,3,true⟩)]) (fun j _ d=>d 9=false) rfl ?_ ?_
 ·rintro j r d a g n b;obtain⟨t,l⟩:=gE a;have e:g5 c i s (j+1)=if jA c i s j then g5 c i s j++[j] else g5 c i s j:=jg (jA c i s) j
  have v:(g5 c i s j).length<=j:=fo (jA c i s) j;have o:cI ((g5 c i s j).length+1) 8:=aC (by omega) (by omega);have q:jA c i s j=decide (t.src=i/\t.Z8=s):=by unfold jA;rw[l]
  rw[q]at e;by_cases h:t.src=i
  ·by_cases k:t.Z8=s
   ·rw[Lj (by simp[h,k])]at e;have f:(t.src==i)=true:=by simpa using h
    have m:(t.Z8==s)=true:=by simpa using k
    have F:=pf SR SV g n l f m o b;repeat refine st ?_
    refine⟨j+1,⟨a,by simp only[go_sem,b]⟩,?_,?_,by omega⟩
    ·exact qe
    have F:=hH SR SU e @Ln.{0,0};exact qe
   rw[Lf (by simp[k])]at e;have f:(t.src==i)=true:=by simpa using h
   have m:(t.Z8==s)=false:=by simpa using k
   have F:=pf SR SV g n l f m o b;repeat refine st ?_
   refine⟨j+1,⟨a,by simp only[go_sem,b]⟩,?_,?_,by omega⟩
   ·exact qe
   have F:=hH SR SU e @Ln.{0,0};exact qe
  rw[Lf (by simp[h])]at e;have f:(t.src==i)=false:=by simpa using h
  have F:=ns SR SV g n l f o b;repeat refine st ?_
  refine⟨j+1,⟨a,by simp only[go_sem,b]⟩,?_,?_,by omega⟩
  ·exact qe
  have F:=hH SR SU e @Ln.{0,0};exact qe
 rintro r d g b;have F:=fI SR g b;exact dT
def Bv(c:aq)(i:Int):g5 c i [] c.trans.length=RC c i (-1):=by
 have:=JP (c:=c) i [] (.inl rfl);rw[yG]at this;rw[this];rfl
def Bu(c:aq)(i:Int){s:List UInt8}(d:s≠[]):g5 c i s c.trans.length=J3 c i (Qz c s):=by
 by_cases h:s∈Fm c
 ·obtain⟨k,e,_⟩:=uu h;have:=JP (c:=c) i s (.inr h);unfold J3;rw[Lf (by omega),this];rfl
 ·unfold J3;rw[E4 h,Lj (by omega)];unfold g5;rw[Nr];intro k f a;unfold jA at a;cases b:c.trans[k]? with
  |none=>rw[b]at a;cases a
  | some t=>
    rw[b]at a;simp only[Lt]at a;exact h (yb.2 ⟨d,t,Lh b,a.2⟩)
end
section
def jS(env:b6)(c:aq)(D:c.Z9.length<=4000)(act:List Int)(E:act.length<=1000000):b7 prog env 134 [aH c, .seq 1 (act.map aa)] (.own 4 1 (kb c.Z9.length act)):=by
 have f0:=bP env c;have f1:=AA env c;have v:=GX c.Z9.length;have w: ¬(16777216:Int)< (c.Z9.length:Int):=by omega
 have y: ¬(281474976710656:Int)<1*(c.Z9.length:Int):=by omega
 have z: ¬(c.Z9.length:Int)<0:=by omega
 have A: ¬(281474976710656:Int)< (c.Z9.length:Int):=by omega
 unfold aQ at f0 f1;unfold aH at f0 |-;refine qf func134 call134 ntmps134 results134 ?_;have F:=hH w y z A;repeat refine vb f0 f1 ?_
 have F:=v;refine lq act.length (by omega) (fun j B=>[(5, .row 11 (B 11)),(12, .seq 1 (act.map aa)),(13,I act.length),(14,I j)]) (fun j _=>[(11,⟨1,kb c.Z9.length (act.take j),4,true⟩)]) (fun j _ e=>e 11=false) rfl ?_ ?_
 ·rintro j C e a g r b;obtain⟨x,h⟩:=gE a;have p:act.take (j+1)=act.take j++[x]:=by rw[MM,h];rfl
  have f:=eW c.Z9.length (act.take j);by_cases t:0<=x
  ·obtain⟨k,rfl⟩:=fO t;by_cases l:k<c.Z9.length
   ·have s:=h9 l;have d:=IG (act:=act.take j) l;have o:=kH (act:=act.take j) l;rw[<-p]at d;have F:=ns h g r s o d f b;repeat refine st ?_
    exact qn (j+1) ⟨a,by simp only[go_sem,b]⟩
   have s: ¬(k:Int)< (c.Z9.length:Int):=by omega
   have d:=Ap (n:=c.Z9.length) (act:=act.take j) (i:=(k:Int)) (fun m u=>by omega);rw[<-p]at d;have F:=ip h g r s f b;repeat refine st ?_
   refine⟨j+1,⟨a,by simp only[go_sem,b]⟩,?_,?_,by omega⟩
   ·exact qe
   have F:=d;exact qe
  have d:=Ap (n:=c.Z9.length) (act:=act.take j) (i:=x) (fun m u=>by omega);rw[<-p]at d;have F:=ip h g r t f b;repeat refine st ?_
  refine⟨j+1,⟨a,by simp only[go_sem,b]⟩,?_,?_,by omega⟩
  ·exact qe
  have F:=d;exact qe
 rintro C e g b;have q:act.take act.length=act:=MC;have F:=fI g q b;exact dT
def tv(env:b6)(n:Nat)(act:List Int)(ks:List Nat)(_hn:n<=4000)(u:ks.length<=4000)(q: ∀k∈ks,k<n):b7 prog env 137 [.seq 1 (kb n act), .seq 1 (ks.map aB)] (I (bx act ks:Nat)):=by
 have e:=eW n act;have t:bx act []=0:=rfl;refine qf func137 call137 ntmps137 results137 ?_;repeat refine m8 ?_
 have F:=t;refine lq ks.length (by omega) (fun j _=>[(0, .seq 1 (kb n act)),(5,I (bx act (ks.take j):Nat)),(8, .seq 1 (ks.map aB)),(9,I ks.length),(10,I j)]) (fun _ _=>[]) (fun _ _ _=>True) trivial ?_ ?_
 ·rintro j s h d g o _;obtain⟨k,b⟩:=gE d;have f:=q k (Lh b);have p:=h9 f;have a:=kH (act:=act) f;have c:=xr (act:=act) b;have i:=xt act (ks.take j);rw[Lw]at i;have r:=aD (show bx act (ks.take j)<ks.length by omega) (by omega);cases m:act.contains (k:Int) with
  | true=>
    rw[m]at a c;rw[Lj rfl]at c;have F:=ns SU b g o p r a e;repeat refine st ?_
    refine⟨j+1,⟨d,trivial⟩,?_,?_,by omega⟩
    ·have F:=c;exact qe
    ·(simp only[go_sem,c])
  | false=>
    rw[m]at a c;rw[Lf MW,OA]at c;have F:=lP SU b g o p a e;repeat refine st ?_
    refine⟨j+1,⟨d,trivial⟩,?_,?_,by omega⟩
    ·have F:=c;exact qe
    ·(simp only[go_sem,c])
 rintro s h g _;have l:ks.take ks.length=ks:=MC;have F:=ai g l;exact dT
def F9{c:aq}(h:Right c){k:Nat}{s:na}(a:c.Z9[k]? =some s)(act:List Int):(s.parent<0/\decide (s.parent<0)=true)\/(¬s.parent<0/\decide (s.parent<0)=false/\0<=s.parent/\s.parent< (c.Z9.length:Int)/\(kb c.Z9.length act)[s.parent.toNat]? =some [B (act.contains s.parent)]):=by
 have d:=(Ld.1 a).1;have b:=(h.par k s a).2;by_cases e:s.parent<0
 ·exact .inl ⟨e,M2 e⟩
 refine .inr ⟨e,MU e,by omega,by omega,?_⟩;rw[kH (by omega)];rw[show ((s.parent.toNat:Nat):Int)=s.parent by omega]
def II(env:b6)(c:aq)(h:b8 c)(act:List Int)(k:Nat)(s:na)(i:c.Z9[k]? =some s):b7 prog env 135 [.agg (aA c),aH c, .seq 1 (kb c.Z9.length act),I k] (B (qx c act k s)):=by
 have H:=h.Z6;have J:=(Ld.1 i).1;have l:((k:Nat):Int)< (c.Z9.length:Int):=by omega
 have f0:=bc env c h k;rw[Lj (.inr (aV.2 J))]at f0;have M:=bC h.toRight k true;have C: ∀j∈av c k true,j<c.Z9.length:=fun j L=>by have:=bH h.toRight (aY L).1;omega
 have f1:=tv env c.Z9.length act (av c k true) (by omega) (by omega) C;have o:=eW c.Z9.length act;have A:=F9 h.toRight i act;have G:qx c act k s=(!aU s&&(decide (s.parent<0)||act.contains s.parent)&&(if s.kind=1/\av c k true≠[] then bx act (av c k true)==1 else if s.kind=2 then bx act (av c k true)==(av c k true).length else true)):=rfl;rw[G];try clear G
 generalize av c k true=K at*;unfold aH at f0 |-;by_cases D:s.kind=4
 ·have b:(s.kind==4)=true:=by simpa using D
  have x:aU s=true:=by unfold aU;rw[b];rfl
  rw[x];refine qf func135 call135 ntmps135 results135 ?_;have F:=g7 SR SS i l b;exact g9 f0
 have b:(s.kind==4)=false:=by simpa using D
 by_cases E:s.kind=5
 ·have g:(s.kind==5)=true:=by simpa using E
  have x:aU s=true:=by unfold aU;rw[g,Bool.or_true]
  rw[x];refine qf func135 call135 ntmps135 results135 ?_;have F:=ip SR SS i l b g;exact g9 f0
 have g:(s.kind==5)=false:=by simpa using E
 have x:aU s=false:=by unfold aU;rw[b,g];rfl
 rw[x];by_cases y:s.kind=1
 ·have m:(s.kind==1)=true:=by simpa using y
  by_cases p:K=[]
  ·rw[Lf (by simp[p]),Lf (by omega)];have w: ¬(0:Int)< (K.length:Int):=by rw[p];simp
   rcases A with⟨d,f⟩|⟨d,f,q,r,t⟩
   ·refine qf func135 call135 ntmps135 results135 ?_;have F:=la SR SS i l b g m w d f;exact g9 f0
   refine qf func135 call135 ntmps135 results135 ?_;have F:=dk SR SS i l b g m w d f q<|fI r t o;exact g9 f0
  rw[Lj ⟨y,p⟩];have w:(0:Int)< (K.length:Int):=by have:=NG.2 p;omega
  by_cases n:bx act K=1
  ·have a:((bx act K:Nat):Int)=1:=by omega
   rw[n];rcases A with⟨d,f⟩|⟨d,f,q,r,t⟩
   ·refine qf func135 call135 ntmps135 results135 ?_;have F:=pc SR SS i l b g m w a d f;exact m5 f0 f1
   refine qf func135 call135 ntmps135 results135 ?_;have F:=dk SR SS i l b g m w a d f<|hH q r t o;exact m5 f0 f1
  have a:(((bx act K:Nat):Int) != 1)=true:=by simp;omega
  have u:(bx act K==1)=false:=by simpa using n
  rw[u];refine qf func135 call135 ntmps135 results135 ?_;have F:=pf SR SS i l b g m w a;exact m5 f0 f1
 have m:(s.kind==1)=false:=by simpa using y
 rw[Lf (fun e=>y e.1)];by_cases z:s.kind=2
 ·have v:(s.kind==2)=true:=by simpa using z
  rw[Lj z];by_cases n:bx act K=K.length
  ·have a:(((bx act K:Nat):Int) != (K.length:Int))=false:=by simp;omega
   rw[n];rcases A with⟨d,f⟩|⟨d,f,q,r,t⟩
   ·refine qf func135 call135 ntmps135 results135 ?_;have F:=pc SR SS i l b g m v a d f;exact m5 f0 f1
   refine qf func135 call135 ntmps135 results135 ?_;have F:=dk SR SS i l b g m v a d f<|hH q r t o;exact m5 f0 f1
  have a:(((bx act K:Nat):Int) != (K.length:Int))=true:=by simp;omega
  have u:(bx act K==K.length)=false:=by simpa using n
  rw[u];refine qf func135 call135 ntmps135 results135 ?_;have F:=pf SR SS i l b g m v a;exact m5 f0 f1
 have v:(s.kind==2)=false:=by simpa using z
 rw[Lf z];rcases A with⟨d,f⟩|⟨d,f,q,r,t⟩
 ·refine qf func135 call135 ntmps135 results135 ?_;have F:=la SR SS i l b g m v d f;exact g9 f0
 refine qf func135 call135 ntmps135 results135 ?_;have F:=dk SR SS i l b g m v d f q<|fI r t o;exact g9 f0
def Gk(env:b6)(a b:Addr)(d:fq env a b)(p:Int)(e: -1<=p):b7 prog env 136 [I p] (fc p (cf a)):=by
 have c:=iH d.e1;have f0:=yE env [108,101,103,97,108,46,67,104,101,99,107] p a e;refine qf func136 call136 ntmps136 results136 ?_;have F:=c;exact g9 f0
def vA(a:Addr)(c:aq)(act:List Int):AV:=if rx c act=true then h8 else fc (jz c act).2 (cf a)
def BN{a:Addr}{c:aq}{act:List Int}{p:Int}(h:jz c act=(1,p)):vA a c act=fc p (cf a):=by
 unfold vA rx;rw[h];rfl
def KC{a:Addr}{c:aq}{act:List Int}{p:Int}(h:jz c act=(0,p)):vA a c act=h8:=by
 unfold vA rx;rw[h];rfl
def sK{c:aq}{act:List Int}{j:Nat}{x:Int}(a:act[j]? =some x):uh c act j=((j==0||decide (act.getD (j-1) 0<x))&&uk c act x):=by unfold uh;rw[a]
def Ar{c:aq}{act:List Int}{k:Nat}{s:na}(a:c.Z9[k]? =some s):uk c act (k:Int)=qx c act k s:=by
 unfold uk;rw[bL,a];rfl
def oR{c:aq}{act:List Int}{x:Int}(b:ed c x=false):uk c act x=false:=by
 unfold uk at_;unfold ed at b;by_cases a:0<=x
 ·rw[Lj a];rw[M2 a,M5,Me]at b;rw[Lu (by omega)]
 rw[Lf a]
end
section
def Du{act:List Int}{j:Nat}(a:0<j)(b:j<act.length):act[j-1]? =some (act.getD (j-1) 0):=by
 rw[MJ,Lc (show j-1<act.length by omega)];rfl
def bu(l:List Int):bN (l.map sP)=l.map aa:=by
 unfold bN;rw[OE];rfl
end
section
def Gg{act:List Int}{j:Nat}{x v:Int}(c:act[j]? =some x)(a:(act.take j).contains v=false)(b:x≠v):(act.take (j+1)).contains v=false:=by
 rw[MM,c];simp at a |-;exact⟨a,fun q=>b q.symm⟩
def cF(env:b6)(act:List Int)(v:Int)(l:act.length<=1000000):b7 prog env 95 [.seq 1 (act.map aa),I v] (B (act.contains v)):=by
 refine qf func95 call95 ntmps95 results95 ?_;repeat refine m8 ?_
 refine PA act.length (by omega) (fun j _=>[(0, .seq 1 (act.map aa)),(1,I v),(5,I j)]) (fun _ _=>[]) (fun j _ _=>(act.take j).contains v=false) rfl ?_ ?_
 ·rintro j k f b d i a;obtain⟨x,c⟩:=gE b;by_cases e:x=v
  ·have h:act.contains v=true:=by rw[Lk, <-e];exact Lh c
   rw[h];have g:(x==v)=true:=by simpa using e
   have F:=fI c d g;exact dT
  have g:(x==v)=false:=by simpa using e
  have F:=hH c d i g;repeat refine st ?_
  exact qn (j+1) ⟨b,Gg c a e⟩
 rintro k f d a;rw[MC]at a;rw[a];have F:=d;exact dT
def fg(env:b6)(act:List Int)(ks:List Nat)(l:act.length<=1000000)(p:ks.length<=4000):b7 prog env 118 [.seq 1 (act.map aa), .seq 1 (ks.map aB)] (I (bx act ks:Nat)):=by
 have o:bx act []=0:=rfl;refine qf func118 call118 ntmps118 results118 ?_;repeat refine m8 ?_
 have F:=o;refine lq ks.length (by omega) (fun j _=>[(0, .seq 1 (act.map aa)),(1, .seq 1 (ks.map aB)),(5,I (bx act (ks.take j):Nat)),(6,I j)]) (fun _ _=>[]) (fun _ _ _=>True) trivial ?_ ?_
 ·rintro j n e c d i _;obtain⟨k,b⟩:=gE c;have f0:=cF env act k l;have a:=xr (act:=act) b;have f:=xt act (ks.take j);rw[Lw]at f;have m:=aD (show bx act (ks.take j)<ks.length by omega) (by omega);cases h:act.contains (k:Int) with
  | true=>
    rw[h]at f0 a;rw[Lj rfl]at a;have F:=g7 SU b d i m;repeat refine ef f0 ?_
    refine⟨j+1,⟨c,trivial⟩,?_,?_,by omega⟩
    ·have F:=a;exact qe
    ·(simp only[go_sem,a])
  | false=>
    rw[h]at f0 a;rw[Lf MW,OA]at a;have F:=hH SU b d i;repeat refine ef f0 ?_
    refine⟨j+1,⟨c,trivial⟩,?_,?_,by omega⟩
    ·have F:=a;exact qe
    ·(simp only[go_sem,a])
 rintro n e d _;have g:ks.take ks.length=ks:=MC;have F:=ai d g;exact dT
def zQ(env:b6)(c:aq)(h:b8 c)(act:List Int)(p:act.length<=1000000)(k:Nat)(s:na)(e:c.Z9[k]? =some s):b7 prog env 117 [.agg (aA c), .seq 1 (act.map aa),I k] (B (qx c act k s)):=by
 have r:=h.Z6;have w:=(Ld.1 e).1;have g:((k:Nat):Int)< (c.Z9.length:Int):=by omega
 have f0:=be env c k true (by omega);have v:=bC h.toRight k true;have f1:=fg env act (av c k true) p (by omega);have f2:=bo env s;have f3:=cF env act s.parent p;have o:qx c act k s=(!aU s&&(decide (s.parent<0)||act.contains s.parent)&&(if s.kind=1/\av c k true≠[] then bx act (av c k true)==1 else if s.kind=2 then bx act (av c k true)==(av c k true).length else true)):=rfl;rw[o];try clear o
 generalize av c k true=K at*;cases t:aU s with
 | true=>
   rw[t]at f2;refine qf func117 call117 ntmps117 results117 ?_;have F:=hH SR SS e g;exact g9 f2
 | false=>
   rw[t]at f2;by_cases u:s.parent<0
   ·have f: ¬0<=s.parent:=by omega
    rw[M2 u];by_cases b:s.kind=1/\K≠[]
    ·have a:(s.kind==1)=true:=by simpa using b.1
     have l:(0:Int)< (K.length:Int):=by have:=NG.2 b.2;omega
     have m:(((bx act K:Nat):Int)==1)=(bx act K==1):=by rw[MP,Mh,Mh];omega
     rw[Lj b];refine qf func117 call117 ntmps117 results117 ?_;have F:=ns SR SS e g f a l m;exact x5 f0 f1 f2
    rw[Lf b];have m:(((bx act K:Nat):Int)==(K.length:Int))=(bx act K==K.length):=by rw[MP,Mh,Mh];omega
    by_cases d:s.kind=2
    ·have a:(s.kind==1)=false:=by simp[d]
     have i:(s.kind != 2)=false:=by simp[d]
     rw[Lj d];refine qf func117 call117 ntmps117 results117 ?_;have F:=ns SR SS e g f a i m;exact x5 f0 f1 f2
    have i:(s.kind != 2)=true:=by simpa using d
    rw[Lf d];by_cases j:s.kind=1
    ·have a:(s.kind==1)=true:=by simpa using j
     have l: ¬(0:Int)< (K.length:Int):=by
      have:K=[]:=Ns fun q=>b ⟨j,q⟩;rw[this];simp
     refine qf func117 call117 ntmps117 results117 ?_;have F:=ns SR SS e g f a i l;exact x5 f0 f1 f2
    have a:(s.kind==1)=false:=by simpa using j
    refine qf func117 call117 ntmps117 results117 ?_;have F:=lP SR SS e g f a i;exact x5 f0 f1 f2
   ·have f:0<=s.parent:=by omega
    rw[MU u];cases n:act.contains s.parent with
    | false=>
      rw[n]at f3;refine qf func117 call117 ntmps117 results117 ?_;have F:=g7 SR SS e g f;exact RG f0 f1 f2 f3
    | true=>
      rw[n]at f3;by_cases b:s.kind=1/\K≠[]
      ·have a:(s.kind==1)=true:=by simpa using b.1
       have l:(0:Int)< (K.length:Int):=by have:=NG.2 b.2;omega
       have m:(((bx act K:Nat):Int)==1)=(bx act K==1):=by rw[MP,Mh,Mh];omega
       rw[Lj b];refine qf func117 call117 ntmps117 results117 ?_;have F:=ns SR SS e g f a l m;exact RG f0 f1 f2 f3
      rw[Lf b];have m:(((bx act K:Nat):Int)==(K.length:Int))=(bx act K==K.length):=by rw[MP,Mh,Mh];omega
      by_cases d:s.kind=2
      ·have a:(s.kind==1)=false:=by simp[d]
       have i:(s.kind != 2)=false:=by simp[d]
       rw[Lj d];refine qf func117 call117 ntmps117 results117 ?_;have F:=ns SR SS e g f a i m;exact RG f0 f1 f2 f3
      have i:(s.kind != 2)=true:=by simpa using d
      rw[Lf d];by_cases j:s.kind=1
      ·have a:(s.kind==1)=true:=by simpa using j
       have l: ¬(0:Int)< (K.length:Int):=by
        have:K=[]:=Ns fun q=>b ⟨j,q⟩;rw[this];simp
       refine qf func117 call117 ntmps117 results117 ?_;have F:=ns SR SS e g f a i l;exact RG f0 f1 f2 f3
      have a:(s.kind==1)=false:=by simpa using j
      refine qf func117 call117 ntmps117 results117 ?_;have F:=lP SR SS e g f a i;exact RG f0 f1 f2 f3
def nc(l:List Nat)(j:Nat):List Nat:=(List.range j).filter fun k=>DH l (k:Int)
def Bm(env:b6)(c:aq)(q:c.Z9.length<=4000)(l:List Nat)(n:l.length<=1000000):b7 prog env 191 [.agg (aA c), .seq 1 (l.map aB)] (.own 3 1 ((mV c l).map aB)):=by
 show b7 _ _ _ _ (.own _ 1 ((nc l c.Z9.length).map aB));refine qf func191 call191 ntmps191 results191 ?_;have F:=aA.eq_1;repeat refine st ?_
 have F:=aA.eq_1;refine lq c.Z9.length (by omega) (fun j i=>[(1, .seq 1 (l.map aB)),(2, .loc 2 (i 2) 0 0),(5, .row 7 (i 7)),(6,I j)]) (fun j _=>[(2,⟨5,[aA c],26,false⟩),(7,⟨1,(nc l j).map aB,3,true⟩)]) (fun j _ a=>a 7=false) rfl ?_ ?_
 ·rintro j p a e f h b;have f1:=rf env l j n;unfold Q' at f1;have d:nc l (j+1)=if DH l (j:Int) then nc l j++[j] else nc l j:=jg (fun k:Nat=>DH l (k:Int)) j
  have o:(nc l j).length<=j:=fo (fun k:Nat=>DH l (k:Int)) j;have m:cI ((nc l j).length+1) 8:=aC (by omega) (by omega);cases g:DH l (j:Int) with
  | true=>
    rw[g]at f1 d;rw[Lj rfl]at d;have F:=ip SR SU f h m b;repeat refine ef f1 ?_
    refine⟨j+1,⟨e,by simp only[go_sem,b]⟩,?_,?_,by omega⟩
    ·exact qe
    have F:=hH SR SU d @Ln.{0,0};exact qe
  | false=>
    rw[g]at f1 d;rw[Lf MW]at d;have F:=g7 SR SU f h b;repeat refine ef f1 ?_
    refine⟨j+1,⟨e,by simp only[go_sem,b]⟩,?_,?_,by omega⟩
    ·exact qe
    have F:=fI SR SU d;exact qe
 rintro p a f b;have F:=fI SR f b;exact dT
end
section
def l5(ps:List Int)(e:AV):AV:=ps.foldr (fun p x=>fc p x) e
def iO(env:b6)(s:List UInt8)(p:Int)(e:AV):b7 prog env 29 [Sg s,fc p e] (fc (-1) (fc p e)):=by
 refine qw func29 call29 ntmps29 results29 ?_;repeat refine m8 ?_
 (refine aM ?_;refine⟨_,(by show (ag _ _ _).run _=some _;simp only[go_sem];rfl),?_⟩)
 exact lW _ _ _ rfl _ _ (.refl _)
def IM(env:b6)(s:List UInt8)(p:Int)(a:Addr):b7 prog env 156 [Sg s,I p,cf a] (fc (max p (-1)) (cf a)):=by
 refine b7.args (cs:=[Sg s,I p, .iface 324 (.lit (.pointer (some a)))]) ?_ (.cons (.refl _) (.cons (.refl _) (.cons (.ifl _ _) .nil)));by_cases b:p< -1
 ·rw[show max p (-1)= -1 by omega];refine qw func156 call156 ntmps156 results156 ?_;have F:=b;repeat refine st ?_
  (refine aM ?_;refine⟨_,(by show (ag _ _ _).run _=some _;simp only[go_sem,F];rfl),?_⟩)
  exact lW _ _ _ rfl _ _ (.lfi _ _)
 rw[show max p (-1)=p by omega];refine qw func156 call156 ntmps156 results156 ?_;have F:=b;repeat refine st ?_
 (refine aM ?_;refine⟨_,(by show (ag _ _ _).run _=some _;simp only[go_sem,F];rfl),?_⟩)
 exact lW _ _ _ rfl _ _ (.lfi _ _)
def DG(env:b6)(a b:Addr)(d:fq env a b)(p:Int):b7 prog env 136 [I p] (fc (max p (-1)) (cf a)):=by
 have c:=iH d.e1;have f0:=IM env [108,101,103,97,108,46,67,104,101,99,107] p a;refine qf func136 call136 ntmps136 results136 ?_;have F:=c;exact g9 f0
def sJ{c:aq}{act:List Int}{j:Nat}{x:Int}(b:act[j]? =some x)(a: ∀m,m<j->uh c act m=true)(d:uh c act j=false):jz c act=(1,max x (-1)):=by
 have e:=(Ld.1 b).1;unfold jz;rw[dK e a d];simp only[MJ,b,Mn]
def cd(env:b6)(u C:Addr)(N:fq env u C)(c:aq)(h:b8 c)(J:g6 c)(act:List Int)(T:act.length<=1000000):b7 prog env 81 [aH c, .seq 1 (act.map aa)] (vA u c act):=by
 have O:=h.Z6;have f0:=au env c J;have f1:=jS env c (by omega) act T;have f2:=fun(k:Nat)(s:na)(B:c.Z9[k]? =some s)=>II env c h act k s B;have f3:=bc env c h (-1);rw[Lj (.inl rfl)]at f3;have V:=bC h.toRight (-1) true;have G: ∀j∈av c (-1) true,j<c.Z9.length:=fun j S=>by have:=bH h.toRight (aY S).1;omega
 have f4:=tv env c.Z9.length act (av c (-1) true) (by omega) (by omega) G;have R:=Gk env u C N (-1) (by omega);have d:=eW c.Z9.length act;unfold aH at f0 f1 f2 f3 |-;refine qf func81 call81 ntmps81 results81 ?_;have F:=aA.eq_1;repeat refine vb f0 f1 ?_
 have F:=aA.eq_1;refine lq act.length (by omega) (fun j Q=>[(0, .ref 9 [ca c] 0 0),(1, .seq 1 (act.map aa)),(5, .loc 5 (Q 5) 0 0),(6, .row 17 (Q 17)),(18, .seq 1 (act.map aa)),(19,I act.length),(20,I j)]) (fun _ _=>[(5,⟨5,[aA c],26,false⟩),(17,⟨1,kb c.Z9.length act,4,true⟩)]) (fun j _ _=> ∀m,m<j->uh c act m=true) (fun m q=>absurd q (by omega)) ?_ ?_
 ·rintro j U D n i P b;obtain⟨x,o⟩:=gE n;have a:=sK (c:=c) o;have A:=DG env u C N x;have f:uh c act j=false->vA u c act=fc (max x (-1)) (cf u):=fun g=>BN (sJ o b g);by_cases r:x<0
  ·rw[f (by rw[a,oR (by unfold ed;rw[MU (by omega)];rfl),Mj])];have F:=fI o i r;exact g9 A
  obtain⟨k,rfl⟩:=fO (show 0<=x by omega);by_cases v:(c.Z9.length:Int)<=k
  ·rw[f (by rw[a,oR (by unfold ed;rw[MU (p:=(k:Int)<_) (by omega),Mj]),Mj])];have F:=g7 o i r v d;exact g9 A
  obtain⟨s,B⟩: ∃s,c.Z9[k]? =some s:=⟨c.Z9[k]'(by omega),Lc _⟩;have f2:=f2 k s B;rw[Ar B]at a;by_cases H:0<j
  ·have w:(0:Int)< (j:Int):=by omega
   have L:IntKind.i64.wrap ((j:Int)-1)=((j-1:Nat):Int):=by rw[aW (by omega) (by omega)];omega
   have K:=Du H n;have M:((j-1:Nat):Int)< (act.length:Int):=by omega
   have z:(j==0)=false:=by simp;omega
   generalize act.getD (j-1) 0=y at*;by_cases E:(k:Int)<=y
   ·rw[f (by rw[a,z,MU (by omega)];rfl)];have F:=la o i r v d w L M K E;exact g9 A
   cases g:qx c act k s with
   | false=>
     rw[g]at f2 a;rw[f (by rw[a,Mj])];have F:=pc SR o i r v d w L M K E;exact m5 f2 A
   | true=>
     rw[g,z,M2 (show y< (k:Int) by omega)]at a;rw[g]at f2;have F:=dk SR o i P r v d w L M K E;repeat refine ef f2 ?_
     refine⟨j+1,⟨n,fun m q=>by rcases NB.1 q with e|e;exact b m e;rw[e];exact a⟩,?_,?_,by omega⟩
     ·exact qe
     have F:=aA.eq_1;exact qe
  ·have w: ¬(0:Int)< (j:Int):=by omega
   have z:(j==0)=true:=by simp;omega
   cases g:qx c act k s with
   | false=>
     rw[g,z]at a;rw[g]at f2;rw[f (by rw[a,Mj])];have F:=lP SR o i r v d w;exact m5 f2 A
   | true=>
     rw[g,z]at a;rw[g]at f2;have F:=ns SR o i P r v d w;repeat refine ef f2 ?_
     refine⟨j+1,⟨n,fun m q=>by rcases NB.1 q with e|e;exact b m e;rw[e];exact a⟩,?_,?_,by omega⟩
     ·exact qe
     have F:=aA.eq_1;exact qe
 rintro U D i b
 have l:jz c act=if bx act (av c (-1) true)=1 then(0, -1) else(1, -1):=by
  unfold jz;rw[bI b]
 by_cases q:bx act (av c (-1) true)=1
 ·rw[Lj q]at l;rw[KC l];have t:((bx act (av c (-1) true):Nat):Int)=1:=by omega
  have F:=ai i t;exact m5 f3 f4
 rw[Lf q]at l;rw[BN l];have t:(((bx act (av c (-1) true):Nat):Int) != 1)=true:=by simp;omega
 have F:=ai i t;exact x5 f3 f4 R
def ug(env:b6)(c:aq)(h:b8 c)(act:List Int)(D:act.length<=1000000):b7 prog env 68 [.agg (aA c), .seq 1 (act.map aa)] (.tuple [I (jz c act).1,I (jz c act).2]):=by
 have E:=h.Z6;have f3:=be env c (-1) true (by omega);have L:=bC h.toRight (-1) true;have f4:=fg env act (av c (-1) true) D (by omega);refine qf func68 call68 ntmps68 results68 ?_;have F:=aA.eq_1;repeat refine st ?_
 have F:=aA.eq_1;refine lq act.length (by omega) (fun j J=>[(1, .seq 1 (act.map aa)),(2, .loc 2 (J 2) 0 0),(6,I j)]) (fun _ _=>[(2,⟨5,[aA c],26,false⟩)]) (fun j _ _=> ∀m,m<j->uh c act m=true) (fun m l=>absurd l (by omega)) ?_ ?_
 ·rintro j K u g i H b;obtain⟨x,n⟩:=gE g;have t:max x (-1)=if x< -1 then -1 else x:=by split<;>omega
  have a:=sK (c:=c) n;have f0:=rc env c x;have f:uh c act j=false->jz c act=(1,max x (-1)):=fun d=>sJ n b d;cases r:ed c x with
  | false=>
    rw[r]at f0;rw[f (by rw[a,oR r,Mj])];have F:=hH SR n i t;exact g9 f0
  | true=>
    rw[r]at f0;obtain⟨k,s,rfl,G,M⟩:=cO r;have f2:=zQ env c h act D k s G;rw[Ar G]at a;by_cases z:0<j
    ·have p:(0:Int)< (j:Int):=by omega
     have B:IntKind.i64.wrap ((j:Int)-1)=((j-1:Nat):Int):=by rw[aW (by omega) (by omega)];omega
     have A:=Du z g;have C:((j-1:Nat):Int)< (act.length:Int):=by omega
     have q:(j==0)=false:=by simp;omega
     generalize act.getD (j-1) 0=y at*;by_cases v:(k:Int)<=y
     ·rw[f (by rw[a,q,MU (by omega)];rfl)];have F:=pf SR n i p B C t A v;exact g9 f0
     cases d:qx c act k s with
     | false=>
       rw[d]at f2 a;rw[f (by rw[a,Mj])];have F:=pf SR n i p B C t A v;exact m5 f0 f2
     | true=>
       rw[d,q,M2 (show y< (k:Int) by omega)]at a;rw[d]at f2;have F:=pf SR n i H p B C A v;repeat refine vb f0 f2 ?_
       refine⟨j+1,⟨g,fun m l=>by rcases NB.1 l with e|e;exact b m e;rw[e];exact a⟩,?_,?_,by omega⟩
       ·exact qe
       have F:=aA.eq_1;exact qe
    ·have p: ¬(0:Int)< (j:Int):=by omega
     have q:(j==0)=true:=by simp;omega
     cases d:qx c act k s with
     | false=>
       rw[d,q]at a;rw[d]at f2;rw[f (by rw[a,Mj])];have F:=g7 SR n i p t;exact m5 f0 f2
     | true=>
       rw[d,q]at a;rw[d]at f2;have F:=g7 SR n i H p;repeat refine vb f0 f2 ?_
       refine⟨j+1,⟨g,fun m l=>by rcases NB.1 l with e|e;exact b m e;rw[e];exact a⟩,?_,?_,by omega⟩
       ·exact qe
       have F:=aA.eq_1;exact qe
 rintro K u i b
 have w:jz c act=if bx act (av c (-1) true)=1 then(0, -1) else(1, -1):=by
  unfold jz;rw[bI b]
 rw[w];by_cases l:bx act (av c (-1) true)=1
 ·rw[Lj l];have o:((bx act (av c (-1) true):Nat):Int)=1:=by omega
  have F:=fI SR i o;exact m5 f3 f4
 rw[Lf l];have o:(((bx act (av c (-1) true):Nat):Int) != 1)=true:=by simp;omega
 have F:=fI SR i o;exact m5 f3 f4
end
end Go.Proofs.YtknkhdgfhbogdaaGreatDoor
