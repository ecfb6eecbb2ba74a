/- The document's words on enabled transitions. -/
import Derived.Test.YtknkhdgfhbogdaaGreatDoorP24
set_option maxRecDepth 100000
set_option maxHeartbeats 16000000
set_option linter.unusedSimpArgs false
set_option linter.defProp false
namespace Go.Proofs.YtknkhdgfhbogdaaGreatDoor
open Go.Proofs.Tryz
section
open Go.RowKit
def zs:List dg->Int->Nat
 |[],_=>0
 |x::r,h=>if x.1<h then zs r h+1 else 0
def xk(h:Int): ∀l:List dg,zs l h<=l.length
 |[]=>Lr _
 | x::r=>by
   unfold zs;split
   ·have:=xk h r;simp only[MB];omega
   exact Lx _
def Dw{h:Int} : ∀ {l:List dg},Qf l-> ∀ {j:Nat}{y:dg},l[j]? =some y->(j<zs l h↔y.1<h)
 |[],_,j,y,a=>by simp at a
 | x::r,f,j,y,a=>by
   obtain⟨d,e⟩:=NT.1 f;unfold zs;by_cases b:x.1<h
   ·rw[Lj b];cases j with
    | zero=>
      simp only[M9,Le]at a;subst a;exact⟨fun _=>b,fun _=>by omega⟩
    | succ j=>
      rw[NW]at a;have:=Dw (h:=h) e a;omega
   ·rw[Lf b];refine⟨fun h=>by omega,fun c=> ?_⟩;cases j with
    | zero=>
      simp only[M9,Le]at a;subst a;exact absurd c b
    | succ j=>
      rw[NW]at a;have:=d y (Lh a);omega
def Rs(l:List dg)(h:Int):Bool:=match l[zs l h]? with
 |some y=>y.1==h
 |none=>false
def AW{m:dg} : ∀ {l:List dg},Rs l m.1=true->kp l m=l.set (zs l m.1) m
 |[],h=>by simp[Rs]at h
 | x::r,h=>by
   unfold kp;unfold Rs at h;unfold zs at h |-;by_cases a:x.1<m.1
   ·rw[Lj a]at h |-;rw[Lj a,List.set_cons_succ,AW (by unfold Rs;rw[NW]at h;exact h)]
   rw[Lf a]at h |-;rw[Lf a];have h:(x.1==m.1)=true:=h;rw[Lj (by simpa using h)];rfl
def AX{m:dg} : ∀ {l:List dg},Rs l m.1=false->kp l m=l.take (zs l m.1)++m::l.drop (zs l m.1)
 |[],h=>by simp[kp,zs]
 | x::r,h=>by
   unfold kp;unfold Rs at h;unfold zs at h |-;by_cases a:x.1<m.1
   ·rw[Lj a]at h |-;rw[Lj a,AX (by unfold Rs;rw[NW]at h;exact h)];rfl
   rw[Lf a]at h |-;rw[Lf a];have h:(x.1==m.1)=false:=h;rw[Lf (by simpa using h)];rfl
def Kl{l:List dg}{h:Int}(hi:Rs l h=true):zs l h<l.length:=by
 unfold Rs at hi;cases a:l[zs l h]? with
 |none=>rw[a]at hi;cases hi
 |some y=>exact(Ld.1 a).1
def Co(env:b6)(mem:List dg)(q:mem.length<=4096)(n: ∀m∈mem,m.2.length<=4096):b7 prog env 260 [ff mem] (.own 122 2 (mem.map eg)):=by
 refine qf func260 call260 ntmps260 results260 ?_;repeat refine m8 ?_
 refine am 3 3 122 2 ?_;refine PA mem.length (by omega) (fun j o=>[(3, .row 3 (o 3)),(6,ff mem),(7,I mem.length),(8,I j)]) (fun j _=>[(3,⟨2,(mem.take j).map eg,122,true⟩)]) (fun j _ b=>b 3=false) rfl ?_ ?_
 ·rintro j p b c e k d;obtain⟨a,f⟩:=gE c;have f0:=dQ env (a.2.map aa) (by rw[ME];exact n a (Lh f));have i:(mem.take j).length=j:=by rw[Lw];omega
  have l:cI (j+1) 32:=aC (by omega) (by omega);have h:mem.take (j+1)=mem.take j++[a]:=by rw[MM,f];rfl
  have F:=lP S6 e k f i l d;repeat refine ef f0 ?_
  refine⟨j+1,⟨c,by simp only[go_sem,d]⟩,?_,?_,by omega⟩
  ·exact qe
  have F:=fI S6 h @Ln.{0,0};exact qe
 rintro p b e d;have g:mem.take mem.length=mem:=MC;have F:=fI e g d;exact dT
def zn(env:b6)(c:aq)(o:Right c)(L:List Int)(s:L.length<=4000)(d:Int):b7 prog env 263 [aH c, .seq 1 (L.map aa),I d] (.own 3 1 ((fi c L d).map aa)):=by
 have f1:=bP env c;unfold aH aQ at f1;unfold aH;refine qf func263 call263 ntmps263 results263 ?_;repeat refine m8 ?_
 refine am 7 7 3 1 ?_;refine PA L.length (by omega) (fun j q=>[(0, .ref 9 [ca c] 0 0),(2,I d),(7, .row 7 (q 7)),(10, .seq 1 (L.map aa)),(11,I L.length),(12,I j)]) (fun j _=>[(7,⟨1,(gV c L d j).map aa,3,true⟩)]) (fun j _ a=>a 7=false) rfl ?_ ?_
 ·rintro j r a b k n e;obtain⟨x,l⟩:=gE b;have f3:=fG env c o d x;unfold aQ at f3;have p:=ox c L d j;have m:cI ((gV c L d j).length+1) 8:=aC (by omega) (by omega);have h:=mM (c:=c) (i:=d) l;cases g:aE c d x with
  | true=>
    rw[g]at f3;rw[g,Lj rfl]at h;have F:=g7 k n l m e;repeat refine vb f1 f3 ?_
    refine⟨j+1,⟨b,by simp only[go_sem,e]⟩,?_,?_,by omega⟩
    ·exact qe
    have F:=ai h @Ln.{0,0};exact qe
  | false=>
    rw[g]at f3;rw[g,Lf MW]at h;have F:=g7 k n l m e;repeat refine vb f1 f3 ?_
    refine⟨j+1,⟨b,by simp only[go_sem,e]⟩,?_,?_,by omega⟩
    ·exact qe
    have F:=ai h @Ln.{0,0};exact qe
 rintro r a k e;have f:gV c L d L.length=fi c L d:=by unfold gV fi;rw[MC]
 rw[f];have F:=ai k e;exact dT
def kV(env:b6)(l:List Int)(p:Int->Bool)(g:FuncId)(a:List (List AV))(j: ∀d,b7 prog env g [I d, .ref 1 a 0 0] (B (p d)))(h:l.length<=4096):b7 prog env 201 [.seq 1 (l.map aa), .clo g [.ref 1 a 0 0]] (B (l.any p)):=by
 have f0:=qF env l p g a j h;cases b:ly p l with
 | none=>
   rw[b]at f0;have c:l.any p=false:=Oy.2 fun x k=>by rw[(pO b).2 x k];simp
   rw[c];unfold lz at f0;refine qf func201 call201 ntmps201 results201 ?_;repeat refine jL f0 ?_
   exact p'
 | some i=>
   rw[b]at f0;obtain⟨_,_,d,e,f⟩:=pN b;have c:l.any p=true:=Ml.2 ⟨d,Lh e,f⟩;have m:(0:Int)<=(i:Int):=by omega
   rw[c];unfold lz at f0;refine qf func201 call201 ntmps201 results201 ?_;have F:=m;exact g9 f0
def Ca(env:b6)(G:List Int)(a:G.length<=1000000)(i:Int):b7 prog env 280 [I i, .ref 1 [[.seq 1 (G.map aa)]] 0 0] (B (G.contains i)):=by
 have f0:=bJ env G i a;refine qf func280 call280 ntmps280 results280 ?_;repeat refine jL f0 ?_
 exact p'
def oJ(c:aq)(l:List Int)(j:Nat):List Int:=(l.take j).filter (n4 c l)
def Cb{c:aq}{l:List Int}{j:Nat}{x:Int}(h:l[j]? =some x):oJ c l (j+1)=if n4 c l x then oJ c l j++[x] else oJ c l j:=by
 unfold oJ;rw[MM,h,MR];cases a:n4 c l x<;>simp[a]
def GK(c:aq)(l:List Int)(j:Nat):(oJ c l j).length<=l.length:=by
 unfold oJ;exact Ly (MF ..) (by rw[Lw];omega)
def GJ(env:b6)(c:aq)(h:b8 c)(l:List Int)(y:l.length<=4000)(t: ∀x∈l,ed c x=true):b7 prog env 262 [aH c, .seq 1 (l.map aa)] (.own 3 1 ((kk c l).map aa)):=by
 unfold aH;refine qf func262 call262 ntmps262 results262 ?_;repeat refine m8 ?_
 refine am 5 5 3 1 ?_;refine PA l.length (by omega) (fun j r=>[(0, .ref 9 [ca c] 0 0),(3, .loc 3 (r 3) 0 0),(5, .row 5 (r 5)),(9, .seq 1 (l.map aa)),(10,I l.length),(11,I j)]) (fun j _=>[(3,⟨1,[[.seq 1 (l.map aa)]],27,false⟩),(5,⟨1,(oJ c l j).map aa,3,true⟩)]) (fun j _ f=>f 3=false/\f 5=false) ⟨rfl,rfl⟩ ?_ ?_
 ·rintro j u f g n q ⟨a,e⟩;obtain⟨x,m⟩:=gE g;have f2:=bc env c h x;rw[Lj (.inr (t x (Lh m)))]at f2;have v:=bC h.toRight x true;have f3:=(kV env (gv c x) (fun d=>l.contains d) 280 [[.seq 1 (l.map aa)]] (Ca env l (by omega)) (by rw[ak];omega)).lend rfl;rw[b9]at f3;have s:=GK c l j;have p:cI ((oJ c l j).length+1) 8:=aC (by omega) (by omega);have k:=Cb (c:=c) m;have o:n4 c l x= !((gv c x).any fun d=>l.contains d):=rfl;generalize ((gv c x).any fun d=>l.contains d)=b at*;generalize av c x true=K at*;unfold aH at f2;cases b with
  | true=>
    rw[o,N7,Lf MW]at k;have F:=ip n q m p a e;repeat refine ef f2 ?_
    refine lL f3 ?_;repeat refine st ?_
    refine⟨j+1,⟨g,by simp only[go_sem,a],by simp only[go_sem,e]⟩,?_,?_,by omega⟩
    ·exact qe
    have F:=k;exact qe
  | false=>
    rw[o,NI,Lj rfl]at k;have F:=ip n q m p a e;repeat refine ef f2 ?_
    refine lL f3 ?_;repeat refine st ?_
    refine⟨j+1,⟨g,by simp only[go_sem,a],by simp only[go_sem,e]⟩,?_,?_,by omega⟩
    ·exact qe
    have F:=ai k @Ln.{0,0};exact qe
 rintro u f n ⟨a,e⟩;have i:oJ c l l.length=l.filter (n4 c l):=by unfold oJ;rw[MC]
 rw[i];have w:(l.filter (n4 c l)).length<=l.length:=MF ..;unfold kk;generalize l.filter (n4 c l)=U at*;have f4:=pk U (by omega);have F:=fI n a e;repeat refine st ?_
 refine ng 5 rfl (row:=⟨1,U.map aa,3,true⟩) f4 (MZ 0) rfl (bu _).symm (by simp only[go_sem,a,e];exact iR) (by simp only[go_sem,a,e];exact iR) (by simp only[go_sem,a,e];exact iR) (by simp only[go_sem,a,e];exact iR) ?_;rw[bu];exact dT
end
section
open Go.RowKit Go.ChangeShapes Go.WideShapes Go.ChangeAt
abbrev pb:=List Int×List Int×List dg×List (List UInt8×Int)×Bool
def k0(x:pb):List AV:=[b0 x.1,b0 x.2.1, .seq 2 (x.2.2.1.map eg), .seq 2 (x.2.2.2.1.map cR),B x.2.2.2.2]
def Ti:=@k0.eq_1
def qm(t:List UInt8×Int):Prop:=t.1.length<=maxLen
def JE(x:pb):Prop:=(x.1.length<=maxLen/\x.2.1.length<=maxLen)/\(x.2.2.1.length<=maxLen/\ ∀m∈x.2.2.1,Kp m)/\x.2.2.2.1.length<=maxLen/\ ∀t∈x.2.2.2.1,qm t
def Kv:prog.cellsOf 4=1:=by kernel_rfl
def Sr:prog.cellsOf 85=2:=by kernel_rfl
def Ku:prog.cellsOf 31=5:=by kernel_rfl
section
variable {H:Type} {enc:TypeId×Value->H} {w:World} {base:Nat} {spare:Nat->Bool} {held:Bool}
theorem Je(m:Nat)(cs:List Value)(y:DataW H×List MemPlace)(h:DataW.trod enc prog w base spare held m 85 cs=some y): ∃a:List UInt8×Int,RE w cR qm cs a:=by
 obtain⟨s,n,_,_,d,b,c⟩:=Nf Tryz.underlying85 h;rw[Sr]at d;obtain⟨e,f,rfl⟩:=C3 d;obtain⟨q,j⟩:=bY b c 0 _ rfl 9 0 1 rfl rfl iZ;obtain⟨o,g, -,l⟩:=OU Tryz.underlying9 (show DataW.trod enc prog w base spare held n 9 [e]=some q from j);cases g;obtain⟨⟨t0⟩⟩:=o;obtain⟨r,k⟩:=bY b c 1 _ rfl 3 1 1 rfl rfl po;obtain⟨p,i, -, -⟩:=NK Tryz.underlying3 (show DataW.trod enc prog w base spare held n 3 [f]=some r from k);cases i;exact⟨(t0,p),⟨⟨rfl, .lit _⟩,⟨rfl, .lit _⟩,trivial⟩,(by simpa[qm,ByteArray.size]using l)⟩
end
end
section
open Go.RowKit
def GS(c:aq)(act vars:List Int)(d:Int):ph:=⟨vars,d,(List.range c.Z9.length).map fun k:Nat=>act.contains (k:Int)⟩
def xb(c:aq)(act vars:List Int)(d:Int):(GS c act vars d).act.map As=kb c.Z9.length act:=by
 unfold GS kb;rw[OE];rfl
def o8(c:aq)(act vars:List Int)(d:Int):(GS c act vars d).act.length=c.Z9.length:=by
 unfold GS;simp
def bT{c:aq}(h:b8 c):L0 c:=by
 have f: ∀(i:Int)(s:na),at_ c i=some s-> ∃k,cJ c k s=true:=fun i s e=>by
  unfold at_ at e;split at e
  ·exact⟨_,h.st _ s e⟩
  cases e
 refine⟨fun i a b=> ?_,fun i a b=> ?_,fun n t g a b=> ?_⟩
 ·unfold vh at b;split at b
  ·rename_i s e;obtain⟨k,d⟩:=f i s e;unfold cJ eL at d;simp only[Li]at d;exact Lm.1 d.2.2 a b
  simp at b
 ·unfold Rv at b;split at b
  ·rename_i s e;obtain⟨k,d⟩:=f i s e;unfold cJ eL at d;simp only[Li]at d;exact Lm.1 d.1.2.2 a b
  simp at b
 have:=h.tr n t g;unfold d5 eL at this;simp only[Li]at this;exact Lm.1 this.1.2.2 a b
def uI{c:aq}(h:b8 c){n:Nat}{t:sh}(a:c.trans[n]? =some t):t.guard=[]\/bn t.guard c.vars.length c.Z9.length=true:=by
 have:=h.tr n t a;unfold d5 at this;simp only[Li,Mx,Mh]at this;exact this.1.1.2
def Qj(c:aq)(x:pb)(d:Int):List AV:=[b0 x.1,b0 x.2.1, .seq 2 (x.2.2.1.map eg), .seq 2 (x.2.2.2.1.map cR),B x.2.2.2.2,ct,ct, .ref 9 [ca c] 0 0,Sg c.name,I c.initial,n7 c.vars,o' c.Z9,rk c.trans,I d,I 0]
def Tn:=@Qj.eq_1
structure DQ(c:aq)(x:pb)(d:Int):Prop where
 act:x.1.length<=1000
 len:x.2.1.length=c.vars.length
 fit: ∀v∈x.2.1,aL v=true
 data:aL d=true
 lg:rx c x.1=true
def DQ.ok{c:aq}{x:pb}{d:Int}(h:DQ c x d):(GS c x.1 x.2.1 d).Ok:=⟨h.fit,h.data⟩
def Ek(env:b6)(c:aq)(a:c.Z9.length<=4000)(x:pb)(d:Int)(b:DQ c x d):b7 prog env 197 [.ref 15 [Qj c x d] 0 0] (.agg (dm (GS c x.1 x.2.1 d))):=by
 have f0:=jS env c a x.1 (by have:=b.act;omega);unfold aH at f0;unfold dm;rw[xb];show b7 _ _ _ _ (.agg [b0 x.2.1,I d, .seq 1 (kb c.Z9.length x.1)]);generalize kb c.Z9.length x.1=L at*;refine qf func197 call197 ntmps197 results197 ?_;have F:=Qj.eq_1;exact g9 f0
def sd(a:Addr):Fd->AV
 | .no=> .tuple [I (-1),h8]
 | .one n=> .tuple [I (n:Nat),h8]
 | .bad n=> .tuple [I (-1),fc (1000+(n:Nat)) (cf a)]
def sZ{c:aq}{w:ph}{n:Nat}{l:List Nat}(h:fP w (jH c n)=none):cN c w (n::l)= .bad n:=by unfold cN;rw[h]
def wO{c:aq}{w:ph}{n:Nat}{l:List Nat}(h:fP w (jH c n)=some true):cN c w (n::l)= .one n:=by unfold cN;rw[h]
def Au{c:aq}{w:ph}{n:Nat}{l:List Nat}(h:fP w (jH c n)=some false):cN c w (n::l)=cN c w l:=by conv=>lhs;unfold cN;rw[h]
def GZ(env:b6)(s i u:Addr)(B:fq env s u)(w:env 5=some (cf i))(c:aq)(h:b8 c)(H:g6 c)(x:pb)(d:Int)(g:DQ c x d)(l:List Nat)(M:l.length<=1000)(G: ∀n∈l,n<c.trans.length):
 b7 prog env 144 [.ref 15 [Qj c x d] 0 0, .seq 1 (l.map aB)] (sd i (cN c (GS c x.1 x.2.1 d) l)):=by
 have C:=h.Z6;have D:=h.ZP;have f0:=Ek env c (by omega) x d g;have E:=iH w;have q:(GS c x.1 x.2.1 d).vars.length<=1000000:=by show x.2.1.length<=_;have:=g.len;have:=H.vars;omega
 have f1: ∀(n:Nat)(t:sh),c.trans[n]? =some t-> ∀b,fP (GS c x.1 x.2.1 d) t.guard=some b->_:=fun n t e b y=>HS env s i u B w (GS c x.1 x.2.1 d) g.ok q t.guard (by rw[o8];show _\/bn t.guard (x.2.1.length:Int) _=true;rw[g.len];exact uI h e) b y;have f2: ∀(n:Nat)(t:sh),c.trans[n]? =some t->fP (GS c x.1 x.2.1 d) t.guard=none->_:=fun n t e y=>Ev env s i u B w (GS c x.1 x.2.1 d) g.ok q t.guard (by rw[o8];show _\/bn t.guard (x.2.1.length:Int) _=true;rw[g.len];exact uI h e) y;generalize GS c x.1 x.2.1 d=W at*;unfold dm at f0 f1 f2;refine qf func144 call144 ntmps144 results144 ?_;repeat refine m8 ?_
 refine PA l.length (by omega) (fun j _=>[(0, .ref 15 [Qj c x d] 0 0),(10, .seq 1 (l.map aB)),(11,I l.length),(12,I j)]) (fun _ _=>[]) (fun j _ _=>cN c W l=cN c W (l.drop j)) rfl ?_ ?_
 ·rintro j L v k r J a;obtain⟨n,m⟩:=gE k;have o:=G n (Lh m);obtain⟨t,e⟩:=gE o;have A:=h9 o;have K:IntKind.i64.wrap (1000+(n:Int))=1000+(n:Int):=aW (by omega) (by omega);have z:=ar m;have f:jH c n=t.guard:=by unfold jH;rw[e]
  rw[z]at a;cases p:fP W t.guard with
  | none=>
    rw[sZ (by rw[f];exact p)]at a;rw[a];have f3:=f2 n t e p;have f4:=yE env [109,105,99,114,111,46,69,110,97,98,108,101,100] (1000+(n:Int)) i (by omega);show fk _ _ _ _ _ _;unfold sd;have F:=pf Tn SV SU m e r A K E;exact x5 f0 f3 f4
  | some b=>
    have f3:=f1 n t e b p;cases b with
    | true=>
      rw[wO (by rw[f];exact p)]at a;rw[a];show fk _ _ _ _ _ _;unfold sd;have F:=lP Tn SV SU m e r A;exact m5 f0 f3
    | false=>
      rw[Au (by rw[f];exact p)]at a;have F:=ns Tn SV SU m e r J A;repeat refine vb f0 f3 ?_
      exact qn (j+1) ⟨k,a⟩
 rintro L v r a;rw[Mu]at a;rw[a];show fk _ _ _ _ _ _;show fk _ _ _ _ _ _;unfold cN sd;have F:=r;exact dT
def Kf(env:b6)(c:aq)(h:b8 c)(x:pb)(d:Int)(k:Int)(ev:List UInt8):b7 prog env 145 [.ref 15 [Qj c x d] 0 0,I k,Sg ev] (.own 3 1 ((g5 c k ev c.trans.length).map aB)):=by
 have b:=h.ZP;by_cases a:ev=[]
 ·subst a;rw[Bv];have f0:=yo env c (by omega) k;unfold aH at f0;refine qf func145 call145 ntmps145 results145 ?_;have F:=Qj.eq_1;exact g9 f0
 rw[Bu c k a];have f0:=xB env c (by omega) ev;have f1:=Ey env c (by omega) k (Qz c ev);have e:(ev == [])=false:=by simpa using a
 unfold aH at f0 f1;refine qf func145 call145 ntmps145 results145 ?_;have F:=ai Tn e;exact m5 f0 f1
def AO{c:aq}{k:Int}{ev:List UInt8}{j n:Nat}(h:n∈g5 c k ev j):n<j:=MK.1 (Lq.1 h).1
def EU{c:aq}{w:ph}{ev:List UInt8}{k:Int}{l:List Int}(h:cN c w (g5 c k ev c.trans.length)= .no):cv c w ev (k::l)=cv c w ev l:=by
 conv=>lhs;unfold cv
 rw[h]
def Aw{c:aq}{w:ph}{ev:List UInt8}{k:Int}{l:List Int}{n:Nat}(h:cN c w (g5 c k ev c.trans.length)= .one n):cv c w ev (k::l)= .one n:=by
 unfold cv;rw[h]
def Ax{c:aq}{w:ph}{ev:List UInt8}{k:Int}{l:List Int}{n:Nat}(h:cN c w (g5 c k ev c.trans.length)= .bad n):cv c w ev (k::l)= .bad n:=by
 unfold cv;rw[h]
def IJ(env:b6)(q l r:Addr)(w:fq env q r)(v:env 5=some (cf l))(c:aq)(h:b8 c)(A:g6 c)(x:pb)(d:Int)(D:DQ c x d)(i:Int)(ev:List UInt8):
 b7 prog env 87 [.ref 15 [Qj c x d] 0 0,I i,Sg ev] (sd l (cv c (GS c x.1 x.2.1 d) ev (i::i' c i))):=by
 have s:=h.Z6;have t:=h.ZP;have f0:=bP env c;have f1:b7 prog env 143 [aQ c,I i] (.own 3 1 ((i' c i).map aa)):=xe env c h.toRight i;have f2:=Kf env c h x d;have f3:=fun k=>GZ env q l r w v c h A x d D (g5 c k ev c.trans.length) (by have:(g5 c k ev c.trans.length).length<=c.trans.length:=fo (jA c k ev) c.trans.length;omega) (fun n z=>AO z);have B:(i' c i).length<=40:=kJ ..;have y:cI (1+(i' c i).length) 8:=aC (by omega) (by omega);have u:[[I i]]++(i' c i).map aa=(i::i' c i).map aa:=rfl;have C:(i::i' c i).length<=4000:=by simp only[MB];omega
 have G:((i::i' c i).map aa).length=(i::i' c i).length:=ME ..;generalize GS c x.1 x.2.1 d=W at*;generalize H:(i::i' c i)=R at*;unfold aQ at f0 f1;unfold aH at f0;refine qf func87 call87 ntmps87 results87 ?_;have F:=fI Tn y u;repeat refine vb f0 f1 ?_
 have F:=Qj.eq_1;refine lq R.length (by omega) (fun j p=>[(0, .ref 15 [Qj c x d] 0 0),(2,Sg ev),(21, .row 13 (p 13)),(22,I R.length),(23,I j)]) (fun _ _=>[(13,⟨1,R.map aa,3,true⟩)]) (fun j _ _=>cv c W ev R=cv c W ev (R.drop j)) rfl ?_ ?_
 ·rintro j p m e f o a;obtain⟨k,g⟩:=gE e;have f4:=f2 k ev;have f5:=f3 k;rw[ar g]at a;cases b:cN c W (g5 c k ev c.trans.length) with
  | no=>
    rw[b]at f5;unfold sd at f5;rw[EU b]at a;have F:=hH S3 g f o;repeat refine vb f4 f5 ?_
    exact qn (j+1) ⟨e,a⟩
  | one n=>
    rw[b]at f5;unfold sd at f5;rw[Aw b]at a;rw[a];have E:(0:Int)<=(n:Int):=by omega
    show fk _ _ _ _ _ _;unfold sd;have F:=g7 S3 g f o E;exact m5 f4 f5
  | bad n=>
    rw[b]at f5;unfold sd at f5;rw[Ax b]at a;rw[a];show fk _ _ _ _ _ _;unfold sd;have F:=hH S3 g f o;exact m5 f4 f5
 rintro p m f a;rw[Mu]at a;rw[a];show fk _ _ _ _ _ _;unfold cv sd;have F:=f;exact dT
def KQ.seq{S:Nat->Nat->Prop}{w:World}{base:Nat}{v:Value}{e:TypeId}{sz:Nat}{es:List (List AV)}(h:KQ S w base v e sz es):
 ∃S':Nat->Nat->Prop,(∀b o,S b o->S' b o)/\(∀b o,S' b o->S b o\/(base<=b/\b<w.heap.size))/\RV S' w v (.seq sz es):=by
 obtain⟨l,s,z,B,_⟩:=h;obtain⟨S',f⟩: ∃S':Nat->Nat->Prop,S'=fun b o=>S b o\/v.ownBlock=some b:=⟨_,rfl⟩;have d: ∀b o,S b o->S' b o/\kE w w b o:=fun b o a=>⟨by rw[f];exact .inl a, .rfl⟩;refine⟨S',fun b o a=>(d b o a).1,fun b o a=> ?_,?_⟩
 ·rw[f]at a;exact a.imp id fun a=>bf s a
 rcases s.2 with⟨rfl,D⟩|⟨g,p,A,rfl,E,G,r,_,_,t⟩
 ·have q:es=[]:=M7 D;subst q;exact .seq none 0 0 sz [] 0 0 (fun _ _=>undef) rfl (Lr _) (fun a=>by omega) (fun i e C=>by simp at C) (fun i j c a=>by simp[bs]at a) (fun i j c a=>by simp[bs]at a)
 have k:=B;refine .seq (some ⟨g,0,none⟩) es.length p sz es g 0 (fun i j=>l.getD (i*sz+j) undef) rfl r (fun _=>rfl) k.ZS (fun i j c m=> ?_) fun i j c m=> ?_
 ·obtain⟨u,n,y⟩:=k.cell i j c m;have x:l.getD (i*sz+j) undef=u:=by simp[List.getD,n]
  rw[x,Mt];exact⟨by rw[f];exact .inr rfl,iV s rfl _ u n,k.one u (Lh n)⟩
 obtain⟨u,n,y⟩:=k.cell i j c m;have x:l.getD (i*sz+j) undef=u:=by simp[List.getD,n]
 rw[x];exact y.mono d
def P'.seen{P:Program}{env:b6}{f:FuncId}{cs:List AV}{e:TypeId}{sz:Nat}{es:List (List AV)}(h:P' P env f cs (.own e sz es)):P' P env f cs (.seq sz es):=by
 refine⟨h.enter,fun w S p d j l=>(h.calls w S p d j l).mono ?_⟩;rintro r t ⟨v,rfl,g,q,c,k⟩;obtain⟨a,s,m,n⟩:=KQ.seq k;exact⟨v,rfl,g,a,fun b o i=>(m b o i).elim (c b o) id,n⟩
def k9(c:aq)(d now:Int)(M:List (List AV))(o:Bool)(g:Nat->Nat):List AV:=[.row 1001 (g 1001), .row 1002 (g 1002), .seq 2 M, .row 1003 (g 1003),B o, .row 1004 (g 1004), .row 1005 (g 1005), .ref 9 [ca c] 0 0,Sg c.name,I c.initial,n7 c.vars,o' c.Z9,rk c.trans,I d,I now]
def SX:=@k9.eq_1
def RY(c:aq)(d now:Int)(r:ch)(g:Nat->Nat):List (Nat×Row):=[(1000,⟨15,[k9 c d now (r.mem.map eg) r.over g],157,false⟩),(1001,⟨1,r.act.map aa,3,true⟩),(1002,⟨1,r.vars.map aa,3,true⟩),(1003,⟨2,r.Z0.map cR,85,true⟩),(1004,⟨1,r.outs.map aa,3,true⟩),(1005,⟨2,r.Z7.map cR,33,true⟩)]
def SY:=@RY.eq_1
def n8(k:Nat):Bool:=k==1001||(k==1003||(k==1004||k==1005))
def S0:=@n8.eq_1
def ck(b c:Addr):r5->AV
 |none=>h8
 |some (k,a)=>fc (a.headD (-1)) (l5 a.tail (cf (if k=2 then b else c)))
def eY(a b:Addr)(e:r5)(L:Nat->Nat->Option (Nat×Nat)):(ck a b e).ren L=ck a b e:=by rcases e with _|⟨_,_⟩<;>rfl
def BZ(env:b6)(c:aq)(m:c.Z9.length<=4000)(d now:Int)(r:ch)(n:r.act.length<=1000000):hU prog env 197 [1000,1001,1002,1003,1004,1005] (fun _=>false) (fun g=>[.loc 1000 (g 1000) 0 0]) (RY c d now r) (RY c d now r) (fun g=>RM (Rr c d r) g):=by
 have f0:=jS env c m r.act n;have f0:=(f0.lend (aj (fun _=>rfl) _)).seen;have l:(Rr c d r).act.map As=kb c.Z9.length r.act:=xb c r.act r.vars d;unfold RM;rw[l];show hU _ _ _ _ _ _ _ _ fun g=> .agg [.row 1002 (g 1002),I d, .seq 1 (kb c.Z9.length r.act)];unfold aH at f0;generalize kb c.Z9.length r.act=L at*;refine qi func197 call197 ntmps197 results197 ?_;intro o k a;obtain⟨b,e,f,h,i,j⟩:=Qc a;have F:=ns SY SX b e f h i j;repeat refine st ?_
 refine lL f0 ?_;repeat refine st ?_
 exact rI
def Ez(env:b6)(G:List UInt8)(x:List UInt8×Int):b7 prog env 271 [.agg (cR x), .ref 1 [[Sg G]] 0 0] (B (x.1==G)):=by
 have a:(x.1==G)=(x.1.toArray==G.toArray):=by rw[MP];simp
 unfold cR;refine qf func271 call271 ntmps271 results271 ?_;repeat refine m8 ?_
 exact p'
def AE(env:b6)(c:aq)(d now:Int)(r:ch)(l:r.Z0.length<=4096)(s:List UInt8):hU prog env 255 [1000,1001,1002,1003,1004,1005] n8 (fun g=>[.loc 1000 (g 1000) 0 0,Sg s]) (RY c d now r) (RY c d now { r with Z0:=ds r.Z0 s }) (fun _=> .lit (.tuple #[])):=by
 have f0:hU prog env _ _ _ _ _ (fun _=>[(1000,⟨2,(ds r.Z0 s).map cR,85,true⟩),_]) _:=xW env r.Z0 (fun x=>x.1==s) 271 s 9 (Ez env s) l;generalize ds r.Z0 s=L at*;refine qi func255 call255 ntmps255 results255 ?_;intro m k a;have b:=a 1000 (by simp);have e:=a 1001 (by simp);have f:=a 1002 (by simp);have h:=a 1003 (by simp);have i:=a 1004 (by simp);have j:=a 1005 (by simp);have F:=pf SY SX S0 b e f h i j;repeat refine st ?_
 refine iL [(1000,1003),(1001,3)] f0 ?_;repeat refine st ?_
 exact rN
def tw(env:b6)(a:Addr)(c:env 2=some (cf a)):b7 prog env 219 [] (fc (-1) (cf a)):=by
 have b:=iH c;have f0:=bh env [109,105,99,114,111,46,100,111] a;refine qf func219 call219 ntmps219 results219 ?_;have F:=b;exact g9 f0
def vX(env:b6)(o b:Addr)(p:env 2=some (cf b))(c:aq)(d now:Int)(r:ch)(s:List UInt8)(v:Int):hU prog env 178 [1000,1001,1002,1003,1004,1005] n8 (fun g=>[.loc 1000 (g 1000) 0 0,Sg s,I v]) (RY c d now r) (RY c d now (gb r s v).1) (fun _=>ck o b (gb r s v).2):=by
 have f0:=tw env b p;unfold gb;by_cases n:16<=r.Z7.length
 ·rw[Lj n];have m:(16:Int)<=(r.Z7.length:Int):=by omega
  show hU _ _ _ _ _ _ _ _ fun _=>fc (-1) (cf b);refine qi func178 call178 ntmps178 results178 ?_;intro t l a;obtain⟨e,f,h,i,j,k⟩:=Qc a;have F:=la SY SX S0 m e f h i j k;repeat refine ef f0 ?_
  exact rI
 rw[Lf n];have m: ¬(16:Int)<=(r.Z7.length:Int):=by omega
 have q:cI (r.Z7.length+1) 24:=aC (by omega) (by omega);show hU _ _ _ _ _ _ _ _ fun _=>h8;unfold RY;simp only[Ln,M1,NH];refine qi func178 call178 ntmps178 results178 ?_;intro t l a;obtain⟨e,f,h,i,j,k⟩:=Qc a;have F:=pc SX S5 S0 m q e f h i j k;repeat refine st ?_
 exact rI
def FF(env:b6)(n o:Addr)(z:env 5=some (cf n))(p:env 2=some (cf o))(c:aq)(d now:Int)(H:0<=now/\now<=1099511627776)(r:ch)(x:ek c r)(s:List UInt8)(v:Int):hU prog env 256 [1000,1001,1002,1003,1004,1005] n8 (fun g=>[.loc 1000 (g 1000) 0 0,Sg s,I v]) (RY c d now r) (RY c d now (zE now r s v).1) (fun _=>ck n o (zE now r s v).2):=by
 have f0:=tw env o p;have f1:=AE env c d now r (by have:=x.ZN;omega) s;have f2:=bh env [109,105,99,114,111,46,115,116,97,114,116] n;have w:=iH z;have q:IntKind.i64.wrap (1099511627776-now)=1099511627776-now:=aW (by omega) (by omega);unfold zE;by_cases y:v<0\/1099511627776-now<v
 ·rw[Lj y];show hU _ _ _ _ _ _ _ _ fun _=>fc (-1) (cf n);by_cases b:v<0
  ·refine qi func256 call256 ntmps256 results256 ?_;intro u m a;obtain⟨f,h,i,j,k,l⟩:=Qc a;have F:=pc SY SX S0 b w f h i j k l;repeat refine ef f2 ?_
   exact rI
  have e:1099511627776-now<v:=by omega
  refine qi func256 call256 ntmps256 results256 ?_;intro u m a;obtain⟨f,h,i,j,k,l⟩:=Qc a;have F:=dk SY SX S0 b e q w f h i j<|ai k l;repeat refine ef f2 ?_
  exact rI
 rw[Lf y];have b: ¬v<0:=by omega
 have e: ¬1099511627776-now<v:=by omega
 by_cases p:8<=(ds r.Z0 s).length
 ·rw[Lj p];have t:(8:Int)<=((ds r.Z0 s).length:Int):=by omega
  show hU _ _ _ _ _ _ _ _ fun _=>fc (-1) (cf o);generalize ds r.Z0 s=L at*;unfold RY k9 at f1;refine qi func256 call256 ntmps256 results256 ?_;intro u m a;obtain⟨f,h,i,j,k,l⟩:=Qc a;have F:=dk SY SX S0 b e q t f h i j<|ai k l;repeat refine st ?_
  refine iL L6 f1 ?_;repeat refine ef f0 ?_
  exact rI
 rw[Lf p];have t: ¬(8:Int)<=((ds r.Z0 s).length:Int):=by omega
 have D:cI ((ds r.Z0 s).length+1) 24:=aC (by omega) (by omega);have E:IntKind.i64.wrap (now+v)=now+v:=aW (by omega) (by omega);have A:=Eu (s,now+v) (ds r.Z0 s) (x.Z0.without s).ZZ rH (by omega);have B:bN ((ds r.Z0 s++[(s,now+v)]).map ov)=(ds r.Z0 s).map cR++[[Sg s,I (now+v)]]:=by rw[Aa,Ln];rfl
 have C:=Aa (rn (s,now+v) (ds r.Z0 s));show hU _ _ _ _ _ _ _ _ fun _=>h8;generalize rn (s,now+v) (ds r.Z0 s)=G at*;generalize ds r.Z0 s=L at*;unfold RY k9 at f1;refine qi func256 call256 ntmps256 results256 ?_;intro u m a;obtain⟨f,h,i,j,k,l⟩:=Qc a;have F:=dk SY SX S0 b e q t D E f h<|hH i j k l;repeat refine st ?_
 refine iL L6 f1 ?_;repeat refine st ?_
 refine wv 1003 rfl (row:=⟨2,L.map cR++[[Sg s,I (now+v)]],85,true⟩) (by simp only[go_sem]<;>exact iR) (by simp only[go_sem]<;>exact iR) (by simp only[go_sem]<;>exact iR) A B.symm rfl (MZ 1) (by simp only[go_sem];exact iR) ?_;rw[C];repeat refine st ?_
 exact rI
def Kr(env:b6)(I o p:Addr)(A:fq env I p)(J:env 5=some (cf o))(c:aq)(Q:c.Z9.length<=4000)(E:c.vars.length<=1000000)(d now:Int)(R:aL d=true)(T:0<=now/\now<=1099511627776)(r:ch)(t:ek c r)(S:r.act.length<=1000000)(a:jn)(m:gC c.vars.length c.Z9.length a=true):
 hU prog env 218 [1000,1001,1002,1003,1004,1005] n8 (fun g=>[.loc 1000 (g 1000) 0 0, .agg (az a)]) (RY c d now r) (RY c d now (Qh c d now r a).1) (fun _=>ck o p (Qh c d now r a).2):=by
 unfold Qh;by_cases y:a.kind=5
 ·rw[Lj y];have f1:=AE env c d now r (by have:=t.ZN;omega) a.name;show hU _ _ _ _ _ _ _ _ fun _=>h8;generalize ds r.Z0 a.name=L at*;have n:(a.kind==5)=true:=by simp[y]
  unfold RY k9 at f1;refine qi func218 call218 ntmps218 results218 ?_;intro w l b;obtain⟨e,f,h,i,j,k⟩:=Qc b;have F:=dk S4 SY SX S0 eY n e f h i j k;repeat refine st ?_
  refine iL L6 f1 ?_;repeat refine st ?_
  exact rI
 rw[Lf y]
 have q:bn a.code c.vars.length c.Z9.length=true:=by
  unfold gC at m;repeat' split at m
  all_goals (first|(exact absurd ‹a.kind=5› y)|(simp only[Li]at m;exact m.2)|cases m)
 have f1:=BZ env c Q d now r S;have f2:=G7 env I o p A J (Rr c d r) (DV t R) (by show r.vars.length<=_;rw[t.len];exact E) a.code (by rw[show (Rr c d r).act.length=c.Z9.length from o8 c r.act r.vars d,show (Rr c d r).vars.length=c.vars.length from t.len];exact q);have V:(Rr c d r).vars=r.vars:=rfl;generalize (Rr c d r)=W at*;have n:(a.kind==5)=false:=by simp[y]
 unfold RM at f1 f2;unfold u6 at f2;rw[V]at f2;cases N:kO W a.code with
 | none=>
   have f3:=iO env [109,105,99,114,111,46,100,111] (-1) (cf o);rw[N]at f2;unfold j7 at f2;show hU _ _ _ _ _ _ _ _ fun _=>fc (-1) (fc (-1) (cf o));simp only;unfold RY k9 at f1;refine qi func218 call218 ntmps218 results218 ?_;intro w l b;obtain⟨e,f,h,i,j,k⟩:=Qc b;have F:=dk S4 SY SX S0 eY n e f h i j k;repeat refine st ?_
   refine iL L6 f1 ?_;repeat refine st ?_
   refine iL [(1002,1002)] f2 ?_;repeat refine ef f3 ?_
   exact rI
 | some v=>
   rw[N]at f2;unfold j7 at f2;simp only;have O:=vX env o p A.e8 c d now r a.name v;have P:=FF env o p J A.e8 c d now T r t a.name v;have r2:=tw env p A.e8;by_cases z:a.kind=1
   ·rw[Lj z];have u:(a.kind==1)=true:=by simp[z]
    obtain⟨G,U⟩:0<=a.n/\a.n<c.vars.length:=by
     unfold gC at m;rw[Lj z]at m;simp only[Li,Lt]at m;exact m.1.1
    have K:=t.len;have s:a.n< (r.vars.length:Int):=by omega
    obtain⟨x,Y⟩: ∃x,r.vars[a.n.toNat]? =some x:=⟨r.vars[a.n.toNat]'(by omega),Lc _⟩;show hU _ _ _ _ _ _ _ _ fun _=>h8;unfold RY k9 at f1;unfold RY;simp only[O7];refine qi func218 call218 ntmps218 results218 ?_;intro w l b;obtain⟨e,f,h,i,j,k⟩:=Qc b;have F:=dk S4 S3 SX S0 eY n u s G Y e<|g7 f h i j k;repeat refine st ?_
    refine iL L6 f1 ?_;repeat refine st ?_
    refine iL [(1002,1002)] f2 ?_;repeat refine st ?_
    exact rI
   rw[Lf z];have u:(a.kind==1)=false:=by simp[z]
   by_cases B:a.kind=2
   ·rw[Lj B];have s:(a.kind==2)=true:=by simp[B]
    generalize gb r a.name v=X at*;unfold RY k9 at f1 O;refine qi func218 call218 ntmps218 results218 ?_;intro w l b;obtain⟨e,f,h,i,j,k⟩:=Qc b;have F:=dk S4 SY SX S0 eY n u s e f h<|fI i j k;repeat refine st ?_
    refine iL L6 f1 ?_;repeat refine st ?_
    refine iL [(1002,1002)] f2 ?_;repeat refine st ?_
    refine iL L6 O ?_;repeat refine st ?_
    exact rI
   rw[Lf B];have s:(a.kind==2)=false:=by simp[B]
   by_cases C:a.kind=4
   ·rw[Lj C];have D:(a.kind==4)=true:=by simp[C]
    generalize zE now r a.name v=X at*;unfold RY k9 at f1 P;refine qi func218 call218 ntmps218 results218 ?_;intro w l b;obtain⟨e,f,h,i,j,k⟩:=Qc b;have F:=dk S4 SY SX S0 eY n u s D e f<|hH h i j k;repeat refine st ?_
    refine iL L6 f1 ?_;repeat refine st ?_
    refine iL [(1002,1002)] f2 ?_;repeat refine st ?_
    refine iL L6 P ?_;repeat refine st ?_
    exact rI
   rw[Lf C];have D:(a.kind==4)=false:=by simp[C]
   unfold Iw;by_cases M:256<=r.outs.length
   ·rw[Lj M];have H:(256:Int)<=(r.outs.length:Int):=by omega
    show hU _ _ _ _ _ _ _ _ fun _=>fc (-1) (cf p);unfold RY k9 at f1;refine qi func218 call218 ntmps218 results218 ?_;intro w l b;obtain⟨e,f,h,i,j,k⟩:=Qc b;have F:=dk S4 SY SX S0 eY n u s D H e<|g7 f h i j k;repeat refine st ?_
    refine iL L6 f1 ?_;repeat refine st ?_
    refine iL [(1002,1002)] f2 ?_;repeat refine ef r2 ?_
    exact rI
   rw[Lf M];have H: ¬(256:Int)<=(r.outs.length:Int):=by omega
   have Z:cI (r.outs.length+1) 8:=aC (by omega) (by omega);show hU _ _ _ _ _ _ _ _ fun _=>h8;unfold RY k9 at f1;unfold RY;simp only[Ln,M1,NH];refine qi func218 call218 ntmps218 results218 ?_;intro w l b;obtain⟨e,f,h,i,j,k⟩:=Qc b;have F:=dk S4 S3 SX S0 eY n u s D H Z<|ip e f h i j k;repeat refine st ?_
   refine iL L6 f1 ?_;repeat refine st ?_
   refine iL [(1002,1002)] f2 ?_;repeat refine st ?_
   exact rI
structure x6(env:b6)(a1 a2 a8:Addr)(c:aq)(d now:Int):Prop where
 he:fq env a1 a8
 h2:env 5=some (cf a2)
 h:b8 c
 hs:g6 c
 hd:aL d=true
 hn:0<=now/\now<=1099511627776
def BV{c:aq}{d now:Int}{r:ch}{l:List jn}{j:Nat}{a:jn}(e:l[j]? =some a):lE c d now r (l.drop j)=match Qh c d now r a with
 |(b,none)=>lE c d now b (l.drop (j+1))
 |x=>x:=by
 rw[ar e]
 conv=>lhs;unfold lE
 rcases Qh c d now r a with⟨b,_|_⟩<;>rfl
def yP(env:b6)(P B C:Addr)(c:aq)(d now:Int)(E:x6 env P B C c d now)(r:ch)(y:ek c r)(H:r.act.length<=1000000)(l:List jn)(X:l.length<=1000)(u: ∀a∈l,gC c.vars.length c.Z9.length a=true):
 hU prog env 177 [1000,1001,1002,1003,1004,1005] n8 (fun g=>[.loc 1000 (g 1000) 0 0, .seq 4 (l.map az)]) (RY c d now r) (RY c d now (lE c d now r l).1) (fun _=>ck B C (lE c d now r l).2):=by
 have R:=E.h.Z6;have V:=E.hs.vars;have G:=fun(r:ch) y H (a:jn) u=>Kr env P B C E.he E.h2 c (by omega) (by omega) d now E.hd E.hn r y H a u;have J:=fun(r:ch)(y:ek c r)(a:jn) u=>JX E.hd E.hn y (a:=a) u;refine qi func177 call177 ntmps177 results177 ?_;intro T U w;obtain⟨m,n,o,p,q,s⟩:=Qc w;have F:=pf SY SX S0 m n o p q s;repeat refine st ?_
 refine lp (D:=Nat×ch) (fun x f=>[(0, .loc 1000 (f 1000) 0 0),(8, .seq 4 (l.map az)),(9,I l.length),(10,I x.1)]) (fun x f=>RY c d now x.2 f) (fun x f e=>(x.1<=l.length/\lE c d now r l=lE c d now x.2 (l.drop x.1)/\ek c x.2/\x.2.act=r.act)/\(f 1000=T 1000/\f 1002=T 1002)/\e 1000=false/\e 1001=false/\e 1002=false/\e 1003=false/\e 1004=false/\e 1005=false) (fun x=>l.length-x.1) (0,r) ⟨⟨Lx _,rfl,y,rfl⟩,by simp only[go_sem,Ls],by simp only[go_sem,m,n,o,p,q,s,Ls]⟩ ?_;try clear m n o p q s
 rintro⟨j,M⟩ ws Z ⟨⟨W,b,t,h⟩,⟨N,O⟩,m,n,o,p,q,s⟩;simp only at W b t h;by_cases i:j<l.length
 ·obtain⟨a,z⟩:=gE i;have v:=u a (Lh z);have f0:=G M t (by rw[h];exact H) a v;obtain⟨K,L⟩:=J M t a v;have A:=h9 i;have S:=aD i (by omega);rw[BV z]at b;rcases Q:Qh c d now M a with⟨Y,_|⟨k,ps⟩⟩
  ·rw[Q]at b f0 K L;simp only at b K L;unfold ck RY k9 at f0;simp only at f0;unfold az at f0;have F:=dk S4 SY SX S0 z A S m n o p<|ai q s;repeat refine st ?_
   refine iL L6 f0 ?_;repeat refine st ?_
   refine⟨(j+1,Y),⟨⟨i,b,K,L.act.trans h⟩,?_,?_⟩,?_,?_,?_⟩
   ·simp only[go_sem,N,O,Ls]
   ·simp only[go_sem,m,n,o,p,q,s,Ls]
   ·exact qe
   ·exact qe
   simp only;omega
  rw[Q]at b f0;simp only at b;rw[b];unfold ck RY k9 at f0;unfold az at f0;simp only at f0;show fk _ _ _ _ _ _;unfold ck;simp only;have F:=dk S4 SY SX S0 z A S N O m n<|hH o p q s;repeat refine st ?_
  refine iL L6 f0 ?_;repeat refine st ?_
  exact rI
 obtain rfl:j=l.length:=by omega
 have A:=nl l.length;rw[Mu]at b;rw[b];unfold lE;show fk _ _ _ _ _ _;unfold ck;simp only;have F:=dk SY SX S0 A N O m n o p q s;repeat refine st ?_
 exact rI
def GY(n:Nat)(act:List Int)(j:Nat)(a:j<n):(((List.range j).map fun k:Nat=>[B (act.contains (k:Int))])++List.replicate (n-j) [B false]).set j [B (act.contains (j:Int))]=((List.range (j+1)).map fun k:Nat=>[B (act.contains (k:Int))])++List.replicate (n-(j+1)) [B false]:=by
 rw[List.set_append_right _ _ (by simp)];simp only[ME,OT,Ol];rw[show n-j=(n-(j+1))+1 by omega,List.replicate_succ,List.set_cons_zero,Nn,Ln,M4];rfl
def r6(env:b6)(c:aq)(y:c.Z9.length<=4000)(x:pb)(o:x.1.length<=1000000)(d:Int):b7 prog env 222 [.agg (aA c), .agg (k0 x),I d] (.agg (dm (GS c x.1 x.2.1 d))):=by
 have q: ¬(16777216:Int)< (c.Z9.length:Int):=by omega
 have s: ¬(c.Z9.length:Int)<0:=by omega
 have t: ¬(281474976710656:Int)< (c.Z9.length:Int):=by omega
 have r: ¬(281474976710656:Int)<1*(c.Z9.length:Int):=by omega
 unfold dm;rw[xb];show b7 _ _ _ _ (.agg [b0 x.2.1,I d, .seq 1 (kb c.Z9.length x.1)]);unfold kb;unfold k0;have i: ∀j,j<=c.Z9.length->(((List.range j).map fun k:Nat=>[B (x.1.contains (k:Int))])++List.replicate (c.Z9.length-j) [B false]).length=c.Z9.length:=fun j n=>by simp;omega
 refine qf func222 call222 ntmps222 results222 ?_;have F:=g7 SR q r s t;repeat refine st ?_
 refine aG (D:=Nat) (fun j e=>[(3, .loc 3 (e 3) 0 0),(4, .loc 4 (e 4) 0 0),(6, .loc 6 (e 6) 0 0),(7, .loc 7 (e 7) 0 0),(8,I j)])
  (fun j e=>[(3,⟨5,[aA c],26,false⟩),(4,⟨5,[[b0 x.1,b0 x.2.1, .seq 2 (x.2.2.1.map eg), .seq 2 (x.2.2.2.1.map cR),B x.2.2.2.2]],31,false⟩),(6,⟨3,[[ct,I 0,ct]],110,false⟩),(7,⟨3,[[b0 x.2.1,I d, .row 15 (e 15)]],110,false⟩),(15,⟨1,((List.range j).map fun k:Nat=>[B (x.1.contains (k:Int))])++List.replicate (c.Z9.length-j) [B false],4,true⟩)])
  (fun j _ b=>j<=c.Z9.length/\b 15=false/\b 6=false) (fun j=>c.Z9.length-j) 0 ?_ ?_ ?_ ?_
 ·exact⟨Lx _,by simp only[go_sem],by simp only[go_sem]⟩
 ·exact qe
 ·have F:=fI SR List.range_zero OJ
  (simp only[go_sem,F])
  try rfl
 rintro j z b ⟨n,g,h⟩;have f:=i j n;by_cases a:j<c.Z9.length
 ·have m:=h9 a;have u:=aD a (by omega);have f0:=cF env x.1 j o;have l:=GY c.Z9.length x.1 j a
  have ql: ∃v,(((List.range j).map fun k:Nat=>[B (x.1.contains (k:Int))])++List.replicate (c.Z9.length-j) [B false])[j]? =some [v]:=by
   rw[MO (by simp),OS];simp only[ME,OT,Ol];rw[Lj (by omega)];exact⟨_,rfl⟩
  obtain⟨v,p⟩:=ql;generalize w:(((List.range j).map fun k:Nat=>[B (x.1.contains (k:Int))])++List.replicate (c.Z9.length-j) [B false])=G at*;have F:=ns SR m u f l p g h;repeat refine ef f0 ?_
  refine⟨j+1,⟨a,by simp only[go_sem,g],by simp only[go_sem,h]⟩,?_,?_,by omega⟩
  ·exact qe
  have F:=aA.eq_1;exact qe
 obtain rfl:j=c.Z9.length:=by omega
 have m:=nl c.Z9.length;rw[Ol,List.replicate_zero,Mw];have F:=hH SR m g h;exact dT
end
end Go.Proofs.YtknkhdgfhbogdaaGreatDoor
