/- Calls of the library's that put an element of a row of the call's own into another one. No program is named here. -/
import Derived.Test.YtfcdkaolcdglmaaGreatDoorP23
set_option maxRecDepth 100000
set_option maxHeartbeats 16000000
set_option linter.unusedSimpArgs false
set_option linter.defProp false
namespace Go.Proofs.YtfcdkaolcdglmaaGreatDoor
open Go.Proofs.Tryz
open Go.RowKit
section
def JD{l:List Int}(h:l.Pairwise (· < ·)){i:Int}(hi:l.contains i=false):(bi (l++[i])).Pairwise (· < ·)/\ ∀x,x∈bi (l++[i])↔x∈l\/x=i:=by
 have j:(l++[i]).Nodup:=QJ.2 ⟨h.imp fun h=>by omega,by simp,fun a f b g e=>by
  rw[O2.1 g]at e;have:l.contains i=true:=OQ.2 (e ▸ f);rw[hi]at this
  cases this⟩
 obtain⟨c,d⟩:=mg j;exact⟨c,fun x=>by rw[d];simp⟩
structure Ws(c:aq)(r:dg)(f l:List Int)(r1:dg)(f1:List Int):Prop where
 ZY:r1.act.Pairwise (· < ·)
 mem: ∀x,x∈r1.act↔x∈r.act\/x∈l
 fin: ∀x,x∈f1↔x∈f\/(x∈l/\x∉r.act/\eP c x=3)
 mm:r1.mem=r.mem
 over:r1.over=r.over
 len:f1.length<=f.length+l.length
def jO{c:aq}(v:Uh c){d a:Int}(y:aL d=true)(A:0<=a/\a<=1099511627776): ∀ {l:List Int}{r:dg}{f:List Int},fy c r->r.act.Pairwise (· < ·)->fy c (bA c d a r f l).1.1/\((bA c d a r f l).1.2=none->Ws c r f l (bA c d a r f l).1.1 (bA c d a r f l).2)
 |[],r,f,h,t=>⟨h,fun _=>⟨t,fun x=>by simp[bA],fun x=>by simp[bA],rfl,rfl,by simp[bA]⟩⟩
 | i::l,r,f,h,t=>by
   unfold bA;split
   ·rename_i n;obtain⟨s,o⟩:=jO v (l:=l) (f:=f) y A h t;refine⟨s,fun p=> ?_⟩;have C:i∈r.act:=OQ.1 n;have k:=o p;refine⟨k.ZY,fun x=> ?_,fun x=> ?_,k.mm,k.over,O3 k.len (by simp)⟩
    ·rw[k.mem,O7];constructor
     ·rintro(q|q)
      ·exact .inl q
      exact .inr (.inr q)
     rintro(q|rfl|q)
     ·exact .inl q
     ·exact .inl C
     exact .inr q
    rw[k.fin,O7];constructor
    ·rintro(q|⟨j,g⟩)
     ·exact .inl q
     exact .inr ⟨.inr j,g⟩
    rintro(q|⟨rfl|j,g,m⟩)
    ·exact .inl q
    ·exact absurd C g
    exact .inr ⟨j,g,m⟩
   rename_i n;have n:r.act.contains i=false:=by simpa using n
   obtain⟨K,E⟩:=JD t n;obtain⟨s,o⟩:=mV (r:={ r with act:=bi (r.act++[i]) }) y A { h with } (v.ZW i);split
   ·rename_i B e;rw[e]at s o;have w:B.act=bi (r.act++[i]):=o.act;obtain⟨I,J⟩:=jO v (l:=l) (f:=if eP c i=3 then f++[i] else f) y A s (by rw[w];exact K);refine⟨I,fun p=> ?_⟩;have k:=J p
    have z:i∉r.act:=fun b=>by
     have:=OQ.2 b;rw[n]at this;cases this
    refine⟨k.ZY,fun x=> ?_,fun x=> ?_,k.mm.trans o.mem,k.over.trans o.over,?_⟩
    ·rw[k.mem,w,E,O7];constructor
     ·rintro((q|q)|q)
      ·exact .inl q
      ·exact .inr (.inl q)
      exact .inr (.inr q)
     rintro(q|q|q)
     ·exact .inl (.inl q)
     ·exact .inl (.inr q)
     exact .inr q
    ·rw[k.fin,w]
     have G:x∈(if eP c i=3 then f++[i] else f)↔x∈f\/(x=i/\eP c i=3):=by
      split
      ·rename_i u;simp[u]
      rename_i u;simp[u]
     rw[G,E,O7];constructor
     ·rintro((q|⟨rfl,q⟩)|⟨j,g,m⟩)
      ·exact .inl q
      ·exact .inr ⟨.inl rfl,z,q⟩
      exact .inr ⟨.inr j,fun b=>g (.inl b),m⟩
     rintro(q|⟨rfl|j,g,m⟩)
     ·exact .inl (.inl q)
     ·exact .inl (.inr ⟨rfl,m⟩)
     by_cases e:x=i
     ·subst e;exact .inl (.inr ⟨rfl,m⟩)
     exact .inr ⟨j,fun b=>b.elim g e,m⟩
    refine O3 k.len ?_;split
    ·simp only[ON,OU,Q0];omega
    simp only[OU];omega
   rename_i x H;refine⟨s,fun p=>absurd p ?_⟩;intro b;rcases D:tI c d a { r with act:=bi (r.act++[i]) } (V2 c i) with⟨B,L⟩;rw[D]at b;simp only at b;subst b;exact H B D
def y9{c:aq} : ∀ {l:List Int}{r:dg}{o:List Int},fy c r->fy c (fX c r o l).1.1/\(fX c r o l).1.1.act=r.act/\(fX c r o l).1.1.mem=r.mem/\((fX c r o l).1.2=none->(fX c r o l).1.1.over=(r.over||l.any fun i=>decide (aQ c i<0))/\(fX c r o l).2=o++(((l.filter fun i=> !decide (aQ c i<0)).map fun i=>aQ c (aQ c i)).filter fun g=>decide (0<=g)&&eP c g==2))
 |[],r,o,h=>⟨h,rfl,rfl,fun _=>by simp[fX]⟩
 | i::l,r,o,h=>by
   unfold fX;split
   ·rename_i f;obtain⟨d,a,n,p⟩:=y9 (l:=l) (r:={ r with over:=true }) (o:=o) { h with };refine⟨d,a,n,fun b=> ?_⟩;obtain⟨q,s⟩:=p b;rw[q,s];simp[f]
   rename_i f;obtain⟨d,a⟩:=uB h (rY c (aQ c i)) (show aL 0=true by rfl);split
   ·rename_i j e;rw[e]at d a;obtain⟨n,p,y,z⟩:=y9 (l:=l) (r:=j) (o:=if 0<=aQ c (aQ c i)/\eP c (aQ c (aQ c i))=2 then o++[aQ c (aQ c i)] else o) d;refine⟨n,p.trans a.act,y.trans a.mem,fun b=> ?_⟩;obtain⟨q,s⟩:=z b;have m:j.over=r.over:=a.over;rw[q,s,m];refine⟨by simp[f],?_⟩;have t:(i::l).filter (fun i=> !decide (aQ c i<0))=i::l.filter (fun i=> !decide (aQ c i<0)):=List.filter_cons_of_pos (by simp[f]);rw[t,PE];split
    ·rename_i u;rw[List.filter_cons_of_pos (by simp[u]),O1];rfl
    rename_i u;rw[List.filter_cons_of_neg (by simp;omega)]
   rename_i x w;refine⟨d,a.act,a.mem,fun b=>absurd b ?_⟩;intro k;rcases v:lP r (rY c (aQ c i)) 0 with⟨j,t⟩;rw[v]at k;simp only at k;subst k;exact w j v
def yZ{c:aq} : ∀ {l:List Int}{r:dg},fy c r->fy c (iq c r l).1/\sw r (iq c r l).1
 |[],r,h=>⟨h, .rfl⟩
 | g::l,r,h=>by
   unfold iq;split
   ·obtain⟨a,b⟩:=uB h (rY c g) (show aL 0=true by rfl);split
    ·rename_i i e;rw[e]at a b;obtain⟨d,f⟩:=yZ (l:=l) a;exact⟨d,b.trans f⟩
    exact⟨a,b⟩
   exact yZ h
structure VJ(c:aq)(r:dg)(l:List Int)(r1:dg):Prop where
 ZY:r1.act.Pairwise (· < ·)
 mem: ∀x,x∈r1.act↔x∈r.act\/x∈l
 mm:r1.mem=r.mem
 over:r1.over=(r.over||l.any fun x=> !r.act.contains x&&eP c x==3&&decide (aQ c x<0))
def CE{c:aq}(H:Uh c){d a:Int}(I:aL d=true)(J:0<=a/\a<=1099511627776){l:List Int}{r:dg}(h:fy c r)(K:r.act.Pairwise (· < ·)):fy c (ip c d a r l).1/\((ip c d a r l).2=none->VJ c r l (ip c d a r l).1):=by
 obtain⟨m,B⟩:=jO H (l:=l) (f:=[]) I J h K;unfold ip;split
 ·rename_i z f e;rw[e]at m B;have g:=B rfl;obtain⟨n,C,D,E⟩:=y9 (l:=f) (o:=[]) m;unfold DH;split
  ·rename_i p o s;rw[s]at n C D E;obtain⟨L,w⟩:=yZ (l:=zL (ca c o)) n;refine⟨L,fun k=> ?_⟩;obtain⟨v,_⟩:=E rfl;have A:(iq c p (zL (ca c o))).1.act=z.act:=w.act.trans C;refine⟨by rw[A];exact g.ZY,fun x=>by rw[A];exact g.mem x,w.mem.trans (D.trans g.mm),?_⟩;rw[w.over];have v:p.over=(z.over||f.any fun i=>decide (aQ c i<0)):=v;have u:z.over=r.over:=g.over;rw[v,u]
   congr 1
   rw[PC,P1,P1];constructor
   ·rintro⟨x,t,b⟩;rcases (g.fin x).1 t with q|⟨M,N,O⟩
    ·simp at q
    refine⟨x,M,?_⟩;rw[b,O];simp[N]
   rintro⟨x,t,b⟩;simp only[OJ,PT,P4]at b;refine⟨x,(g.fin x).2 (.inr ⟨t,fun j=> ?_,b.1.2⟩),b.2⟩;have:=OQ.2 j;rw[b.1.1]at this;cases this
  rename_i x y j s;rw[s]at n;refine⟨n,fun k=> ?_⟩;rcases x with⟨p,_|G⟩
  ·exact(j _ rfl).elim
  cases k
 rename_i x y j e;rw[e]at m;refine⟨m,fun k=> ?_⟩;rcases x with⟨p,_|G⟩
 ·exact(j _ rfl).elim
 cases k
end
section
def EO{c:aq}{k:Nat}{s:pc}(a:c.Z9[k]? =some s):aQ c k=s.parent:=by unfold aQ;rw[bO,a]
def Lo{c:aq}{k:Nat}{s:pc}(a:c.Z9[k]? =some s):LV c k=s.name:=by unfold LV;rw[bO,a]
def Ht{c:aq}{r:dg}{o l:List Int}{j:Nat}{i:Int}(hi:l[j]? =some i):fX c r o (l.drop j)=if aQ c i<0 then fX c { r with over:=true } o (l.drop (j+1))
 else match lP r (rY c (aQ c i)) 0 with
  |(a,none)=>fX c a (if 0<=aQ c (aQ c i)/\eP c (aQ c (aQ c i))=2 then o++[aQ c (aQ c i)] else o) (l.drop (j+1))
  |x=>(x,[]):=by
 rw[bV hi]
 conv=>lhs;unfold fX
 rcases lP r (rY c (aQ c i)) 0 with⟨a,_|_⟩<;>rfl
def Hs{c:aq}{r:dg}{l:List Int}{j:Nat}{g:Int}(hi:l[j]? =some g):iq c r (l.drop j)=if Dh c r.act g=true then(match lP r (rY c g) 0 with
 |(a,none)=>iq c a (l.drop (j+1))
 |x=>x)
 else iq c r (l.drop (j+1)):=by
 rw[bV hi]
 conv=>lhs;unfold iq
 rcases lP r (rY c g) 0 with⟨a,_|_⟩<;>rfl
def vx(r:dg)(s:List UInt8)(v:Int):(lP r s v).1.act=r.act:=by unfold lP;split<;>rfl
def tz{c:aq}(_h:Right c){l:List Int}{k:Nat}(a:k∈ca c l):k<c.Z9.length:=by
 unfold ca at a;split at a
 ·rename_i b;have:=(OY.1 a).2;have:=OP.1 b _ (OQ.1 this);exact ak.1 this
 simp at a
def LI{c:aq}{k:Nat}{s:pc}(a:c.Z9[k]? =some s):rY c k=[100,111,110,101,46]++s.name:=by unfold rY;rw[Lo a]
def BM{c:aq}(h:cD c){k:Nat}{s:pc}(a:c.Z9[k]? =some s):s.name.length<=32:=by
 have:=h.st k s a;unfold cG bT at this;simp only[OJ,OR]at this;exact this.1.1.1.1.1.1.1
def D9(env:b7)(a1 a2 a8:Addr)(c:aq)(d C:Int)(E:I' env a1 a2 a8 c d C)(r:dg)(hl:r.act.length<=100000)(hb:F' c r.act=true)(Z:List Int)(hF: ∀i∈Z,fe c i=true)(hFl:Z.length<=1000):
 g6 prog env 151 [1000,1001,1002,1003,1004,1005] qr (fun g=>[.loc 1000 (g 1000) 0 0, .seq 1 (Z.map aa)]) (RY c d C r) (RY c d C (DH c r Z).1) (fun _=>cj a2 a8 (DH c r Z).2):=by
 have hfew:=E.h.Z6;have P:=E.h.toRight.par;have hra:=fun(r:dg)(s:List UInt8)=>vw env a2 a8 E.he.e8 c d C r s 0;have fT:=bJ env c;have fS:=fun(o:List Int)(ho:o.length<=1000000)=>((fZ env c E.h.toRight o ho).lend (cA (fun _=>rfl) _)).seen;have fD:=fun(r:dg)(hl:r.act.length<=100000)(hb:F' c r.act=true)(g:Nat)(W:g<c.Z9.length)=>(IB env a1 a8 E.he c E.h E.hs r.act (by omega) hb g W).lend rfl;have hsl:=fun(o:List Int)(k:Nat)(hk:k∈ca c o)=>tz E.h.toRight hk;have hsf:=fun(o:List Int)=>gd E.h.toRight o;unfold aS at fT fS;unfold aH at fT fD;refine qi func151 call151 ntmps151 results151 ?_;intro vs esc V;obtain⟨m,n,q,v,w,y⟩:=UB V;have F:=y' WL WK WM m n q v w y;repeat refine st ?_
 refine am 5 5 3 1 ?_;refine lp (D:=Nat×dg×List Int) (fun x h=>[(0, .loc 1000 (h 1000) 0 0),(4,gc),(5, .row 5 (h 5)),(15, .seq 1 (Z.map aa)),(16,I Z.length),(17,I x.1)]) (fun x h=>(5,⟨1,x.2.2.map aa,3,true⟩)::RY c d C x.2.1 h) (fun x h b=>(x.1<=Z.length/\fX c r [] Z=fX c x.2.1 x.2.2 (Z.drop x.1)/\x.2.1.act=r.act/\x.2.2.length<=x.1)/\(h 1000=vs 1000/\h 1002=vs 1002)/\b 1000=false/\b 1001=false/\b 1002=false/\b 1003=false/\b 1004=false/\b 1005=false/\b 5=false) (fun x=>Z.length-x.1) (0,r,[]) ⟨⟨O6 _,rfl,rfl,OO _⟩,by simp only[go_sem,O8],by simp only[go_sem,m,n,q,v,w,y,O8]⟩ ?_;try clear m n q v w y
 rintro⟨j,R,o⟩ ws es ⟨⟨hj,a,e,hol⟩,⟨J,K⟩,m,n,q,v,w,y,M⟩;simp only at hj a e hol;by_cases l:j<Z.length
 ·obtain⟨i,B⟩:=gE l;have hi:=hF i (OM B);obtain⟨k,s,rfl,Q,_⟩:=fB hi;have hkl:=(OG.1 Q).1;have G:=mc l;have N:=aD l (by omega);have O:=mc hkl;have hps:=P k s Q;rw[Ht B,EO Q]at a;by_cases z:s.parent<0
  ·rw[OL z]at a;have F:=fb WI WN WL WK WM B Q G N O z<|vb m n q v w y M;repeat refine st ?_
   refine⟨(j+1,{ R with over:=true },o),⟨⟨l,a,e,by simp only;omega⟩,?_,?_⟩,?_,?_,?_⟩
   ·simp only[go_sem,J,K,O8]
   ·simp only[go_sem,m,n,q,v,w,y,M,O8]
   ·exact qe
   ·exact qe
   simp only;omega
  rw[OK z]at a;obtain⟨p,hp⟩: ∃p:Nat,s.parent=p:=⟨s.parent.toNat,by omega⟩;rw[hp]at a z hps;obtain⟨t,A⟩: ∃t,c.Z9[p]? =some t:=⟨c.Z9[p]'(by omega),OE (by omega)⟩;have q5:(p:Int)< (c.Z9.length:Int):=by omega
  have htp:=P p t A;have S:5+t.name.length<=9223372036854775807:=by have:=BM E.h A;omega
  have f0:=hra R (rY c p);have f:=vx R (rY c p) 0;rw[LI A]at f0 a f;rw[EO A]at a;rcases U:lP R ([100,111,110,101,46]++t.name) 0 with⟨H,_|⟨k,ps⟩⟩
  ·rw[U]at a f0 f;simp only at a f;unfold cj RY la at f0;simp only at f0;by_cases X:0<=t.parent
   ·obtain⟨g,W⟩: ∃g:Nat,t.parent=g:=⟨t.parent.toNat,by omega⟩;rw[W]at a htp;obtain⟨u,hu⟩: ∃t,c.Z9[g]? =some t:=⟨c.Z9[g]'(by omega),OE (by omega)⟩;have q6:(g:Int)< (c.Z9.length:Int):=by omega
    rw[sq hu]at a;cases T:u.kind==2 with
    | true=>
      rw[OL ⟨by omega,by simpa using T⟩]at a;have q7:ek (o.length+1) 8:=aG (by omega) (by omega);have q8:(o++[(g:Int)]).map aa=o.map aa++[[I g]]:=by rw[Oa];rfl
      have F:=fb WI WN WL WK WM B Q A hu hp W<|fb T G N O q5 q6 q7 S z m n<|ld q v w y M;repeat refine st ?_
      refine iL L6 f0 ?_;repeat refine st ?_
      refine⟨(j+1,H,o++[(g:Int)]),⟨⟨l,a,f.trans e,by simp only[ON,Pa];omega⟩,?_,?_⟩,?_,?_,?_⟩
      ·simp only[go_sem,J,K,O8]
      ·simp only[go_sem,m,n,q,v,w,y,M,O8]
      ·exact qe
      ·simp only[q8];exact qe
      simp only;omega
    | false=>
      rw[OK (fun hh=>by rw[hh.2]at T;cases T)]at a;have F:=fb WI WN WL WK WM B Q A hu hp W<|fb T G N O q5 q6 S z m n q<|mX v w y M;repeat refine st ?_
      refine iL L6 f0 ?_;repeat refine st ?_
      refine⟨(j+1,H,o),⟨⟨l,a,f.trans e,by simp only;omega⟩,?_,?_⟩,?_,?_,?_⟩
      ·simp only[go_sem,J,K,O8]
      ·simp only[go_sem,m,n,q,v,w,y,M,O8]
      ·exact qe
      ·exact qe
      simp only;omega
   rw[OK (fun hh=>X hh.1)]at a;have F:=fb WI WN WL WK WM B Q A hp X G<|fb N O q5 S z m n q v w y M;repeat refine st ?_
   refine iL L6 f0 ?_;repeat refine st ?_
   refine⟨(j+1,H,o),⟨⟨l,a,f.trans e,by simp only;omega⟩,?_,?_⟩,?_,?_,?_⟩
   ·simp only[go_sem,J,K,O8]
   ·simp only[go_sem,m,n,q,v,w,y,M,O8]
   ·exact qe
   ·exact qe
   simp only;omega
  rw[U]at a f0;simp only at a;unfold cj RY la at f0;simp only at f0;unfold DH;rw[a];show gu _ _ _ _ _ _;unfold cj;simp only;have F:=fb WI WN WL WK WM B Q A hp G N<|fb O q5 S J K z m n q v w<|ai y M;repeat refine st ?_
  refine iL L6 f0 ?_;repeat refine st ?_
  exact rI
 obtain rfl:j=Z.length:=by omega
 have G:=nl Z.length;rw[Q3]at a;rw[show fX c R o []=((R,none),o) from rfl]at a;unfold DH;rw[a];simp only;have f1:=fS o (by omega);have hlt2:=hsl o;have hlf:=hsf o;generalize ca c o=L at*;have F:=u4 WL WK WM G m n q v w y M;repeat refine g8 fT ?_
 refine lL f1 ?_;repeat refine st ?_
 refine lp (D:=Nat×dg) (fun x h=>[(0, .loc 1000 (h 1000) 0 0),(4,gc),(85, .seq 1 (L.map aB)),(86,I L.length),(87,I x.1)]) (fun x h=>RY c d C x.2 h) (fun x h b=>(x.1<=L.length/\iq c R (zL L)=iq c x.2 ((zL L).drop x.1)/\x.2.act=r.act)/\(h 1000=vs 1000/\h 1002=vs 1002)/\b 1000=false/\b 1001=false/\b 1002=false/\b 1003=false/\b 1004=false/\b 1005=false) (fun x=>L.length-x.1) (0,R) ⟨⟨O6 _,rfl,e⟩,by simp only[go_sem,J,K,O8],by simp only[go_sem,m,n,q,v,w,y,O8]⟩ ?_;try clear m n q v w y M a e J K
 rintro⟨j,H⟩ ws es ⟨⟨hj,a,e⟩,⟨J,K⟩,m,n,q,v,w,y⟩;simp only at hj a e;by_cases l:j<L.length
 ·obtain⟨g,B⟩:=gE l;have Y:=hlt2 g (OM B);obtain⟨t,A⟩: ∃t,c.Z9[g]? =some t:=⟨c.Z9[g]'(by omega),OE (by omega)⟩;have G:=mc l;have N:=aD l (by omega);have O:=mc Y;have S:5+t.name.length<=9223372036854775807:=by have:=BM E.h A;omega
  have f2:=fD H (by rw[e];exact hl) (by rw[e];exact hb) g Y;rw[Hs (CP B)]at a;cases hd:Dh c H.act g with
  | false=>
    rw[hd]at f2 a;simp only[On,P8]at a;have F:=fb WI WJ WL WK WM B A G N O m<|ld n q v w y;repeat refine st ?_
    refine lL f2 ?_;repeat refine st ?_
    refine⟨(j+1,H),⟨⟨l,a,e⟩,?_,?_⟩,?_,?_,?_⟩
    ·simp only[go_sem,J,K,O8]
    ·simp only[go_sem,m,n,q,v,w,y,O8]
    ·exact qe
    ·exact qe
    simp only;omega
  | true=>
    rw[hd]at f2 a;simp only[PW]at a;have f0:=hra H (rY c g);have f:=vx H (rY c g) 0;rw[LI A]at f0 a f;rcases U:lP H ([100,111,110,101,46]++t.name) 0 with⟨r3,_|⟨k,ps⟩⟩
    ·rw[U]at a f0 f;simp only at a f;unfold cj RY la at f0;simp only at f0;have F:=fb WI WJ WL WK WM B A G N O S<|pf m n q v w y;repeat refine st ?_
     refine lL f2 ?_;repeat refine st ?_
     refine iL L6 f0 ?_;repeat refine st ?_
     refine⟨(j+1,r3),⟨⟨l,a,f.trans e⟩,?_,?_⟩,?_,?_,?_⟩
     ·simp only[go_sem,J,K,O8]
     ·simp only[go_sem,m,n,q,v,w,y,O8]
     ·exact qe
     ·exact qe
     simp only;omega
    rw[U]at a f0;simp only at a;unfold cj RY la at f0;simp only at f0;rw[a];show gu _ _ _ _ _ _;unfold cj;simp only;have F:=fb WI WJ WL WK WM B A G N O S<|L7 J K m n q v w y;repeat refine st ?_
    refine lL f2 ?_;repeat refine st ?_
    refine iL L6 f0 ?_;repeat refine st ?_
    exact rI
 obtain rfl:j=L.length:=by omega
 have G:=nl L.length;rw[Pp (by rw[cQ];omega)]at a;rw[show iq c H []=(H,none) from rfl]at a;rw[a];show gu _ _ _ _ _ _;unfold cj;simp only;have F:=fb WL WK WM G J K m n q v w y;repeat refine st ?_
 exact rI
def uc{c:aq}(g:Uh c){d a:Int}(j:aL d=true)(k:0<=a/\a<=1099511627776): ∀ {l:List Int}{r:dg}{f:List Int},fy c r->(bA c d a r f l).1.1.act.length<=r.act.length+l.length
 |[],r,f,h=>OO _
 | i::l,r,f,h=>by
   unfold bA;split
   ·have:=uc g (l:=l) (f:=f) j k h;simp only[OU];omega
   obtain⟨m,n⟩:=mV (r:={ r with act:=bi (r.act++[i]) }) j k { h with } (g.ZW i);have b:=n.act;split
   ·rename_i o e;rw[e]at m b;have:=uc g (l:=l) (f:=if eP c i=3 then f++[i] else f) j k m;have b:o.act=bi (r.act++[i]):=b;rw[b,pV,ON]at this;simp only[OU,Q0]at this |-;omega
   rename_i x p;simp only;rw[b];simp only[pV,ON,OU,Q0];omega
def wz(env:b7)(p n o:Addr)(c:aq)(d a:Int)(E:I' env p n o c d a)(r:dg)(C:fy c r)(h:r.act.Pairwise (· < ·))(B:r.act.length<=1000)(G:List Nat)(J: ∀i∈G,i<c.Z9.length)(A:G.length<=1000)(e:(bA c d a r [] (zL G)).1.2=none->F' c (bA c d a r [] (zL G)).1.1.act=true):
 g6 prog env 111 [1000,1001,1002,1003,1004,1005] qr (fun g=>[.loc 1000 (g 1000) 0 0, .seq 1 (G.map aB)]) (RY c d a r) (RY c d a (ip c d a r (zL G)).1) (fun _=>cj n o (ip c d a r (zL G)).2):=by
 have I:=cc E.h;have f0:=KS env p n o c d a E r C B G J A;have D:=uc I (l:=zL G) (f:=[]) E.hd E.hn C;obtain⟨_,H⟩:=jO I (l:=zL G) (f:=[]) E.hd E.hn C h;have j:=fun(r:dg) B O (F:List Int) N z=>D9 env p n o c d a E r B O F N z;rw[cQ]at D;unfold ip;rcases K:bA c d a r [] (zL G) with⟨⟨M,_|⟨k,S⟩⟩,f⟩
 ·rw[K]at f0 e D H;simp only at e D H;have L:=H trivial;have m:=L.len;rw[cQ]at m
  have f1:=j M (by omega) (e trivial) f (fun i P=>by
   rcases (L.fin i).1 P with q|⟨q,_⟩
   ·simp at q
   obtain⟨k,Q,rfl⟩:=OW.1 q
   exact ak.2 (J k Q)) (by simp only[Q0]at m;omega)
  simp only;generalize DH c M f=Y at*;unfold Dn RY la at f0;unfold RY la at f1;simp only at f0;refine qi func111 call111 ntmps111 results111 ?_;intro R y b;obtain⟨s,t,u,v,w,x⟩:=UB b;have F:=zs WL WK WM ei s t u v w x;repeat refine st ?_
  refine iL L6 f0 ?_;repeat refine st ?_
  refine iL L6 f1 ?_;repeat refine st ?_
  exact rI
 rw[K]at f0;simp only;unfold Dn cj RY la at f0;simp only at f0;show g6 _ _ _ _ _ _ _ _ fun _=>dj _ _;refine qi func111 call111 ntmps111 results111 ?_;intro R y b;obtain⟨s,t,u,v,w,x⟩:=UB b;have F:=y' WL WK WM s t u v w x;repeat refine st ?_
 refine iL L6 f0 ?_;repeat refine st ?_
 exact rI
end
section
def Wh(P:Program)(env:b7)(nt:Nat)(c:Code)(Q:Exit->St->Prop):Nat->St->Prop
 |0,_=>False
 |n+1,s=>gu P env nt c (bR (Wh P env nt c Q n) Q) s
section
variable {P:Program} {env:b7} {nt:Nat} {c:Code} {Q:Exit->St->Prop} {s:St}
end
end
section
def ya(c:aq): ∀(l:List Int)(r:dg)(o:List Int),xS (fX c r o l).1.2
 |[],r,o=>fun x h=>by cases h
 | i::l,r,o=>by
   unfold fX;split
   ·exact ya c l _ _
   split
   ·exact ya c l _ _
   exact uC _ _ _
def y8(c:aq): ∀(l:List Int)(r:dg),xS (iq c r l).2
 |[],r=>fun x h=>by cases h
 | i::l,r=>by
   unfold iq;split
   ·split
    ·exact y8 c l _
    exact uC _ _ _
   exact y8 c l _
def yf(c:aq)(d a:Int): ∀(l:List Int)(r:dg)(f:List Int),xS (bA c d a r f l).1.2
 |[],r,f=>fun x h=>by cases h
 | i::l,r,f=>by
   unfold bA;split
   ·exact yf c d a l _ _
   split
   ·exact yf c d a l _ _
   exact zT _ _ _ _ _
def ub(c:aq)(d a:Int)(r:dg)(l:List Int):xS (ip c d a r l).2:=by
 have b:=yf c d a l r [];unfold ip;split
 ·rename_i j f e;unfold DH;have g:=ya c f j [];split
  ·exact y8 _ _ _
  rename_i x y i h;rw[h]at g;exact g
 rename_i x y i e;rw[e]at b;exact b
def wy{c:aq}{d a:Int}{r:dg}{l:List Int}{e:Nat×List Int}(h:(bA c d a r [] l).1.2=some e):ip c d a r l=(bA c d a r [] l).1:=by
 unfold ip;rcases b:bA c d a r [] l with⟨⟨g,_|x⟩,f⟩
 ·rw[b]at h;cases h
 rfl
end
section
def ia{P:Program}(w:World)(n z A d:TypeId)(p:TypeInfo)(hi:P.info? d=some p)(g o c f:Nat)(a:Addr)(e m:Nat)(b:Array Value)(t:TypeId)(cs:List Value)(k:Nat)(y:P.underlying n=some (.slice d))
 (r:w.heap[g]? =some (.cells b t (0,0)))(s:Nat.min e c=k)(x:cs.length=k*p.size)(i: ∀j v,cs[j]? =some v->w.cell? (a.add j)=some v)(h:o+cs.length<=b.size)(q: ∀v∈cs,v.oneCell'=true):
 (Builtin.copy_ #[n,z] A #[.slice (some ⟨g,o,none⟩) c f, .slice (some a) e m]).run P w= .ok (goInt k) (w.setRow g (b.toList.take o++cs++b.toList.drop (o+cs.length)).toArray):=by
 have u:=run_loadCells_list (P:=P) w a cs i;have l:=TH P g o t cs 0 b w r (by simpa using h) q;simp only[QT]at l;simp[Builtin.copy_,OV y,Builtin.lenOf,Builtin.firstCells,sizeOf,typeInfo,hi,s, <-x,u,l]
structure V'(P:Program)(f:FuncId)(e:TypeId)(sz:Nat):Prop where
 enter: ∀(args:Array Value)(w:World),(callFunc f args).run P w= .ok (.enter f args) w
 calls: ∀(w:World)(base i n:Nat)(v u:Value)(xs ys:List Value),base<=w.heap.size->w.ownsRow base e sz v n xs->w.ownsRow base e sz u 1 ys->(∀g,v.ownBlock=some g->u.ownBlock≠some g)->(∀x∈xs,x.oneCell'=true)->(∀y∈ys,y.oneCell'=true)->i<=n->n<=4096->
  Calls P f #[v, .int .i64 (i:Int),u] w fun ex w'=> ∃v',ex= .returned v'/\w.grownBy w' v.ownBlock/\(∀g,v'.ownBlock=some g->v.ownBlock=some g\/w.heap.size<=g)/\w'.ownsRow base e sz v' (n+1) (xs.take (i*sz)++ys++xs.drop (i*sz))
def nI(i:Nat)(y:List AV)(es:List (List AV)):List (List AV):=es.take i++y::es.drop i
def Hb(i:Nat)(y:List AV)(es:List (List AV)):(nI i y es).length=es.length+1:=by
 unfold nI;rw[ON,OU,OZ,QF];omega
def uU{i:Nat}{y:List AV}{es:List (List AV)}(hi:i<=es.length)(p:Nat):(nI i y es)[p]? =if p<i then es[p]? else if p=i then some y else es[p-1]? :=by
 have c:(es.take i).length=i:=by rw[OZ];omega
 unfold nI;by_cases a:p<i
 ·rw[OL a,Oq (by omega),Om,OL a]
 rw[OK a,Og (by omega),c];by_cases b:p=i
 ·subst b;rw[OL rfl,Sp];rfl
 rw[OK b,show p-i=(p-1-i)+1 by omega,Pw,PY,show i+(p-1-i)=p-1 by omega]
def MD{i sz n:Nat}{xs b:List Value}(k:xs.length=n*sz)(l:b.length=sz)(hi:i<=n)(p j:Nat)(h:j<sz):
 (xs.take (i*sz)++b++xs.drop (i*sz))[p*sz+j]? =if p<i then xs[p*sz+j]? else if p=i then b[j]? else xs[(p-1)*sz+j]? :=by
 have f:i*sz<=n*sz:=Oz _ hi;have d:(xs.take (i*sz)).length=i*sz:=by rw[OZ];omega
 by_cases a:p<i
 ·have:(p+1)*sz<=i*sz:=Oz _ a;rw[Tp]at this;rw[OL a,O1,Oq (by omega),Om,OL (by omega)]
 rw[OK a];by_cases c:p=i
 ·subst c;rw[OL rfl,O1,Og (by omega),d,Nat.add_sub_cancel_left,Oq (by omega)]
 have e:(i+1)*sz<=p*sz:=Oz _ (by omega);rw[Tp]at e;have g:p*sz=(p-1)*sz+sz:=by rw[<-Tp];congr 1;omega
 rw[OK c,Og (by rw[ON];omega),ON,d,PY]
 congr 1
 omega
def IW{P:Program}{env:b7}{f:FuncId}{r r2 D N:Nat}{row row2:Row}{rows:Nat->Option Row}{vsv:Nat->Nat}{i:Nat}{y:List AV}(hC:V' P f row.e row.sz)(hr:rows r=some row)(hr2:rows r2=some row2)(hne:r2≠r)(hv:vsv r=D)(hv2:vsv r2=N)(W:row.sz≠0)(hp:row.pure=true)(hp2:row2.pure=true)
 (e2:row2.e=row.e)(z2:row2.sz=row.sz)(y2:row2.es=[y])(hi:i<=row.es.length)(hn:row.es.length<=4096):
 Vt P env f [.row r D, .lit (.int .i64 (i:Int)), .row r2 N] [r,r2] rows vsv ⟨.row r (D+1),[.renew r { row with es:=nI i y row.es }]⟩:=by
 refine⟨hC.enter,fun x s a w m vs hx n V hl O=> ?_⟩;obtain⟨M,q2,q3⟩:=V r (by simp);obtain⟨p1,p2,p3⟩:=V r2 (by simp);rw[hr]at M;rw[hv]at q2;rw[hr2]at p1;rw[hv2]at p2
 match vs,hl with
 |[u,iv,u2],_=>
 have hu:u=m.ρ r:=(O 0 u _ rfl rfl).row_.2 q2 row M;have hu2:u2=m.ρ r2:=(O 2 u2 _ rfl rfl).row_.2 p2 row2 p1;have hiv:iv= .int .i64 (i:Int):=(O 1 iv _ rfl rfl).lit_;subst hu hu2 hiv;have k:=(n.rows r row M).cells W;have k2:=(n.rows r2 row2 p1).cells (by rw[z2];exact W);obtain⟨Y,c1,c2,c3⟩:=k.own;obtain⟨ys,d1,d2,d3⟩:=k2.own;rw[y2,e2,z2]at d1;have hyl:ys.length=row.sz:=by have:=d1.1;simpa using this
 refine(hC.calls w x.w.heap.size i row.es.length (m.ρ r) (m.ρ r2) Y ys n.bel.size c1 d1 (fun g G=>n.inj r r2 row row2 M p1 (Py hne) g G) c2 d2 hi hn).mono ?_;rintro ex X ⟨J,rfl,G,C,ho⟩
 have hb:Below x.w.heap.size w X:=⟨G.os,G.tape,G.output,G.size,fun q R=>G.block q (PX R n.bel.size) fun e=>by
  have:=(bZ c1 e.symm).1
  omega⟩
 have T: ∀g,(m.ρ r).ownBlock=some g-> ∀o,¬m.S g o:=k.fresh q3
 have L: ∀g,J.ownBlock=some g-> ∀o,¬m.S g o:=fun g hgv o z=>by
  rcases C g hgv with e|e
  ·exact T g e o z
  have:=n.low g o z;omega
 have d: ∀b o,m.S b o->m.S b o/\k0 w X b o:=fun b o z=>⟨z, .block (G.block b (n.low b o z) fun e=>T b e.symm o z)⟩;have Q:(⟨m.S,na m.ρ r J⟩:k9).ρ r=J:=aE ..
 have hS2:dk x (s.renew r { row with es:=nI i y row.es } false) a X ⟨m.S,na m.ρ r J⟩:=by
  refine n.renew r _ false J m.S hb d (fun b o z=> .inl z) (fun q v U R Z H=>⟨?_,fun e=> ?_,fun _ z=>z⟩) ?_ fun b hf=>⟨G.block b (n.fxlt hf) fun e=>n.Z3 r row M b e.symm hf,fun _ z=>z,fun e=> ?_⟩
  ·exact G.block Z ((n.rows q v R).blk H).2 fun e=>n.inj r q row v M R (Py U) Z e.symm H
  ·rcases C Z e with e|e
   ·exact n.inj r q row v M R (Py U) Z e H
   have:=((n.rows q v R).blk H).2;omega
  ·have S:=Hb i y row.es;refine .inl ⟨k.pos,fun p e A=> ?_,⟨Y.take (i*row.sz)++ys++Y.drop (i*row.sz),by rw[Q];show X.ownsRow _ _ _ _ (nI i y row.es).length _;rw[S];exact ho,?_,?_⟩,fun A=> ?_,fun g B o _=> ?_,fun _ g B o=> ?_⟩
   ·rw[uU hi]at A;split at A
    ·exact k.len _ _ A
    split at A
    ·cases A;have:=k2.len 0 y (by rw[y2];rfl);rw[z2]at this;exact this
    exact k.len _ _ A
   ·intro u hu;rcases Of.1 hu with hu|hu
    ·rcases Of.1 hu with hu|hu
     ·exact c2 u (Ph hu)
     exact d2 u hu
    exact c2 u (Qf hu)
   ·intro p j c t
    have hj:j<row.sz:=by
     unfold bt at t;cases l:(nI i y row.es)[p]? with
     |none=>rw[l]at t;cases t
     | some e=>
       rw[l]at t;have t:e[j]? =some c:=t;have I:=(OG.1 t).1;rw[uU hi]at l;split at l
       ·rw[k.len _ _ l]at I;exact I
       split at l
       ·cases l;have:=k2.len 0 y (by rw[y2];rfl);rw[z2]at this;omega
       rw[k.len _ _ l]at I;exact I
    rw[MD c1.1 hyl hi p j hj];unfold bt at t;rw[uU hi]at t
    suffices h: ∃u,(if p<i then Y[p*row.sz+j]? else if p=i then ys[j]? else Y[(p-1)*row.sz+j]?)=some u/\RV m.S X u c by
     obtain⟨u,K,E⟩:=h;exact⟨u,K,by show (if row.pure=true then _ else _);rw[OL hp];exact E⟩
    by_cases h1:p<i
    ·rw[OL h1]at t |-;obtain⟨u,K,E⟩:=c3 p j c t;rw[OL hp]at E;exact⟨u,K,E.mono d⟩
    rw[OK h1]at t |-;by_cases h2:p=i
    ·rw[OL h2]at t |-;obtain⟨u,K,E⟩:=d3 0 j c (by unfold bt;rw[y2];exact t);rw[OL hp2]at E;refine⟨u,by rw[Qp,PR]at K;exact K,E.mono d⟩
    rw[OK h2]at t |-;obtain⟨u,K,E⟩:=c3 (p-1) j c t;rw[OL hp]at E;exact⟨u,K,E.mono d⟩
   ·have A:na s.esc r false r=true:=A;rw[aE]at A;cases A
   ·rw[Q]at B;exact L g B o
   rw[Q]at B;exact L g B o
  rcases C b e with e|e
  ·exact n.Z3 r row M b e hf
  have:=n.fxlt hf;omega
 have h1:J.oneCell'=true:=by
  rcases ho.2 with⟨ee,_⟩|⟨g,cp,cur,ee,_⟩<;>rw[ee]<;>rfl
 refine⟨J,_,rfl,hS2, .row r (D+1) h1 ?_ fun _ row' _=> ?_⟩
 ·show D+1<=na s.vs r (s.vs r+1) r;rw[aE,q2];exact OO _
 show J=na m.ρ r J r;rw[aE]
section
variable {P:Program} {env:b7} {s:St}
theorem IR{o:Oper}{f:FuncId}{args:List AV}{rest:List Ty}{m:St}{row row2:Row}{i:Nat}{y:List AV}{j:ff}{K:St->List ff->Prop}(r r2:Nat)(v:bH env s.f o=some (f,args))(t:V' P f row.e row.sz)(h:row.sz≠0)(z:row.pure=true)(d:row2.pure=true)(n:row2.e=row.e)(D:row2.sz=row.sz)(C:row2.es=[y])(c:r2≠r)(hi:i<=row.es.length)(x:row.es.length<=4096)
 (u:Is args [.row r (s.vs r), .lit (.int .i64 (i:Int)), .row r2 (s.vs r2)])(A:Is (s.rows r) (some row))(g:Is (s.rows r2) (some row2))(w:Is (s.esc r) false)(b:Is (s.esc r2) false)(p:Is ((⟨.row r (s.vs r+1),[.renew r { row with es:=nI i y row.es }]⟩:Out).app o.dst s) m)(l:Is (⟨[r,r2],[r,r2],[r],[]⟩:ff) j)(k:jn P env rest m fun B a=>K B (j::a)):jn P env (⟨o, .always⟩::rest) s K:=by
 unfold Is at l;subst l
 exact qC v u (IW t A g c rfl rfl h z d n D C hi x) (fun q e=>by
  rcases O7.1 e with rfl|e
  ·exact w
  rw[O2.1 e];exact b) p k
end
end
end Go.Proofs.YtfcdkaolcdglmaaGreatDoor
