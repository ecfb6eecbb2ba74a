/- Loops of few rounds, walked round by round. No program is named here. -/
import Derived.Test.YtknkhdgfhbogdaaGreatDoorP26
set_option maxRecDepth 100000
set_option maxHeartbeats 16000000
set_option linter.unusedSimpArgs false
set_option linter.defProp false
namespace Go.Proofs.YtknkhdgfhbogdaaGreatDoor
open Go.Proofs.Tryz
open Go.RowKit
section
def wb{c:aq}{d now:Int}{r:ch}{f l:List Int}{j:Nat}{i:Int}(hi:l[j]? =some i):ah c d now r f (l.drop j)=if r.act.contains i=true then ah c d now r f (l.drop (j+1)) else match lE c d now { r with act:=bQ (r.act++[i]) } (Rv c i) with
 |(a,none)=>ah c d now a (if bW c i=3 then f++[i] else f) (l.drop (j+1))
 |x=>(x,[]):=by
 rw[ar hi]
 conv=>lhs;unfold ah
 rcases lE c d now { r with act:=bQ (r.act++[i]) } (Rv c i) with⟨a,_|_⟩<;>rfl
def Cs(a b:Addr)(e:r5)(f:List Int):AV:=match e with
 |none=> .tuple [.seq 1 (f.map aa),h8]
 |some x=> .tuple [ct,ck a b (some x)]
def I3(env:b6)(a1 V W:Addr)(c:aq)(d now:Int)(E:x6 env a1 V W c d now)(r:ch)(M:ek c r)(hl:r.act.length<=1000)(G:List Nat)(hG: ∀i∈G,i<c.Z9.length)(hGl:G.length<=1000):
 hU prog env 120 [1000,1001,1002,1003,1004,1005] n8 (fun g=>[.loc 1000 (g 1000) 0 0, .seq 1 (G.map aB)]) (RY c d now r) (RY c d now (ah c d now r [] (zL G)).1.1) (fun _=>Cs V W (ah c d now r [] (zL G)).1.2 (ah c d now r [] (zL G)).2):=by
 have hfew:=E.h.Z6;have hcv:=E.hs.vars;have hdo:=fun(r:ch) M hl (l:List jn) hll ha=>yP env a1 V W c d now E r M hl l hll ha;have hok:=fun(r:ch)(M:ek c r)(l:List jn) ha=>jb E.hd E.hn (l:=l) M ha;refine qi func120 call120 ntmps120 results120 ?_;intro vs esc K;obtain⟨p,b,q,t,u,v⟩:=Qc K;have F:=pf SY SX S0 p b q t u v;repeat refine st ?_
 refine am 6 6 3 1 ?_;refine lp (D:=Nat×ch×List Int) (fun x n=>[(0, .loc 1000 (n 1000) 0 0),(4,ct),(5,h8),(6, .row 6 (n 6)),(10, .seq 1 (G.map aB)),(11,I G.length),(12,I x.1)]) (fun x n=>(6,⟨1,x.2.2.map aa,3,true⟩)::RY c d now x.2.1 n) (fun x n e=>(x.1<=G.length/\ah c d now r [] (zL G)=ah c d now x.2.1 x.2.2 ((zL G).drop x.1)/\ek c x.2.1/\x.2.1.act.length<=r.act.length+x.1/\x.2.2.length<=x.1)/\(n 1000=vs 1000/\n 1002=vs 1002)/\e 1000=false/\e 1001=false/\e 1002=false/\e 1003=false/\e 1004=false/\e 1005=false/\e 6=false) (fun x=>G.length-x.1) (0,r,[]) ⟨⟨Lx _,rfl,M,Lr _,Lr _⟩,by simp only[go_sem,Ls],by simp only[go_sem,p,b,q,t,u,v,Ls]⟩ ?_;try clear p b q t u v
 rintro⟨j,h,f⟩ ws es ⟨⟨hj,a,y,J,hfl⟩,⟨P,Q⟩,p,b,q,t,u,v,z⟩;simp only at hj a y J hfl;by_cases o:j<G.length
 ·obtain⟨i,C⟩:=gE o;have L:=hG i (Lh C);obtain⟨s,A⟩:=gE L;obtain⟨_,s1,s2⟩:=tT E.h A;have ho:Rv c i=s.ZW:=by unfold Rv;rw[bL,A]
  have hk:bW c i=s.kind:=by unfold bW;rw[bL,A]
  have H:=h9 o;have T:=aD o (by omega);have U:=h9 L;have B:=(bJ env h.act i (by omega)).lend rfl;rw[wb (qQ C),ho,hk]at a;cases hc:h.act.contains (i:Int) with
  | true=>
    rw[hc]at a B;simp only[Mb]at a;have F:=dk SS SU S9 SY SX S0 C A H T U<|lP p b q t u v z;repeat refine st ?_
    refine lL B ?_;repeat refine st ?_
    refine⟨(j+1,h,f),⟨⟨o,a,y,by simp only;omega,by simp only;omega⟩,?_,?_⟩,?_,?_,?_⟩
    ·simp only[go_sem,P,Q,Ls]
    ·simp only[go_sem,p,b,q,t,u,v,z,Ls]
    ·exact qe
    ·exact qe
    simp only;omega
  | false=>
    rw[hc]at a B;simp only[MH,Mi]at a;have m:(bQ (h.act++[(i:Int)])).length<=r.act.length+(j+1):=by rw[lH,Ll,MX];omega
    have f0:=hdo { h with act:=bQ (h.act++[(i:Int)]) } { y with } (by simp only;omega) s.ZW (by omega) s2;obtain⟨N,O⟩:=hok { h with act:=bQ (h.act++[(i:Int)]) } { y with } s.ZW s2;have X:=pk (h.act++[(i:Int)]) (by simp;omega);have Y:bN ((h.act++[(i:Int)]).map sP)=h.act.map aa++[[I i]]:=by rw[bu,Ln];rfl
    have Z:=bu (bQ (h.act++[(i:Int)]));have q4:cI (h.act.length+1) 8:=aC (by omega) (by omega);rcases hX:lE c d now { h with act:=bQ (h.act++[(i:Int)]) } s.ZW with⟨r2,_|⟨k,ps⟩⟩
    ·rw[hX]at a f0 N O;simp only at a N O;have w:r2.act.length<=r.act.length+(j+1):=by have:=O.act;rw[this];exact m
     try clear O m
     generalize hS:bQ (h.act++[(i:Int)])=S at*;unfold ck RY k9 at f0;simp only at f0;cases R:s.kind==3 with
     | false=>
       have h4: ¬s.kind=3:=by simpa using R
       rw[Lf h4]at a;have F:=dk SS SU S9 SY SX S0 C A H T U<|pf q4 R p b q t u v z;repeat refine st ?_
       refine lL B ?_;repeat refine st ?_
       refine ng 1001 rfl (row:=⟨1,h.act.map aa++[[I i]],3,true⟩) X (MZ 0) rfl Y.symm (by simp only[go_sem,b]<;>exact iR) (by simp only[go_sem,b]<;>exact iR) (by simp only[go_sem,b]<;>exact iR) (by simp only[go_sem,b]<;>exact iR) ?_;rw[Z];repeat refine st ?_
       refine iL L6 f0 ?_;repeat refine st ?_
       refine⟨(j+1,r2,f),⟨⟨o,a,N,w,by simp only;omega⟩,?_,?_⟩,?_,?_,?_⟩
       ·simp only[go_sem,P,Q,Ls]
       ·simp only[go_sem,p,b,q,t,u,v,z,Ls]
       ·exact qe
       ·exact qe
       simp only;omega
     | true=>
       have h4:s.kind=3:=by simpa using R
       rw[Lj h4]at a;have q5:cI (f.length+1) 8:=aC (by omega) (by omega);have q6:(f++[(i:Int)]).map aa=f.map aa++[[I i]]:=by rw[Ln];rfl
       have F:=dk SS SU S9 SY SX S0 C A H T U<|la q4 q5 R p b q t u v z;repeat refine st ?_
       refine lL B ?_;repeat refine st ?_
       refine ng 1001 rfl (row:=⟨1,h.act.map aa++[[I i]],3,true⟩) X (MZ 0) rfl Y.symm (by simp only[go_sem,b]<;>exact iR) (by simp only[go_sem,b]<;>exact iR) (by simp only[go_sem,b]<;>exact iR) (by simp only[go_sem,b]<;>exact iR) ?_;rw[Z];repeat refine st ?_
       refine iL L6 f0 ?_;repeat refine st ?_
       refine⟨(j+1,r2,f++[(i:Int)]),⟨⟨o,a,N,w,by simp only[Ll,MX];omega⟩,?_,?_⟩,?_,?_,?_⟩
       ·simp only[go_sem,P,Q,Ls]
       ·simp only[go_sem,p,b,q,t,u,v,z,Ls]
       ·exact qe
       ·simp only[q6];exact qe
       simp only;omega
    rw[hX]at a f0;simp only at a;rw[a];try clear N O m
    generalize hS:bQ (h.act++[(i:Int)])=S at*;unfold ck RY k9 at f0;simp only at f0;show fk _ _ _ _ _ _;unfold Cs ck;simp only;have F:=dk SS SU S9 SY SX S0 C A H T U<|la q4 P Q p b q t u v z;repeat refine st ?_
    refine lL B ?_;repeat refine st ?_
    refine ng 1001 rfl (row:=⟨1,h.act.map aa++[[I i]],3,true⟩) X (MZ 0) rfl Y.symm (by simp only[go_sem,b]<;>exact iR) (by simp only[go_sem,b]<;>exact iR) (by simp only[go_sem,b]<;>exact iR) (by simp only[go_sem,b]<;>exact iR) ?_;rw[Z];repeat refine st ?_
    refine iL L6 f0 ?_;repeat refine st ?_
    exact rI
 obtain rfl:j=G.length:=by omega
 have H:=nl G.length;rw[Mm (by rw[ak];omega)]at a;rw[a];unfold ah;show fk _ _ _ _ _ _;unfold Cs;simp only;refine eh (cU.frozen 6 6 ⟨1,f.map aa,3,true⟩ rfl (MZ 0) (by simp only[go_sem]) (by simp only[go_sem])) ?_;have F:=dk SY SX S0 H P Q p b q t u<|ai v z;repeat refine st ?_
 exact rI
end
section
def tf{l:List Int}(h:l.Pairwise (· < ·)){i:Int}(hi:l.contains i=false):(bQ (l++[i])).Pairwise (· < ·)/\ ∀x,x∈bQ (l++[i])↔x∈l\/x=i:=by
 have j:(l++[i]).Nodup:=Nc.2 ⟨h.imp fun h=>by omega,by simp,fun a f b g e=>by
  rw[MA.1 g]at e;have:l.contains i=true:=Lk.2 (e ▸ f);rw[hi]at this
  cases this⟩
 obtain⟨c,d⟩:=mR j;exact⟨c,fun x=>by rw[d];simp⟩
structure SB(c:aq)(r:ch)(f l:List Int)(r1:ch)(f1:List Int):Prop where
 ZZ:r1.act.Pairwise (· < ·)
 mem: ∀x,x∈r1.act↔x∈r.act\/x∈l
 fin: ∀x,x∈f1↔x∈f\/(x∈l/\x∉r.act/\bW c x=3)
 mm:r1.mem=r.mem
 over:r1.over=r.over
 len:f1.length<=f.length+l.length
def iK{c:aq}(u:L0 c){d now:Int}(w:aL d=true)(z:0<=now/\now<=1099511627776): ∀ {l:List Int}{r:ch}{f:List Int},ek c r->r.act.Pairwise (· < ·)->ek c (ah c d now r f l).1.1/\((ah c d now r f l).1.2=none->SB c r f l (ah c d now r f l).1.1 (ah c d now r f l).2)
 |[],r,f,h,s=>⟨h,fun _=>⟨s,fun x=>by simp[ah],fun x=>by simp[ah],rfl,rfl,by simp[ah]⟩⟩
 | i::l,r,f,h,s=>by
   unfold ah;split
   ·rename_i m;obtain⟨p,n⟩:=iK u (l:=l) (f:=f) w z h s;refine⟨p,fun o=> ?_⟩;have B:i∈r.act:=Lk.1 m;have k:=n o;refine⟨k.ZZ,fun x=> ?_,fun x=> ?_,k.mm,k.over,Ly k.len (by simp)⟩
    ·rw[k.mem,MI];constructor
     ·rintro(q|q)
      ·exact .inl q
      exact .inr (.inr q)
     rintro(q|rfl|q)
     ·exact .inl q
     ·exact .inl B
     exact .inr q
    rw[k.fin,MI];constructor
    ·rintro(q|⟨g,b⟩)
     ·exact .inl q
     exact .inr ⟨.inr g,b⟩
    rintro(q|⟨rfl|g,b,j⟩)
    ·exact .inl q
    ·exact absurd B b
    exact .inr ⟨g,b,j⟩
   rename_i m;have m:r.act.contains i=false:=by simpa using m
   obtain⟨J,D⟩:=tf s m;obtain⟨p,n⟩:=jb (r:={ r with act:=bQ (r.act++[i]) }) w z { h with } (u.ZW i);split
   ·rename_i A e;rw[e]at p n;have v:A.act=bQ (r.act++[i]):=n.act;obtain⟨H,I⟩:=iK u (l:=l) (f:=if bW c i=3 then f++[i] else f) w z p (by rw[v];exact J);refine⟨H,fun o=> ?_⟩;have k:=I o
    have y:i∉r.act:=fun a=>by
     have:=Lk.2 a;rw[m]at this;cases this
    refine⟨k.ZZ,fun x=> ?_,fun x=> ?_,k.mm.trans n.mem,k.over.trans n.over,?_⟩
    ·rw[k.mem,v,D,MI];constructor
     ·rintro((q|q)|q)
      ·exact .inl q
      ·exact .inr (.inl q)
      exact .inr (.inr q)
     rintro(q|q|q)
     ·exact .inl (.inl q)
     ·exact .inl (.inr q)
     exact .inr q
    ·rw[k.fin,v]
     have E:x∈(if bW c i=3 then f++[i] else f)↔x∈f\/(x=i/\bW c i=3):=by
      split
      ·rename_i t;simp[t]
      rename_i t;simp[t]
     rw[E,D,MI];constructor
     ·rintro((q|⟨rfl,q⟩)|⟨g,b,j⟩)
      ·exact .inl q
      ·exact .inr ⟨.inl rfl,y,q⟩
      exact .inr ⟨.inr g,fun a=>b (.inl a),j⟩
     rintro(q|⟨rfl|g,b,j⟩)
     ·exact .inl (.inl q)
     ·exact .inl (.inr ⟨rfl,j⟩)
     by_cases e:x=i
     ·subst e;exact .inl (.inr ⟨rfl,j⟩)
     exact .inr ⟨g,fun a=>a.elim b e,j⟩
    refine Ly k.len ?_;split
    ·simp only[Ll,MB,OV];omega
    simp only[MB];omega
   rename_i x G;refine⟨p,fun o=>absurd o ?_⟩;intro a;rcases C:lE c d now { r with act:=bQ (r.act++[i]) } (Rv c i) with⟨A,K⟩;rw[C]at a;simp only at a;subst a;exact G A C
def yD{c:aq} : ∀ {l:List Int}{r:ch}{o:List Int},ek c r->ek c (cV c r o l).1.1/\(cV c r o l).1.1.act=r.act/\(cV c r o l).1.1.mem=r.mem/\((cV c r o l).1.2=none->(cV c r o l).1.1.over=(r.over||l.any fun i=>decide (aP c i<0))/\(cV c r o l).2=o++(((l.filter fun i=> !decide (aP c i<0)).map fun i=>aP c (aP c i)).filter fun g=>decide (0<=g)&&bW c g==2))
 |[],r,o,h=>⟨h,rfl,rfl,fun _=>by simp[cV]⟩
 | i::l,r,o,h=>by
   unfold cV;split
   ·rename_i f;obtain⟨d,a,n,p⟩:=yD (l:=l) (r:={ r with over:=true }) (o:=o) { h with };refine⟨d,a,n,fun b=> ?_⟩;obtain⟨q,s⟩:=p b;rw[q,s];simp[f]
   rename_i f;obtain⟨d,a⟩:=tj h (jV c (aP c i)) (show aL 0=true by rfl);split
   ·rename_i j e;rw[e]at d a;obtain⟨n,p,y,z⟩:=yD (l:=l) (r:=j) (o:=if 0<=aP c (aP c i)/\bW c (aP c (aP c i))=2 then o++[aP c (aP c i)] else o) d;refine⟨n,p.trans a.act,y.trans a.mem,fun b=> ?_⟩;obtain⟨q,s⟩:=z b;have m:j.over=r.over:=a.over;rw[q,s,m];refine⟨by simp[f],?_⟩;have t:(i::l).filter (fun i=> !decide (aP c i<0))=i::l.filter (fun i=> !decide (aP c i<0)):=Og (by simp[f]);rw[t,M1];split
    ·rename_i u;rw[Og (by simp[u]),M4];rfl
    rename_i u;rw[Oh (by simp;omega)]
   rename_i x w;refine⟨d,a.act,a.mem,fun b=>absurd b ?_⟩;intro k;rcases v:gb r (jV c (aP c i)) 0 with⟨j,t⟩;rw[v]at k;simp only at k;subst k;exact w j v
def yC{c:aq} : ∀ {l:List Int}{r:ch},ek c r->ek c (dP c r l).1/\pi r (dP c r l).1
 |[],r,h=>⟨h, .rfl⟩
 | g::l,r,h=>by
   unfold dP;split
   ·obtain⟨a,b⟩:=tj h (jV c g) (show aL 0=true by rfl);split
    ·rename_i i e;rw[e]at a b;obtain⟨d,f⟩:=yC (l:=l) a;exact⟨d,b.trans f⟩
    exact⟨a,b⟩
   exact yC h
structure RT(c:aq)(r:ch)(l:List Int)(r1:ch):Prop where
 ZZ:r1.act.Pairwise (· < ·)
 mem: ∀x,x∈r1.act↔x∈r.act\/x∈l
 mm:r1.mem=r.mem
 over:r1.over=(r.over||l.any fun x=> !r.act.contains x&&bW c x==3&&decide (aP c x<0))
def uQ{c:aq}(G:L0 c){d now:Int}(H:aL d=true)(I:0<=now/\now<=1099511627776){l:List Int}{r:ch}(h:ek c r)(J:r.act.Pairwise (· < ·)):ek c (go c d now r l).1/\((go c d now r l).2=none->RT c r l (go c d now r l).1):=by
 obtain⟨k,A⟩:=iK G (l:=l) (f:=[]) H I h J;unfold go;split
 ·rename_i w f e;rw[e]at k A;have b:=A rfl;obtain⟨m,B,C,D⟩:=yD (l:=f) (o:=[]) k;unfold o2;split
  ·rename_i n o p;rw[p]at m B C D;obtain⟨K,v⟩:=yC (l:=zL (bt c o)) m;refine⟨K,fun j=> ?_⟩;obtain⟨u,_⟩:=D rfl;have z:(dP c n (zL (bt c o))).1.act=w.act:=v.act.trans B;refine⟨by rw[z];exact b.ZZ,fun x=>by rw[z];exact b.mem x,v.mem.trans (C.trans b.mm),?_⟩;rw[v.over];have u:n.over=(w.over||f.any fun i=>decide (aP c i<0)):=u;have t:w.over=r.over:=b.over;rw[u,t]
   congr 1
   rw[MP,Ml,Ml];constructor
   ·rintro⟨x,s,a⟩;rcases (b.fin x).1 s with q|⟨L,M,N⟩
    ·simp at q
    refine⟨x,L,?_⟩;rw[a,N];simp[M]
   rintro⟨x,s,a⟩;simp only[Li,Mo,Mh]at a;refine⟨x,(b.fin x).2 (.inr ⟨s,fun g=> ?_,a.1.2⟩),a.2⟩;have:=Lk.2 g;rw[a.1.1]at this;cases this
  rename_i x y g p;rw[p]at m;refine⟨m,fun j=> ?_⟩;rcases x with⟨n,_|E⟩
  ·exact(g _ rfl).elim
  cases j
 rename_i x y g e;rw[e]at k;refine⟨k,fun j=> ?_⟩;rcases x with⟨n,_|E⟩
 ·exact(g _ rfl).elim
 cases j
end
section
def nf{c:aq}{k:Nat}{s:na}(a:c.Z9[k]? =some s):aP c k=s.parent:=by unfold aP;rw[bL,a]
def Ji{c:aq}{k:Nat}{s:na}(a:c.Z9[k]? =some s):JU c k=s.name:=by unfold JU;rw[bL,a]
def wQ{c:aq}{r:ch}{o l:List Int}{j:Nat}{i:Int}(hi:l[j]? =some i):cV c r o (l.drop j)=if aP c i<0 then cV c { r with over:=true } o (l.drop (j+1))
 else match gb r (jV c (aP c i)) 0 with
  |(a,none)=>cV c a (if 0<=aP c (aP c i)/\bW c (aP c (aP c i))=2 then o++[aP c (aP c i)] else o) (l.drop (j+1))
  |x=>(x,[]):=by
 rw[ar hi]
 conv=>lhs;unfold cV
 rcases gb r (jV c (aP c i)) 0 with⟨a,_|_⟩<;>rfl
def G1{c:aq}{r:ch}{l:List Int}{j:Nat}{g:Int}(hi:l[j]? =some g):dP c r (l.drop j)=if sn c r.act g=true then(match gb r (jV c g) 0 with
 |(a,none)=>dP c a (l.drop (j+1))
 |x=>x)
 else dP c r (l.drop (j+1)):=by
 rw[ar hi]
 conv=>lhs;unfold dP
 rcases gb r (jV c g) 0 with⟨a,_|_⟩<;>rfl
def lJ(r:ch)(s:List UInt8)(v:Int):(gb r s v).1.act=r.act:=by unfold gb;split<;>rfl
def kj{c:aq}(_h:Right c){l:List Int}{k:Nat}(a:k∈bt c l):k<c.Z9.length:=by
 unfold bt at a;split at a
 ·rename_i b;have:=(Lq.1 a).2;have:=Lm.1 b _ (Lk.1 this);exact aV.1 this
 simp at a
def yd{c:aq}{k:Nat}{s:na}(a:c.Z9[k]? =some s):jV c k=[100,111,110,101,46]++s.name:=by unfold jV;rw[Ji a]
def oD{c:aq}(h:b8 c){k:Nat}{s:na}(a:c.Z9[k]? =some s):s.name.length<=32:=by
 have:=h.st k s a;unfold cJ bl at this;simp only[Li,Lt]at this;exact this.1.1.1.1.1.1.1
def Cg(env:b6)(a1 a2 a8:Addr)(c:aq)(d now:Int)(E:x6 env a1 a2 a8 c d now)(r:ch)(hl:r.act.length<=100000)(hb:rx c r.act=true)(Z:List Int)(hF: ∀i∈Z,ed c i=true)(hFl:Z.length<=1000):
 hU prog env 121 [1000,1001,1002,1003,1004,1005] n8 (fun g=>[.loc 1000 (g 1000) 0 0, .seq 1 (Z.map aa)]) (RY c d now r) (RY c d now (o2 c r Z).1) (fun _=>ck a2 a8 (o2 c r Z).2):=by
 have hfew:=E.h.Z6;have O:=E.h.toRight.par;have hra:=fun(r:ch)(s:List UInt8)=>vX env a2 a8 E.he.e8 c d now r s 0;have fT:=bP env c;have fS:=fun(o:List Int)(ho:o.length<=1000000)=>((fY env c E.h.toRight o ho).lend (aj (fun _=>rfl) _)).seen;have fD:=fun(r:ch)(hl:r.act.length<=100000)(hb:rx c r.act=true)(g:Nat)(V:g<c.Z9.length)=>(Gb env a1 a8 E.he c E.h E.hs r.act (by omega) hb g V).lend rfl;have hsl:=fun(o:List Int)(k:Nat)(hk:k∈bt c o)=>kj E.h.toRight hk;have hsf:=fun(o:List Int)=>cQ E.h.toRight o;unfold aQ at fT fS;unfold aH at fT fD;refine qi func121 call121 ntmps121 results121 ?_;intro vs esc U;obtain⟨m,n,q,v,w,y⟩:=Qc U;have F:=pf SY SX S0 m n q v w y;repeat refine st ?_
 refine am 5 5 3 1 ?_;refine lp (D:=Nat×ch×List Int) (fun x h=>[(0, .loc 1000 (h 1000) 0 0),(4,h8),(5, .row 5 (h 5)),(15, .seq 1 (Z.map aa)),(16,I Z.length),(17,I x.1)]) (fun x h=>(5,⟨1,x.2.2.map aa,3,true⟩)::RY c d now x.2.1 h) (fun x h b=>(x.1<=Z.length/\cV c r [] Z=cV c x.2.1 x.2.2 (Z.drop x.1)/\x.2.1.act=r.act/\x.2.2.length<=x.1)/\(h 1000=vs 1000/\h 1002=vs 1002)/\b 1000=false/\b 1001=false/\b 1002=false/\b 1003=false/\b 1004=false/\b 1005=false/\b 5=false) (fun x=>Z.length-x.1) (0,r,[]) ⟨⟨Lx _,rfl,rfl,Lr _⟩,by simp only[go_sem,Ls],by simp only[go_sem,m,n,q,v,w,y,Ls]⟩ ?_;try clear m n q v w y
 rintro⟨j,Q,o⟩ ws es ⟨⟨hj,a,e,hol⟩,⟨H,J⟩,m,n,q,v,w,y,K⟩;simp only at hj a e hol;by_cases l:j<Z.length
 ·obtain⟨i,B⟩:=gE l;have hi:=hF i (Lh B);obtain⟨k,s,rfl,P,_⟩:=cO hi;have hkl:=(Ld.1 P).1;have C:=h9 l;have M:=aD l (by omega);have N:=h9 hkl;have hps:=O k s P;rw[wQ B,nf P]at a;by_cases z:s.parent<0
  ·rw[Lj z]at a;have F:=dk SS S3 SY SX S0 B P C M N z<|lP m n q v w y K;repeat refine st ?_
   refine⟨(j+1,{ Q with over:=true },o),⟨⟨l,a,e,by simp only;omega⟩,?_,?_⟩,?_,?_,?_⟩
   ·simp only[go_sem,H,J,Ls]
   ·simp only[go_sem,m,n,q,v,w,y,K,Ls]
   ·exact qe
   ·exact qe
   simp only;omega
  rw[Lf z]at a;obtain⟨p,hp⟩: ∃p:Nat,s.parent=p:=⟨s.parent.toNat,by omega⟩;rw[hp]at a z hps;obtain⟨t,A⟩: ∃t,c.Z9[p]? =some t:=⟨c.Z9[p]'(by omega),Lc (by omega)⟩;have q5:(p:Int)< (c.Z9.length:Int):=by omega
  have htp:=O p t A;have R:5+t.name.length<=9223372036854775807:=by have:=oD E.h A;omega
  have f0:=hra Q (jV c p);have f:=lJ Q (jV c p) 0;rw[yd A]at f0 a f;rw[nf A]at a;rcases T:gb Q ([100,111,110,101,46]++t.name) 0 with⟨G,_|⟨k,ps⟩⟩
  ·rw[T]at a f0 f;simp only at a f;unfold ck RY k9 at f0;simp only at f0;by_cases W:0<=t.parent
   ·obtain⟨g,V⟩: ∃g:Nat,t.parent=g:=⟨t.parent.toNat,by omega⟩;rw[V]at a htp;obtain⟨u,hu⟩: ∃t,c.Z9[g]? =some t:=⟨c.Z9[g]'(by omega),Lc (by omega)⟩;have q6:(g:Int)< (c.Z9.length:Int):=by omega
    rw[iG hu]at a;cases S:u.kind==2 with
    | true=>
      rw[Lj ⟨by omega,by simpa using S⟩]at a;have q7:cI (o.length+1) 8:=aC (by omega) (by omega);have q8:(o++[(g:Int)]).map aa=o.map aa++[[I g]]:=by rw[Ln];rfl
      have F:=dk SS S3 SY SX S0 B P A hu hp V<|dk S C M N q5 q6 q7 R z m n<|g7 q v w y K;repeat refine st ?_
      refine iL L6 f0 ?_;repeat refine st ?_
      refine⟨(j+1,G,o++[(g:Int)]),⟨⟨l,a,f.trans e,by simp only[Ll,MX];omega⟩,?_,?_⟩,?_,?_,?_⟩
      ·simp only[go_sem,H,J,Ls]
      ·simp only[go_sem,m,n,q,v,w,y,K,Ls]
      ·exact qe
      ·simp only[q8];exact qe
      simp only;omega
    | false=>
      rw[Lf (fun hh=>by rw[hh.2]at S;cases S)]at a;have F:=dk SS S3 SY SX S0 B P A hu hp V<|dk S C M N q5 q6 R z m n q<|hH v w y K;repeat refine st ?_
      refine iL L6 f0 ?_;repeat refine st ?_
      refine⟨(j+1,G,o),⟨⟨l,a,f.trans e,by simp only;omega⟩,?_,?_⟩,?_,?_,?_⟩
      ·simp only[go_sem,H,J,Ls]
      ·simp only[go_sem,m,n,q,v,w,y,K,Ls]
      ·exact qe
      ·exact qe
      simp only;omega
   rw[Lf (fun hh=>W hh.1)]at a;have F:=dk SS S3 SY SX S0 B P A hp W C<|dk M N q5 R z m n q v w y K;repeat refine st ?_
   refine iL L6 f0 ?_;repeat refine st ?_
   refine⟨(j+1,G,o),⟨⟨l,a,f.trans e,by simp only;omega⟩,?_,?_⟩,?_,?_,?_⟩
   ·simp only[go_sem,H,J,Ls]
   ·simp only[go_sem,m,n,q,v,w,y,K,Ls]
   ·exact qe
   ·exact qe
   simp only;omega
  rw[T]at a f0;simp only at a;unfold ck RY k9 at f0;simp only at f0;unfold o2;rw[a];show fk _ _ _ _ _ _;unfold ck;simp only;have F:=dk SS S3 SY SX S0 B P A hp C M<|dk N q5 R H J z m n q v w<|ai y K;repeat refine st ?_
  refine iL L6 f0 ?_;repeat refine st ?_
  exact rI
 obtain rfl:j=Z.length:=by omega
 have C:=nl Z.length;rw[Mu]at a;rw[show cV c Q o []=((Q,none),o) from rfl]at a;unfold o2;rw[a];simp only;have f1:=fS o (by omega);have Y:=hsl o;have hlf:=hsf o;generalize bt c o=L at*;have F:=pc SY SX S0 C m n q v w y K;repeat refine ef fT ?_
 refine lL f1 ?_;repeat refine st ?_
 refine lp (D:=Nat×ch) (fun x h=>[(0, .loc 1000 (h 1000) 0 0),(4,h8),(85, .seq 1 (L.map aB)),(86,I L.length),(87,I x.1)]) (fun x h=>RY c d now x.2 h) (fun x h b=>(x.1<=L.length/\dP c Q (zL L)=dP c x.2 ((zL L).drop x.1)/\x.2.act=r.act)/\(h 1000=vs 1000/\h 1002=vs 1002)/\b 1000=false/\b 1001=false/\b 1002=false/\b 1003=false/\b 1004=false/\b 1005=false) (fun x=>L.length-x.1) (0,Q) ⟨⟨Lx _,rfl,e⟩,by simp only[go_sem,H,J,Ls],by simp only[go_sem,m,n,q,v,w,y,Ls]⟩ ?_;try clear m n q v w y K a e H J
 rintro⟨j,G⟩ ws es ⟨⟨hj,a,e⟩,⟨H,J⟩,m,n,q,v,w,y⟩;simp only at hj a e;by_cases l:j<L.length
 ·obtain⟨g,B⟩:=gE l;have X:=Y g (Lh B);obtain⟨t,A⟩: ∃t,c.Z9[g]? =some t:=⟨c.Z9[g]'(by omega),Lc (by omega)⟩;have C:=h9 l;have M:=aD l (by omega);have N:=h9 X;have R:5+t.name.length<=9223372036854775807:=by have:=oD E.h A;omega
  have f2:=fD G (by rw[e];exact hl) (by rw[e];exact hb) g X;rw[G1 (qQ B)]at a;cases hd:sn c G.act g with
  | false=>
    rw[hd]at f2 a;simp only[MH,Mi]at a;have F:=dk SS SU SY SX S0 B A C M N m<|g7 n q v w y;repeat refine st ?_
    refine lL f2 ?_;repeat refine st ?_
    refine⟨(j+1,G),⟨⟨l,a,e⟩,?_,?_⟩,?_,?_,?_⟩
    ·simp only[go_sem,H,J,Ls]
    ·simp only[go_sem,m,n,q,v,w,y,Ls]
    ·exact qe
    ·exact qe
    simp only;omega
  | true=>
    rw[hd]at f2 a;simp only[Mb]at a;have f0:=hra G (jV c g);have f:=lJ G (jV c g) 0;rw[yd A]at f0 a f;rcases T:gb G ([100,111,110,101,46]++t.name) 0 with⟨r3,_|⟨k,ps⟩⟩
    ·rw[T]at a f0 f;simp only at a f;unfold ck RY k9 at f0;simp only at f0;have F:=dk SS SU SY SX S0 B A C M N R<|ip m n q v w y;repeat refine st ?_
     refine lL f2 ?_;repeat refine st ?_
     refine iL L6 f0 ?_;repeat refine st ?_
     refine⟨(j+1,r3),⟨⟨l,a,f.trans e⟩,?_,?_⟩,?_,?_,?_⟩
     ·simp only[go_sem,H,J,Ls]
     ·simp only[go_sem,m,n,q,v,w,y,Ls]
     ·exact qe
     ·exact qe
     simp only;omega
    rw[T]at a f0;simp only at a;unfold ck RY k9 at f0;simp only at f0;rw[a];show fk _ _ _ _ _ _;unfold ck;simp only;have F:=dk SS SU SY SX S0 B A C M N R<|ns H J m n q v w y;repeat refine st ?_
    refine lL f2 ?_;repeat refine st ?_
    refine iL L6 f0 ?_;repeat refine st ?_
    exact rI
 obtain rfl:j=L.length:=by omega
 have C:=nl L.length;rw[Mm (by rw[ak];omega)]at a;rw[show dP c G []=(G,none) from rfl]at a;rw[a];show fk _ _ _ _ _ _;unfold ck;simp only;have F:=dk SY SX S0 C H J m n q v w y;repeat refine st ?_
 exact rI
def uR{c:aq}(b:L0 c){d now:Int}(g:aL d=true)(j:0<=now/\now<=1099511627776): ∀ {l:List Int}{r:ch}{f:List Int},ek c r->(ah c d now r f l).1.1.act.length<=r.act.length+l.length
 |[],r,f,h=>Lr _
 | i::l,r,f,h=>by
   unfold ah;split
   ·have:=uR b (l:=l) (f:=f) g j h;simp only[MB];omega
   obtain⟨k,m⟩:=jb (r:={ r with act:=bQ (r.act++[i]) }) g j { h with } (b.ZW i);have a:=m.act;split
   ·rename_i n e;rw[e]at k a;have:=uR b (l:=l) (f:=if bW c i=3 then f++[i] else f) g j k;have a:n.act=bQ (r.act++[i]):=a;rw[a,lH,Ll]at this;simp only[MB,OV]at this |-;omega
   rename_i x o;simp only;rw[a];simp only[lH,Ll,MB,OV];omega
def w8(env:b6)(o m n:Addr)(c:aq)(d now:Int)(E:x6 env o m n c d now)(r:ch)(B:ek c r)(e:r.act.Pairwise (· < ·))(A:r.act.length<=1000)(G:List Nat)(I: ∀i∈G,i<c.Z9.length)(z:G.length<=1000)(b:(ah c d now r [] (zL G)).1.2=none->rx c (ah c d now r [] (zL G)).1.1.act=true):
 hU prog env 75 [1000,1001,1002,1003,1004,1005] n8 (fun g=>[.loc 1000 (g 1000) 0 0, .seq 1 (G.map aB)]) (RY c d now r) (RY c d now (go c d now r (zL G)).1) (fun _=>ck m n (go c d now r (zL G)).2):=by
 have H:=bT E.h;have f0:=I3 env o m n c d now E r B A G I z;have C:=uR H (l:=zL G) (f:=[]) E.hd E.hn B;obtain⟨_,D⟩:=iK H (l:=zL G) (f:=[]) E.hd E.hn B e;have h:=fun(r:ch) A N (F:List Int) M y=>Cg env o m n c d now E r A N F M y;rw[ak]at C;unfold go;rcases J:ah c d now r [] (zL G) with⟨⟨L,_|⟨k,R⟩⟩,f⟩
 ·rw[J]at f0 b C D;simp only at b C D;have K:=D trivial;have j:=K.len;rw[ak]at j
  have f1:=h L (by omega) (b trivial) f (fun i O=>by
   rcases (K.fin i).1 O with q|⟨q,_⟩
   ·simp at q
   obtain⟨k,P,rfl⟩:=Lp.1 q
   exact aV.2 (I k P)) (by simp only[OV]at j;omega)
  simp only;generalize o2 c L f=Y at*;unfold Cs RY k9 at f0;unfold RY k9 at f1;simp only at f0;refine qi func75 call75 ntmps75 results75 ?_;intro Q x a;obtain⟨p,s,t,u,v,w⟩:=Qc a;have F:=la SY SX S0 eY p s t u v w;repeat refine st ?_
  refine iL L6 f0 ?_;repeat refine st ?_
  refine iL L6 f1 ?_;repeat refine st ?_
  exact rI
 rw[J]at f0;simp only;unfold Cs ck RY k9 at f0;simp only at f0;show hU _ _ _ _ _ _ _ _ fun _=>fc _ _;refine qi func75 call75 ntmps75 results75 ?_;intro Q x a;obtain⟨p,s,t,u,v,w⟩:=Qc a;have F:=pf SY SX S0 p s t u v w;repeat refine st ?_
 refine iL L6 f0 ?_;repeat refine st ?_
 exact rI
end
section
def Rf(P:Program)(env:b6)(nt:Nat)(c:Code)(Q:Exit->St->Prop):Nat->St->Prop
 |0,_=>False
 |n+1,s=>fk P env nt c (bB (Rf P env nt c Q n) Q) s
section
variable {P:Program} {env:b6} {nt:Nat} {c:Code} {Q:Exit->St->Prop} {s:St}
structure Sy(P:Program)(env:b6)(nt:Nat)(c:Code)(Q:Exit->St->Prop)(n:Nat)(s:St):Prop where
 out:Rf P env nt c Q n s
theorem Gl{b:Exit->St->Prop}(g: ∀e s,Q e s->b e s)(h:fk P env nt c Q s):fk P env nt c b s:=fun n x j k a w m i=>Nv (h n x j k a w m i) (by
 rintro e p q ⟨o,l,d,f⟩
 exact⟨o,l,g _ _ d,f⟩)
theorem aT{n:Nat}(h:fk P env nt c (bB (Sy P env nt c Q n) Q) s):Sy P env nt c Q (n+1) s:=⟨Gl (fun e s h=>by
 cases e
 case normal=>exact Sy.out h
 all_goals exact h) h⟩
theorem zo(n:Nat)(h:Rf P env nt c Q n s):fk P env nt (.loop c) Q s:=fun o x j k a w m i=>by
 refine wpIn_loop_rounds n ?_
 induction n generalizing s a w m with
 |zero=>exact h.elim
 | succ n l=>
   rw[roundsIn_succ];refine Nv (h o x j k a w m i) ?_;rintro e g q ⟨p,f,b,d⟩;cases e with
   |normal=>exact l b g q f d
   |_=>exact⟨p,f,b,d⟩
theorem aO(n:Nat)(h:Sy P env nt c Q n s):fk P env nt (.loop c) Q s:=zo n h.out
end
end
end Go.Proofs.YtknkhdgfhbogdaaGreatDoor
