/- Loops of few rounds, walked round by round. No program is named here. -/
import Derived.Test.YtfhkmjbjafeckaaGreatDoorQ26
set_option maxRecDepth 100000
set_option maxHeartbeats 16000000
set_option linter.unusedSimpArgs false
set_option linter.defProp false
namespace Go.Proofs.YtfhkmjbjafeckaaGreatDoor
open Go.Proofs.Tryz
open Go.RowKit
section
def ue{l:List Int}(h:l.Pairwise (· < ·)){i:Int}(hi:l.contains i=false):(bQ (l++[i])).Pairwise (· < ·)/\ ∀x,x∈bQ (l++[i])↔x∈l\/x=i:=by
 have j:(l++[i]).Nodup:=O8.2 ⟨h.imp fun h=>by omega,by simp,fun a f b g e=>by
  rw[NP.1 g]at e;have:l.contains i=true:=Mz.2 (e ▸ f);rw[hi]at this
  cases this⟩
 obtain⟨c,d⟩:=nG j;exact⟨c,fun x=>by rw[d];simp⟩
structure Ua(c:aq)(r:cD)(f l:List Int)(r1:cD)(f1:List Int):Prop where
 ZZ:r1.act.Pairwise (· < ·)
 mem: ∀x,x∈r1.act↔x∈r.act\/x∈l
 fin: ∀x,x∈f1↔x∈f\/(x∈l/\x∉r.act/\bX c x=3)
 mm:r1.mem=r.mem
 over:r1.over=r.over
 len:f1.length<=f.length+l.length
def iX{c:aq}(u:Nd c){d now:Int}(w:aJ d=true)(z:0<=now/\now<=1099511627776): ∀ {l:List Int}{r:cD}{f:List Int},fe c r->r.act.Pairwise (· < ·)->fe c (ak c d now r f l).1.1/\((ak c d now r f l).1.2=none->Ua c r f l (ak c d now r f l).1.1 (ak c d now r f l).2)
 |[],r,f,h,s=>⟨h,fun _=>⟨s,fun x=>by simp[ak],fun x=>by simp[ak],rfl,rfl,by simp[ak]⟩⟩
 | i::l,r,f,h,s=>by
   unfold ak;split
   ·rename_i m;obtain⟨p,n⟩:=iX u (l:=l) (f:=f) w z h s;refine⟨p,fun o=> ?_⟩;have B:i∈r.act:=Mz.1 m;have k:=n o;refine⟨k.ZZ,fun x=> ?_,fun x=> ?_,k.mm,k.over,NN k.len (by simp)⟩
    ·rw[k.mem,NX];constructor
     ·rintro(q|q)
      ·exact .inl q
      exact .inr (.inr q)
     rintro(q|rfl|q)
     ·exact .inl q
     ·exact .inl B
     exact .inr q
    rw[k.fin,NX];constructor
    ·rintro(q|⟨g,b⟩)
     ·exact .inl q
     exact .inr ⟨.inr g,b⟩
    rintro(q|⟨rfl|g,b,j⟩)
    ·exact .inl q
    ·exact absurd B b
    exact .inr ⟨g,b,j⟩
   rename_i m;have m:r.act.contains i=false:=by simpa using m
   obtain⟨J,D⟩:=ue s m;obtain⟨p,n⟩:=jo (r:={ r with act:=bQ (r.act++[i]) }) w z { h with } (u.ZW i);split
   ·rename_i A e;rw[e]at p n;have v:A.act=bQ (r.act++[i]):=n.act;obtain⟨H,I⟩:=iX u (l:=l) (f:=if bX c i=3 then f++[i] else f) w z p (by rw[v];exact J);refine⟨H,fun o=> ?_⟩;have k:=I o
    have y:i∉r.act:=fun a=>by
     have:=Mz.2 a;rw[m]at this;cases this
    refine⟨k.ZZ,fun x=> ?_,fun x=> ?_,k.mm.trans n.mem,k.over.trans n.over,?_⟩
    ·rw[k.mem,v,D,NX];constructor
     ·rintro((q|q)|q)
      ·exact .inl q
      ·exact .inr (.inl q)
      exact .inr (.inr q)
     rintro(q|q|q)
     ·exact .inl (.inl q)
     ·exact .inl (.inr q)
     exact .inr q
    ·rw[k.fin,v]
     have E:x∈(if bX c i=3 then f++[i] else f)↔x∈f\/(x=i/\bX c i=3):=by
      split
      ·rename_i t;simp[t]
      rename_i t;simp[t]
     rw[E,D,NX];constructor
     ·rintro((q|⟨rfl,q⟩)|⟨g,b,j⟩)
      ·exact .inl q
      ·exact .inr ⟨.inl rfl,y,q⟩
      exact .inr ⟨.inr g,fun a=>b (.inl a),j⟩
     rintro(q|⟨rfl|g,b,j⟩)
     ·exact .inl (.inl q)
     ·exact .inl (.inr ⟨rfl,j⟩)
     by_cases e:x=i
     ·subst e;exact .inl (.inr ⟨rfl,j⟩)
     exact .inr ⟨g,fun a=>a.elim b e,j⟩
    refine NN k.len ?_;split
    ·simp only[NA,NQ,Pp];omega
    simp only[NQ];omega
   rename_i x G;refine⟨p,fun o=>absurd o ?_⟩;intro a;rcases C:mv c d now { r with act:=bQ (r.act++[i]) } (Tl c i) with⟨A,K⟩;rw[C]at a;simp only at a;subst a;exact G A C
def zR{c:aq} : ∀ {l:List Int}{r:cD}{o:List Int},fe c r->fe c (cW c r o l).1.1/\(cW c r o l).1.1.act=r.act/\(cW c r o l).1.1.mem=r.mem/\((cW c r o l).1.2=none->(cW c r o l).1.1.over=(r.over||l.any fun i=>decide (aP c i<0))/\(cW c r o l).2=o++(((l.filter fun i=> !decide (aP c i<0)).map fun i=>aP c (aP c i)).filter fun g=>decide (0<=g)&&bX c g==2))
 |[],r,o,h=>⟨h,rfl,rfl,fun _=>by simp[cW]⟩
 | i::l,r,o,h=>by
   unfold cW;split
   ·rename_i f;obtain⟨d,a,n,p⟩:=zR (l:=l) (r:={ r with over:=true }) (o:=o) { h with };refine⟨d,a,n,fun b=> ?_⟩;obtain⟨q,s⟩:=p b;rw[q,s];simp[f]
   rename_i f;obtain⟨d,a⟩:=ug h (j8 c (aP c i)) (show aJ 0=true by rfl);split
   ·rename_i j e;rw[e]at d a;obtain⟨n,p,y,z⟩:=zR (l:=l) (r:=j) (o:=if 0<=aP c (aP c i)/\bX c (aP c (aP c i))=2 then o++[aP c (aP c i)] else o) d;refine⟨n,p.trans a.act,y.trans a.mem,fun b=> ?_⟩;obtain⟨q,s⟩:=z b;have m:j.over=r.over:=a.over;rw[q,s,m];refine⟨by simp[f],?_⟩;have t:(i::l).filter (fun i=> !decide (aP c i<0))=i::l.filter (fun i=> !decide (aP c i<0)):=QM (by simp[f]);rw[t,Nh];split
    ·rename_i u;rw[QM (by simp[u]),Nj];rfl
    rename_i u;rw[QN (by simp;omega)]
   rename_i x w;refine⟨d,a.act,a.mem,fun b=>absurd b ?_⟩;intro k;rcases v:g6 r (j8 c (aP c i)) 0 with⟨j,t⟩;rw[v]at k;simp only at k;subst k;exact w j v
def zQ{c:aq} : ∀ {l:List Int}{r:cD},fe c r->fe c (dU c r l).1/\ra r (dU c r l).1
 |[],r,h=>⟨h, .rfl⟩
 | g::l,r,h=>by
   unfold dU;split
   ·obtain⟨a,b⟩:=ug h (j8 c g) (show aJ 0=true by rfl);split
    ·rename_i i e;rw[e]at a b;obtain⟨d,f⟩:=zQ (l:=l) a;exact⟨d,b.trans f⟩
    exact⟨a,b⟩
   exact zQ h
structure TB(c:aq)(r:cD)(l:List Int)(r1:cD):Prop where
 ZZ:r1.act.Pairwise (· < ·)
 mem: ∀x,x∈r1.act↔x∈r.act\/x∈l
 mm:r1.mem=r.mem
 over:r1.over=(r.over||l.any fun x=> !r.act.contains x&&bX c x==3&&decide (aP c x<0))
def pE{c:aq}(G:Nd c){d now:Int}(H:aJ d=true)(I:0<=now/\now<=1099511627776){l:List Int}{r:cD}(h:fe c r)(J:r.act.Pairwise (· < ·)):fe c (g5 c d now r l).1/\((g5 c d now r l).2=none->TB c r l (g5 c d now r l).1):=by
 obtain⟨k,A⟩:=iX G (l:=l) (f:=[]) H I h J;unfold g5;split
 ·rename_i w f e;rw[e]at k A;have b:=A rfl;obtain⟨m,B,C,D⟩:=zR (l:=f) (o:=[]) k;unfold p';split
  ·rename_i n o p;rw[p]at m B C D;obtain⟨K,v⟩:=zQ (l:=zL (b7 c o)) m;refine⟨K,fun j=> ?_⟩;obtain⟨u,_⟩:=D rfl;have z:(dU c n (zL (b7 c o))).1.act=w.act:=v.act.trans B;refine⟨by rw[z];exact b.ZZ,fun x=>by rw[z];exact b.mem x,v.mem.trans (C.trans b.mm),?_⟩;rw[v.over];have u:n.over=(w.over||f.any fun i=>decide (aP c i<0)):=u;have t:w.over=r.over:=b.over;rw[u,t]
   congr 1
   rw[N8,OG,OG];constructor
   ·rintro⟨x,s,a⟩;rcases (b.fin x).1 s with q|⟨L,M,N⟩
    ·simp at q
    refine⟨x,L,?_⟩;rw[a,N];simp[M]
   rintro⟨x,s,a⟩;simp only[Mx,OA,OQ]at a;refine⟨x,(b.fin x).2 (.inr ⟨s,fun g=> ?_,a.1.2⟩),a.2⟩;have:=Mz.2 g;rw[a.1.1]at this;cases this
  rename_i x y g p;rw[p]at m;refine⟨m,fun j=> ?_⟩;rcases x with⟨n,_|E⟩
  ·exact(g _ rfl).elim
  cases j
 rename_i x y g e;rw[e]at k;refine⟨k,fun j=> ?_⟩;rcases x with⟨n,_|E⟩
 ·exact(g _ rfl).elim
 cases j
end
section
def ob{c:aq}{k:Nat}{s:n4}(a:c.Z9[k]? =some s):aP c k=s.parent:=by unfold aP;rw[bK,a]
def Ky{c:aq}{k:Nat}{s:n4}(a:c.Z9[k]? =some s):Ka c k=s.name:=by unfold Ka;rw[bK,a]
def xc{c:aq}{r:cD}{o l:List Int}{j:Nat}{i:Int}(hi:l[j]? =some i):cW c r o (l.drop j)=if aP c i<0 then cW c { r with over:=true } o (l.drop (j+1))
 else match g6 r (j8 c (aP c i)) 0 with
  |(a,none)=>cW c a (if 0<=aP c (aP c i)/\bX c (aP c (aP c i))=2 then o++[aP c (aP c i)] else o) (l.drop (j+1))
  |x=>(x,[]):=by
 rw[aZ hi]
 conv=>lhs;unfold cW
 rcases g6 r (j8 c (aP c i)) 0 with⟨a,_|_⟩<;>rfl
def Ho{c:aq}{r:cD}{l:List Int}{j:Nat}{g:Int}(hi:l[j]? =some g):dU c r (l.drop j)=if uH c r.act g=true then(match g6 r (j8 c g) 0 with
 |(a,none)=>dU c a (l.drop (j+1))
 |x=>x)
 else dU c r (l.drop (j+1)):=by
 rw[aZ hi]
 conv=>lhs;unfold dU
 rcases g6 r (j8 c g) 0 with⟨a,_|_⟩<;>rfl
def lh(r:cD)(s:List UInt8)(v:Int):(g6 r s v).1.act=r.act:=by unfold g6;split<;>rfl
def lM{c:aq}(_h:Right c){l:List Int}{k:Nat}(a:k∈b7 c l):k<c.Z9.length:=by
 unfold b7 at a;split at a
 ·rename_i b;have:=(NF.1 a).2;have:=NB.1 b _ (Mz.1 this);exact aW.1 this
 simp at a
def AA{c:aq}{k:Nat}{s:n4}(a:c.Z9[k]? =some s):j8 c k=[100,111,110,101,46]++s.name:=by unfold j8;rw[Ky a]
def ov{c:aq}(h:ct c){k:Nat}{s:n4}(a:c.Z9[k]? =some s):s.name.length<=32:=by
 have:=h.st k s a;unfold cL bp at this;simp only[Mx,NI]at this;exact this.1.1.1.1.1.1.1
def Dy(env:cf)(a1 a2 a8:Addr)(c:aq)(d now:Int)(E:zs env a1 a2 a8 c d now)(r:cD)(hl:r.act.length<=100000)(hb:tU c r.act=true)(Z:List Int)(hF: ∀i∈Z,fi c i=true)(hFl:Z.length<=1000):
 i9 prog env 122 [1000,1001,1002,1003,1004,1005] pi (fun g=>[.loc 1000 (g 1000) 0 0, .seq 1 (Z.map aa)]) (RY c d now r) (RY c d now (p' c r Z).1) (fun _=>cr a2 a8 (p' c r Z).2):=by
 have hfew:=E.h.Z6;have O:=E.h.toRight.par;have hra:=fun(r:cD)(s:List UInt8)=>wa env a2 a8 E.he.e8 c d now r s 0;have fT:=bP env c;have fS:=fun(o:List Int)(ho:o.length<=1000000)=>((gB env c E.h.toRight o ho).lend (al (fun _=>rfl) _)).seen;have fD:=fun(r:cD)(hl:r.act.length<=100000)(hb:tU c r.act=true)(g:Nat)(V:g<c.Z9.length)=>(Hx env a1 a8 E.he c E.h E.hs r.act (by omega) hb g V).lend rfl;have hsl:=fun(o:List Int)(k:Nat)(hk:k∈b7 c o)=>lM E.h.toRight hk;have hsf:=fun(o:List Int)=>cQ E.h.toRight o;unfold aQ at fT fS;unfold aG at fT fD;refine qi func122 call122 ntmps122 results122 ?_;intro vs esc U;obtain⟨m,n,q,v,w,y⟩:=RT U;have F:=qs Ux Uw Uz m n q v w y;repeat refine st ?_
 refine ap 5 5 3 1 ?_;refine lp (D:=Nat×cD×List Int) (fun x h=>[(0, .loc 1000 (h 1000) 0 0),(4,ik),(5, .row 5 (h 5)),(15, .seq 1 (Z.map aa)),(16,I Z.length),(17,I x.1)]) (fun x h=>(5,⟨1,x.2.2.map aa,3,true⟩)::RY c d now x.2.1 h) (fun x h b=>(x.1<=Z.length/\cW c r [] Z=cW c x.2.1 x.2.2 (Z.drop x.1)/\x.2.1.act=r.act/\x.2.2.length<=x.1)/\(h 1000=vs 1000/\h 1002=vs 1002)/\b 1000=false/\b 1001=false/\b 1002=false/\b 1003=false/\b 1004=false/\b 1005=false/\b 5=false) (fun x=>Z.length-x.1) (0,r,[]) ⟨⟨NJ _,rfl,rfl,ND _⟩,by simp only[go_sem,NH],by simp only[go_sem,m,n,q,v,w,y,NH]⟩ ?_;try clear m n q v w y
 rintro⟨j,Q,o⟩ ws es ⟨⟨hj,a,e,hol⟩,⟨H,J⟩,m,n,q,v,w,y,K⟩;simp only at hj a e hol;by_cases l:j<Z.length
 ·obtain⟨i,B⟩:=gE l;have hi:=hF i (My B);obtain⟨k,s,rfl,P,_⟩:=dB hi;have hkl:=(Mt.1 P).1;have C:=ip l;have M:=aD l (by omega);have N:=ip hkl;have hps:=O k s P;rw[xc B,ob P]at a;by_cases z:s.parent<0
  ·rw[Mw z]at a;have F:=ed Ut UB Ux Uw Uz B P C M N z<|m7 m n q v w y K;repeat refine st ?_
   refine⟨(j+1,{ Q with over:=true },o),⟨⟨l,a,e,by simp only;omega⟩,?_,?_⟩,?_,?_,?_⟩
   ·simp only[go_sem,H,J,NH]
   ·simp only[go_sem,m,n,q,v,w,y,K,NH]
   ·exact qe
   ·exact qe
   simp only;omega
  rw[Mv z]at a;obtain⟨p,hp⟩: ∃p:Nat,s.parent=p:=⟨s.parent.toNat,by omega⟩;rw[hp]at a z hps;obtain⟨t,A⟩: ∃t,c.Z9[p]? =some t:=⟨c.Z9[p]'(by omega),Ms (by omega)⟩;have q5:(p:Int)< (c.Z9.length:Int):=by omega
  have htp:=O p t A;have R:5+t.name.length<=9223372036854775807:=by have:=ov E.h A;omega
  have f0:=hra Q (j8 c p);have f:=lh Q (j8 c p) 0;rw[AA A]at f0 a f;rw[ob A]at a;rcases T:g6 Q ([100,111,110,101,46]++t.name) 0 with⟨G,_|⟨k,ps⟩⟩
  ·rw[T]at a f0 f;simp only at a f;unfold cr RY mc at f0;simp only at f0;by_cases W:0<=t.parent
   ·obtain⟨g,V⟩: ∃g:Nat,t.parent=g:=⟨t.parent.toNat,by omega⟩;rw[V]at a htp;obtain⟨u,hu⟩: ∃t,c.Z9[g]? =some t:=⟨c.Z9[g]'(by omega),Ms (by omega)⟩;have q6:(g:Int)< (c.Z9.length:Int):=by omega
    rw[iT hu]at a;cases S:u.kind==2 with
    | true=>
      rw[Mw ⟨by omega,by simpa using S⟩]at a;have q7:dd (o.length+1) 8:=aC (by omega) (by omega);have q8:(o++[(g:Int)]).map aa=o.map aa++[[I g]]:=by rw[NC];rfl
      have F:=ed Ut UB Ux Uw Uz B P A hu hp V<|ed S C M N q5 q6 q7 R z m n<|ii q v w y K;repeat refine st ?_
      refine iL L6 f0 ?_;repeat refine st ?_
      refine⟨(j+1,G,o++[(g:Int)]),⟨⟨l,a,f.trans e,by simp only[NA,Nf];omega⟩,?_,?_⟩,?_,?_,?_⟩
      ·simp only[go_sem,H,J,NH]
      ·simp only[go_sem,m,n,q,v,w,y,K,NH]
      ·exact qe
      ·simp only[q8];exact qe
      simp only;omega
    | false=>
      rw[Mv (fun hh=>by rw[hh.2]at S;cases S)]at a;have F:=ed Ut UB Ux Uw Uz B P A hu hp V<|ed S C M N q5 q6 R z m n q<|i0 v w y K;repeat refine st ?_
      refine iL L6 f0 ?_;repeat refine st ?_
      refine⟨(j+1,G,o),⟨⟨l,a,f.trans e,by simp only;omega⟩,?_,?_⟩,?_,?_,?_⟩
      ·simp only[go_sem,H,J,NH]
      ·simp only[go_sem,m,n,q,v,w,y,K,NH]
      ·exact qe
      ·exact qe
      simp only;omega
   rw[Mv (fun hh=>W hh.1)]at a;have F:=ed Ut UB Ux Uw Uz B P A hp W C<|ed M N q5 R z m n q v w y K;repeat refine st ?_
   refine iL L6 f0 ?_;repeat refine st ?_
   refine⟨(j+1,G,o),⟨⟨l,a,f.trans e,by simp only;omega⟩,?_,?_⟩,?_,?_,?_⟩
   ·simp only[go_sem,H,J,NH]
   ·simp only[go_sem,m,n,q,v,w,y,K,NH]
   ·exact qe
   ·exact qe
   simp only;omega
  rw[T]at a f0;simp only at a;unfold cr RY mc at f0;simp only at f0;unfold p';rw[a];show fq _ _ _ _ _ _;unfold cr;simp only;have F:=ed Ut UB Ux Uw Uz B P A hp C M<|ed N q5 R H J z m n q v w<|ai y K;repeat refine st ?_
  refine iL L6 f0 ?_;repeat refine st ?_
  exact rI
 obtain rfl:j=Z.length:=by omega
 have C:=nl Z.length;rw[OE]at a;rw[show cW c Q o []=((Q,none),o) from rfl]at a;unfold p';rw[a];simp only;have f1:=fS o (by omega);have Y:=hsl o;have hlf:=hsf o;generalize b7 c o=L at*;have F:=o' Ux Uw Uz C m n q v w y K;repeat refine ff fT ?_
 refine lL f1 ?_;repeat refine st ?_
 refine lp (D:=Nat×cD) (fun x h=>[(0, .loc 1000 (h 1000) 0 0),(4,ik),(85, .seq 1 (L.map aB)),(86,I L.length),(87,I x.1)]) (fun x h=>RY c d now x.2 h) (fun x h b=>(x.1<=L.length/\dU c Q (zL L)=dU c x.2 ((zL L).drop x.1)/\x.2.act=r.act)/\(h 1000=vs 1000/\h 1002=vs 1002)/\b 1000=false/\b 1001=false/\b 1002=false/\b 1003=false/\b 1004=false/\b 1005=false) (fun x=>L.length-x.1) (0,Q) ⟨⟨NJ _,rfl,e⟩,by simp only[go_sem,H,J,NH],by simp only[go_sem,m,n,q,v,w,y,NH]⟩ ?_;try clear m n q v w y K a e H J
 rintro⟨j,G⟩ ws es ⟨⟨hj,a,e⟩,⟨H,J⟩,m,n,q,v,w,y⟩;simp only at hj a e;by_cases l:j<L.length
 ·obtain⟨g,B⟩:=gE l;have X:=Y g (My B);obtain⟨t,A⟩: ∃t,c.Z9[g]? =some t:=⟨c.Z9[g]'(by omega),Ms (by omega)⟩;have C:=ip l;have M:=aD l (by omega);have N:=ip X;have R:5+t.name.length<=9223372036854775807:=by have:=ov E.h A;omega
  have f2:=fD G (by rw[e];exact hl) (by rw[e];exact hb) g X;rw[Ho (rL B)]at a;cases hd:uH c G.act g with
  | false=>
    rw[hd]at f2 a;simp only[NW,OB]at a;have F:=ed Ut Uu Ux Uw Uz B A C M N m<|ii n q v w y;repeat refine st ?_
    refine lL f2 ?_;repeat refine st ?_
    refine⟨(j+1,G),⟨⟨l,a,e⟩,?_,?_⟩,?_,?_,?_⟩
    ·simp only[go_sem,H,J,NH]
    ·simp only[go_sem,m,n,q,v,w,y,NH]
    ·exact qe
    ·exact qe
    simp only;omega
  | true=>
    rw[hd]at f2 a;simp only[Nn]at a;have f0:=hra G (j8 c g);have f:=lh G (j8 c g) 0;rw[AA A]at f0 a f;rcases T:g6 G ([100,111,110,101,46]++t.name) 0 with⟨r3,_|⟨k,ps⟩⟩
    ·rw[T]at a f0 f;simp only at a f;unfold cr RY mc at f0;simp only at f0;have F:=ed Ut Uu Ux Uw Uz B A C M N R<|kv m n q v w y;repeat refine st ?_
     refine lL f2 ?_;repeat refine st ?_
     refine iL L6 f0 ?_;repeat refine st ?_
     refine⟨(j+1,r3),⟨⟨l,a,f.trans e⟩,?_,?_⟩,?_,?_,?_⟩
     ·simp only[go_sem,H,J,NH]
     ·simp only[go_sem,m,n,q,v,w,y,NH]
     ·exact qe
     ·exact qe
     simp only;omega
    rw[T]at a f0;simp only at a;unfold cr RY mc at f0;simp only at f0;rw[a];show fq _ _ _ _ _ _;unfold cr;simp only;have F:=ed Ut Uu Ux Uw Uz B A C M N R<|qr H J m n q v w y;repeat refine st ?_
    refine lL f2 ?_;repeat refine st ?_
    refine iL L6 f0 ?_;repeat refine st ?_
    exact rI
 obtain rfl:j=L.length:=by omega
 have C:=nl L.length;rw[OH (by rw[ar];omega)]at a;rw[show dU c G []=(G,none) from rfl]at a;rw[a];show fq _ _ _ _ _ _;unfold cr;simp only;have F:=ed Ux Uw Uz C H J m n q v w y;repeat refine st ?_
 exact rI
def vP{c:aq}(b:Nd c){d now:Int}(g:aJ d=true)(j:0<=now/\now<=1099511627776): ∀ {l:List Int}{r:cD}{f:List Int},fe c r->(ak c d now r f l).1.1.act.length<=r.act.length+l.length
 |[],r,f,h=>ND _
 | i::l,r,f,h=>by
   unfold ak;split
   ·have:=vP b (l:=l) (f:=f) g j h;simp only[NQ];omega
   obtain⟨k,m⟩:=jo (r:={ r with act:=bQ (r.act++[i]) }) g j { h with } (b.ZW i);have a:=m.act;split
   ·rename_i n e;rw[e]at k a;have:=vP b (l:=l) (f:=if bX c i=3 then f++[i] else f) g j k;have a:n.act=bQ (r.act++[i]):=a;rw[a,l9,NA]at this;simp only[NQ,Pp]at this |-;omega
   rename_i x o;simp only;rw[a];simp only[l9,NA,NQ,Pp];omega
def xq(env:cf)(o m n:Addr)(c:aq)(d now:Int)(E:zs env o m n c d now)(r:cD)(B:fe c r)(e:r.act.Pairwise (· < ·))(A:r.act.length<=1000)(G:List Nat)(I: ∀i∈G,i<c.Z9.length)(z:G.length<=1000)(b:(ak c d now r [] (zL G)).1.2=none->tU c (ak c d now r [] (zL G)).1.1.act=true):
 i9 prog env 67 [1000,1001,1002,1003,1004,1005] pi (fun g=>[.loc 1000 (g 1000) 0 0, .seq 1 (G.map aB)]) (RY c d now r) (RY c d now (g5 c d now r (zL G)).1) (fun _=>cr m n (g5 c d now r (zL G)).2):=by
 have H:=bL E.h;have f0:=Jn env o m n c d now E r B A G I z;have C:=vP H (l:=zL G) (f:=[]) E.hd E.hn B;obtain⟨_,D⟩:=iX H (l:=zL G) (f:=[]) E.hd E.hn B e;have h:=fun(r:cD) A N (F:List Int) M y=>Dy env o m n c d now E r A N F M y;rw[ar]at C;unfold g5;rcases J:ak c d now r [] (zL G) with⟨⟨L,_|⟨k,R⟩⟩,f⟩
 ·rw[J]at f0 b C D;simp only at b C D;have K:=D trivial;have j:=K.len;rw[ar]at j
  have f1:=h L (by omega) (b trivial) f (fun i O=>by
   rcases (K.fin i).1 O with q|⟨q,_⟩
   ·simp at q
   obtain⟨k,P,rfl⟩:=NG.1 q
   exact aW.2 (I k P)) (by simp only[Pp]at j;omega)
  simp only;generalize p' c L f=Y at*;unfold EK RY mc at f0;unfold RY mc at f1;simp only at f0;refine qi func67 call67 ntmps67 results67 ?_;intro Q x a;obtain⟨p,s,t,u,v,w⟩:=RT a;have F:=mX Ux Uw Uz eu p s t u v w;repeat refine st ?_
  refine iL L6 f0 ?_;repeat refine st ?_
  refine iL L6 f1 ?_;repeat refine st ?_
  exact rI
 rw[J]at f0;simp only;unfold EK cr RY mc at f0;simp only at f0;show i9 _ _ _ _ _ _ _ _ fun _=>c0 _ _;refine qi func67 call67 ntmps67 results67 ?_;intro Q x a;obtain⟨p,s,t,u,v,w⟩:=RT a;have F:=qs Ux Uw Uz p s t u v w;repeat refine st ?_
 refine iL L6 f0 ?_;repeat refine st ?_
 exact rI
end
section
def Sy(P:Program)(env:cf)(nt:Nat)(c:Code)(Q:Exit->St->Prop):Nat->St->Prop
 |0,_=>False
 |n+1,s=>fq P env nt c (bD (Sy P env nt c Q n) Q) s
section
variable {P:Program} {env:cf} {nt:Nat} {c:Code} {Q:Exit->St->Prop} {s:St}
structure T9(P:Program)(env:cf)(nt:Nat)(c:Code)(Q:Exit->St->Prop)(n:Nat)(s:St):Prop where
 out:Sy P env nt c Q n s
theorem IF{b:Exit->St->Prop}(g: ∀e s,Q e s->b e s)(h:fq P env nt c Q s):fq P env nt c b s:=fun n x j k a w m i=>PS (h n x j k a w m i) (by
 rintro e p q ⟨o,l,d,f⟩
 exact⟨o,l,g _ _ d,f⟩)
theorem aT{n:Nat}(h:fq P env nt c (bD (T9 P env nt c Q n) Q) s):T9 P env nt c Q (n+1) s:=⟨IF (fun e s h=>by
 cases e
 case normal=>exact T9.out h
 all_goals exact h) h⟩
theorem BI(n:Nat)(h:Sy P env nt c Q n s):fq P env nt (.loop c) Q s:=fun o x j k a w m i=>by
 refine wpIn_loop_rounds n ?_
 induction n generalizing s a w m with
 |zero=>exact h.elim
 | succ n l=>
   rw[roundsIn_succ];refine PS (h o x j k a w m i) ?_;rintro e g q ⟨p,f,b,d⟩;cases e with
   |normal=>exact l b g q f d
   |_=>exact⟨p,f,b,d⟩
theorem aO(n:Nat)(h:T9 P env nt c Q n s):fq P env nt (.loop c) Q s:=BI n h.out
end
end
end Go.Proofs.YtfhkmjbjafeckaaGreatDoor
