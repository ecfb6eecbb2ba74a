/- The document's word on entering states. -/
import Derived.Test.YtfhkmjbjafeckaaGreatDoorP27
set_option maxRecDepth 100000
set_option maxHeartbeats 16000000
set_option linter.unusedSimpArgs false
set_option linter.defProp false
namespace Go.Proofs.YtfhkmjbjafeckaaGreatDoor
open Go.Proofs.Tryz
open Go.RowKit
section
def oV{c:aq}{k:Nat}{s:nr}(a:c.Z9[k]? =some s):aP c k=s.parent:=by unfold aP;rw[bN,a]
def Kt{c:aq}{k:Nat}{s:nr}(a:c.Z9[k]? =some s):K2 c k=s.name:=by unfold K2;rw[bN,a]
def xY{c:aq}{r:cD}{o l:List Int}{j:Nat}{i:Int}(hi:l[j]? =some i):cY c r o (l.drop j)=if aP c i<0 then cY c { r with over:=true } o (l.drop (j+1))
 else match gs r (ja c (aP c i)) 0 with
  |(a,none)=>cY c a (if 0<=aP c (aP c i)/\bY c (aP c (aP c i))=2 then o++[aP c (aP c i)] else o) (l.drop (j+1))
  |x=>(x,[]):=by
 rw[au hi]
 conv=>lhs;unfold cY
 rcases gs r (ja c (aP c i)) 0 with⟨a,_|_⟩<;>rfl
def Hk{c:aq}{r:cD}{l:List Int}{j:Nat}{g:Int}(hi:l[j]? =some g):dV c r (l.drop j)=if tw c r.act g=true then(match gs r (ja c g) 0 with
 |(a,none)=>dV c a (l.drop (j+1))
 |x=>x)
 else dV c r (l.drop (j+1)):=by
 rw[au hi]
 conv=>lhs;unfold dV
 rcases gs r (ja c g) 0 with⟨a,_|_⟩<;>rfl
def l8(r:cD)(s:List UInt8)(v:Int):(gs r s v).1.act=r.act:=by unfold gs;split<;>rfl
def lG{c:aq}(_h:Right c){l:List Int}{k:Nat}(a:k∈bt c l):k<c.Z9.length:=by
 unfold bt at a;split at a
 ·rename_i b;have:=(ND.1 a).2;have:=Mz.1 b _ (Mx.1 this);exact aV.1 this
 simp at a
def zm{c:aq}{k:Nat}{s:nr}(a:c.Z9[k]? =some s):ja c k=[100,111,110,101,46]++s.name:=by unfold ja;rw[Kt a]
def oh{c:aq}(h:ch c){k:Nat}{s:nr}(a:c.Z9[k]? =some s):s.name.length<=32:=by
 have:=h.st k s a;unfold cN bp at this;simp only[Mu,NF]at this;exact this.1.1.1.1.1.1.1
def Dv(env:b8)(a1 a2 a8:Addr)(c:aq)(d now:Int)(E:AT env a1 a2 a8 c d now)(r:cD)(hl:r.act.length<=100000)(hb:tI c r.act=true)(Z:List Int)(hF: ∀i∈Z,fb c i=true)(hFl:Z.length<=1000):
 ip prog env 122 [1000,1001,1002,1003,1004,1005] ph (fun g=>[.loc 1000 (g 1000) 0 0, .seq 1 (Z.map aa)]) (RY c d now r) (RY c d now (p' c r Z).1) (fun _=>cr a2 a8 (p' c r Z).2):=by
 have hfew:=E.h.Z6;have O:=E.h.toRight.par;have hra:=fun(r:cD)(s:List UInt8)=>wW env a2 a8 E.he.e8 c d now r s 0;have fT:=bQ env c;have fS:=fun(o:List Int)(ho:o.length<=1000000)=>((gB env c E.h.toRight o ho).lend (al (fun _=>rfl) _)).seen;have fD:=fun(r:cD)(hl:r.act.length<=100000)(hb:tI c r.act=true)(g:Nat)(V:g<c.Z9.length)=>(Hv env a1 a8 E.he c E.h E.hs r.act (by omega) hb g V).lend rfl;have hsl:=fun(o:List Int)(k:Nat)(hk:k∈bt c o)=>lG E.h.toRight hk;have hsf:=fun(o:List Int)=>cW E.h.toRight o;unfold aQ at fT fS;unfold aG at fT fD;refine qi func122 call122 ntmps122 results122 ?_;intro vs esc U;obtain⟨m,n,q,v,w,y⟩:=Sf U;have F:=qr UA Uz UC m n q v w y;repeat refine st ?_
 refine ao 5 5 3 1 ?_;refine lp (D:=Nat×cD×List Int) (fun x h=>[(0, .loc 1000 (h 1000) 0 0),(4,h9),(5, .row 5 (h 5)),(15, .seq 1 (Z.map aa)),(16,I Z.length),(17,I x.1)]) (fun x h=>(5,⟨1,x.2.2.map aa,3,true⟩)::RY c d now x.2.1 h) (fun x h b=>(x.1<=Z.length/\cY c r [] Z=cY c x.2.1 x.2.2 (Z.drop x.1)/\x.2.1.act=r.act/\x.2.2.length<=x.1)/\(h 1000=vs 1000/\h 1002=vs 1002)/\b 1000=false/\b 1001=false/\b 1002=false/\b 1003=false/\b 1004=false/\b 1005=false/\b 5=false) (fun x=>Z.length-x.1) (0,r,[]) ⟨⟨NG _,rfl,rfl,NC _⟩,by simp only[go_sem,NH],by simp only[go_sem,m,n,q,v,w,y,NH]⟩ ?_;try clear m n q v w y
 rintro⟨j,Q,o⟩ ws es ⟨⟨hj,a,e,hol⟩,⟨H,J⟩,m,n,q,v,w,y,K⟩;simp only at hj a e hol;by_cases l:j<Z.length
 ·obtain⟨i,B⟩:=gE l;have hi:=hF i (Mv B);obtain⟨k,s,rfl,P,_⟩:=cS hi;have hkl:=(Mr.1 P).1;have C:=it l;have M:=aD l (by omega);have N:=it hkl;have hps:=O k s P;rw[xY B,oV P]at a;by_cases z:s.parent<0
  ·rw[Mw z]at a;have F:=ed Uw UE UA Uz UC B P C M N z<|mc m n q v w y K;repeat refine st ?_
   refine⟨(j+1,{ Q with over:=true },o),⟨⟨l,a,e,by simp only;omega⟩,?_,?_⟩,?_,?_,?_⟩
   ·simp only[go_sem,H,J,NH]
   ·simp only[go_sem,m,n,q,v,w,y,K,NH]
   ·exact qe
   ·exact qe
   simp only;omega
  rw[Mt z]at a;obtain⟨p,hp⟩: ∃p:Nat,s.parent=p:=⟨s.parent.toNat,by omega⟩;rw[hp]at a z hps;obtain⟨t,A⟩: ∃t,c.Z9[p]? =some t:=⟨c.Z9[p]'(by omega),Mq (by omega)⟩;have q5:(p:Int)< (c.Z9.length:Int):=by omega
  have htp:=O p t A;have R:5+t.name.length<=9223372036854775807:=by have:=oh E.h A;omega
  have f0:=hra Q (ja c p);have f:=l8 Q (ja c p) 0;rw[zm A]at f0 a f;rw[oV A]at a;rcases T:gs Q ([100,111,110,101,46]++t.name) 0 with⟨G,_|⟨k,ps⟩⟩
  ·rw[T]at a f0 f;simp only at a f;unfold cr RY lf at f0;simp only at f0;by_cases W:0<=t.parent
   ·obtain⟨g,V⟩: ∃g:Nat,t.parent=g:=⟨t.parent.toNat,by omega⟩;rw[V]at a htp;obtain⟨u,hu⟩: ∃t,c.Z9[g]? =some t:=⟨c.Z9[g]'(by omega),Mq (by omega)⟩;have q6:(g:Int)< (c.Z9.length:Int):=by omega
    rw[iQ hu]at a;cases S:u.kind==2 with
    | true=>
      rw[Mw ⟨by omega,by simpa using S⟩]at a;have q7:cU (o.length+1) 8:=aC (by omega) (by omega);have q8:(o++[(g:Int)]).map aa=o.map aa++[[I g]]:=by rw[NA];rfl
      have F:=ed Uw UE UA Uz UC B P A hu hp V<|ed S C M N q5 q6 q7 R z m n<|g9 q v w y K;repeat refine st ?_
      refine iL L6 f0 ?_;repeat refine st ?_
      refine⟨(j+1,G,o++[(g:Int)]),⟨⟨l,a,f.trans e,by simp only[My,Na];omega⟩,?_,?_⟩,?_,?_,?_⟩
      ·simp only[go_sem,H,J,NH]
      ·simp only[go_sem,m,n,q,v,w,y,K,NH]
      ·exact qe
      ·simp only[q8];exact qe
      simp only;omega
    | false=>
      rw[Mt (fun hh=>by rw[hh.2]at S;cases S)]at a;have F:=ed Uw UE UA Uz UC B P A hu hp V<|ed S C M N q5 q6 R z m n q<|hU v w y K;repeat refine st ?_
      refine iL L6 f0 ?_;repeat refine st ?_
      refine⟨(j+1,G,o),⟨⟨l,a,f.trans e,by simp only;omega⟩,?_,?_⟩,?_,?_,?_⟩
      ·simp only[go_sem,H,J,NH]
      ·simp only[go_sem,m,n,q,v,w,y,K,NH]
      ·exact qe
      ·exact qe
      simp only;omega
   rw[Mt (fun hh=>W hh.1)]at a;have F:=ed Uw UE UA Uz UC B P A hp W C<|ed M N q5 R z m n q v w y K;repeat refine st ?_
   refine iL L6 f0 ?_;repeat refine st ?_
   refine⟨(j+1,G,o),⟨⟨l,a,f.trans e,by simp only;omega⟩,?_,?_⟩,?_,?_,?_⟩
   ·simp only[go_sem,H,J,NH]
   ·simp only[go_sem,m,n,q,v,w,y,K,NH]
   ·exact qe
   ·exact qe
   simp only;omega
  rw[T]at a f0;simp only at a;unfold cr RY lf at f0;simp only at f0;unfold p';rw[a];show fp _ _ _ _ _ _;unfold cr;simp only;have F:=ed Uw UE UA Uz UC B P A hp C M<|ed N q5 R H J z m n q v w<|ai y K;repeat refine st ?_
  refine iL L6 f0 ?_;repeat refine st ?_
  exact rI
 obtain rfl:j=Z.length:=by omega
 have C:=nl Z.length;rw[ON]at a;rw[show cY c Q o []=((Q,none),o) from rfl]at a;unfold p';rw[a];simp only;have f1:=fS o (by omega);have Y:=hsl o;have hlf:=hsf o;generalize bt c o=L at*;have F:=ql UA Uz UC C m n q v w y K;repeat refine fc fT ?_
 refine lL f1 ?_;repeat refine st ?_
 refine lp (D:=Nat×cD) (fun x h=>[(0, .loc 1000 (h 1000) 0 0),(4,h9),(85, .seq 1 (L.map aB)),(86,I L.length),(87,I x.1)]) (fun x h=>RY c d now x.2 h) (fun x h b=>(x.1<=L.length/\dV c Q (zL L)=dV c x.2 ((zL L).drop x.1)/\x.2.act=r.act)/\(h 1000=vs 1000/\h 1002=vs 1002)/\b 1000=false/\b 1001=false/\b 1002=false/\b 1003=false/\b 1004=false/\b 1005=false) (fun x=>L.length-x.1) (0,Q) ⟨⟨NG _,rfl,e⟩,by simp only[go_sem,H,J,NH],by simp only[go_sem,m,n,q,v,w,y,NH]⟩ ?_;try clear m n q v w y K a e H J
 rintro⟨j,G⟩ ws es ⟨⟨hj,a,e⟩,⟨H,J⟩,m,n,q,v,w,y⟩;simp only at hj a e;by_cases l:j<L.length
 ·obtain⟨g,B⟩:=gE l;have X:=Y g (Mv B);obtain⟨t,A⟩: ∃t,c.Z9[g]? =some t:=⟨c.Z9[g]'(by omega),Mq (by omega)⟩;have C:=it l;have M:=aD l (by omega);have N:=it X;have R:5+t.name.length<=9223372036854775807:=by have:=oh E.h A;omega
  have f2:=fD G (by rw[e];exact hl) (by rw[e];exact hb) g X;rw[Hk (rJ B)]at a;cases hd:tw c G.act g with
  | false=>
    rw[hd]at f2 a;simp only[NU,OA]at a;have F:=ed Uw Ux UA Uz UC B A C M N m<|g9 n q v w y;repeat refine st ?_
    refine lL f2 ?_;repeat refine st ?_
    refine⟨(j+1,G),⟨⟨l,a,e⟩,?_,?_⟩,?_,?_,?_⟩
    ·simp only[go_sem,H,J,NH]
    ·simp only[go_sem,m,n,q,v,w,y,NH]
    ·exact qe
    ·exact qe
    simp only;omega
  | true=>
    rw[hd]at f2 a;simp only[Nt]at a;have f0:=hra G (ja c g);have f:=l8 G (ja c g) 0;rw[zm A]at f0 a f;rcases T:gs G ([100,111,110,101,46]++t.name) 0 with⟨r3,_|⟨k,ps⟩⟩
    ·rw[T]at a f0 f;simp only at a f;unfold cr RY lf at f0;simp only at f0;have F:=ed Uw Ux UA Uz UC B A C M N R<|i' m n q v w y;repeat refine st ?_
     refine lL f2 ?_;repeat refine st ?_
     refine iL L6 f0 ?_;repeat refine st ?_
     refine⟨(j+1,r3),⟨⟨l,a,f.trans e⟩,?_,?_⟩,?_,?_,?_⟩
     ·simp only[go_sem,H,J,NH]
     ·simp only[go_sem,m,n,q,v,w,y,NH]
     ·exact qe
     ·exact qe
     simp only;omega
    rw[T]at a f0;simp only at a;unfold cr RY lf at f0;simp only at f0;rw[a];show fp _ _ _ _ _ _;unfold cr;simp only;have F:=ed Uw Ux UA Uz UC B A C M N R<|n4 H J m n q v w y;repeat refine st ?_
    refine lL f2 ?_;repeat refine st ?_
    refine iL L6 f0 ?_;repeat refine st ?_
    exact rI
 obtain rfl:j=L.length:=by omega
 have C:=nl L.length;rw[OG (by rw[am];omega)]at a;rw[show dV c G []=(G,none) from rfl]at a;rw[a];show fp _ _ _ _ _ _;unfold cr;simp only;have F:=ed UA Uz UC C H J m n q v w y;repeat refine st ?_
 exact rI
def vH{c:aq}(b:PB c){d now:Int}(g:aL d=true)(j:0<=now/\now<=1099511627776): ∀ {l:List Int}{r:cD}{f:List Int},ff c r->(ak c d now r f l).1.1.act.length<=r.act.length+l.length
 |[],r,f,h=>NC _
 | i::l,r,f,h=>by
   unfold ak;split
   ·have:=vH b (l:=l) (f:=f) g j h;simp only[NN];omega
   obtain⟨k,m⟩:=jm (r:={ r with act:=bR (r.act++[i]) }) g j { h with } (b.ZW i);have a:=m.act;split
   ·rename_i n e;rw[e]at k a;have:=vH b (l:=l) (f:=if bY c i=3 then f++[i] else f) g j k;have a:n.act=bR (r.act++[i]):=a;rw[a,l6,My]at this;simp only[NN,Pq]at this |-;omega
   rename_i x o;simp only;rw[a];simp only[l6,My,NN,Pq];omega
def xh(env:b8)(o m n:Addr)(c:aq)(d now:Int)(E:AT env o m n c d now)(r:cD)(B:ff c r)(e:r.act.Pairwise (· < ·))(A:r.act.length<=1000)(G:List Nat)(I: ∀i∈G,i<c.Z9.length)(z:G.length<=1000)(b:(ak c d now r [] (zL G)).1.2=none->tI c (ak c d now r [] (zL G)).1.1.act=true):
 ip prog env 67 [1000,1001,1002,1003,1004,1005] ph (fun g=>[.loc 1000 (g 1000) 0 0, .seq 1 (G.map aB)]) (RY c d now r) (RY c d now (gv c d now r (zL G)).1) (fun _=>cr m n (gv c d now r (zL G)).2):=by
 have H:=bU E.h;have f0:=Jf env o m n c d now E r B A G I z;have C:=vH H (l:=zL G) (f:=[]) E.hd E.hn B;obtain⟨_,D⟩:=iX H (l:=zL G) (f:=[]) E.hd E.hn B e;have h:=fun(r:cD) A N (F:List Int) M y=>Dv env o m n c d now E r A N F M y;rw[am]at C;unfold gv;rcases J:ak c d now r [] (zL G) with⟨⟨L,_|⟨k,R⟩⟩,f⟩
 ·rw[J]at f0 b C D;simp only at b C D;have K:=D trivial;have j:=K.len;rw[am]at j
  have f1:=h L (by omega) (b trivial) f (fun i O=>by
   rcases (K.fin i).1 O with q|⟨q,_⟩
   ·simp at q
   obtain⟨k,P,rfl⟩:=NE.1 q
   exact aV.2 (I k P)) (by simp only[Pq]at j;omega)
  simp only;generalize p' c L f=Y at*;unfold EI RY lf at f0;unfold RY lf at f1;simp only at f0;refine qi func67 call67 ntmps67 results67 ?_;intro Q x a;obtain⟨p,s,t,u,v,w⟩:=Sf a;have F:=lE UA Uz UC fB p s t u v w;repeat refine st ?_
  refine iL L6 f0 ?_;repeat refine st ?_
  refine iL L6 f1 ?_;repeat refine st ?_
  exact rI
 rw[J]at f0;simp only;unfold EI cr RY lf at f0;simp only at f0;show ip _ _ _ _ _ _ _ _ fun _=>dt _ _;refine qi func67 call67 ntmps67 results67 ?_;intro Q x a;obtain⟨p,s,t,u,v,w⟩:=Sf a;have F:=qr UA Uz UC p s t u v w;repeat refine st ?_
 refine iL L6 f0 ?_;repeat refine st ?_
 exact rI
end
section
def S5(P:Program)(env:b8)(nt:Nat)(c:Code)(Q:Exit->St->Prop):Nat->St->Prop
 |0,_=>False
 |n+1,s=>fp P env nt c (bD (S5 P env nt c Q n) Q) s
section
variable {P:Program} {env:b8} {nt:Nat} {c:Code} {Q:Exit->St->Prop} {s:St}
structure Ud(P:Program)(env:b8)(nt:Nat)(c:Code)(Q:Exit->St->Prop)(n:Nat)(s:St):Prop where
 out:S5 P env nt c Q n s
theorem IE{b:Exit->St->Prop}(g: ∀e s,Q e s->b e s)(h:fp P env nt c Q s):fp P env nt c b s:=fun n x j k a w m i=>PS (h n x j k a w m i) (by
 rintro e p q ⟨o,l,d,f⟩
 exact⟨o,l,g _ _ d,f⟩)
theorem aT{n:Nat}(h:fp P env nt c (bD (Ud P env nt c Q n) Q) s):Ud P env nt c Q (n+1) s:=⟨IE (fun e s h=>by
 cases e
 case normal=>exact Ud.out h
 all_goals exact h) h⟩
theorem Ay(n:Nat)(h:S5 P env nt c Q n s):fp P env nt (.loop c) Q s:=fun o x j k a w m i=>by
 refine wpIn_loop_rounds n ?_
 induction n generalizing s a w m with
 |zero=>exact h.elim
 | succ n l=>
   rw[roundsIn_succ];refine PS (h o x j k a w m i) ?_;rintro e g q ⟨p,f,b,d⟩;cases e with
   |normal=>exact l b g q f d
   |_=>exact⟨p,f,b,d⟩
theorem aO(n:Nat)(h:Ud P env nt c Q n s):fp P env nt (.loop c) Q s:=Ay n h.out
end
end
section
def G8{c:aq}{A:List Nat}{i:Nat}(e:(zL A).Pairwise (· < ·))(b: ∀k∈A,k<c.Z9.length)(hi:i<c.Z9.length)(f:(zL A).contains (i:Int)=false):zL (nA c (A++[i]))=bR (zL A++[(i:Int)]):=by
 obtain⟨g,h⟩:=u6 e f;refine mD (by unfold nA;exact yc) g fun x=> ?_;rw[h];constructor
 ·intro d;obtain⟨k,a,rfl⟩:=NE.1 d;have:=mQ.1 (ND.1 a).2;rcases NY.1 this with q|q
  ·exact .inl (NE.2 ⟨k,q,rfl⟩)
  exact .inr (by rw[NO.1 q])
 rintro(d|rfl)
 ·obtain⟨k,a,rfl⟩:=NE.1 d;exact NE.2 ⟨k,ND.2 ⟨NX.2 (b k a),mQ.2 (by simp[a])⟩,rfl⟩
 exact NE.2 ⟨i,ND.2 ⟨NX.2 hi,mQ.2 (by simp)⟩,rfl⟩
def S8(c:aq)(g:Int):Bool:=decide (0<=g)&&(bY c g==2)
def MU(c:aq)(A:List Int)(g:Int):(if 0<=g/\bY c g=2 then A.filter (S8 c)++[g] else A.filter (S8 c))=(A++[g]).filter (S8 c):=by
 rw[N5];split
 ·rename_i h;have:S8 c g=true:=by unfold S8;simp[h]
  rw[QM this];rfl
 rename_i h;have: ¬S8 c g=true:=by unfold S8;simpa using h
 rw[QN this];simp
def LS(c:aq)(A:List Int):bt c (A.filter (S8 c))=(gu c (-1)).filter fun k:Nat=>A.contains (k:Int)&&bY c k==2:=by
 have f:(A.filter (S8 c)).all (fb c)=true:=by
  rw[Mz];intro x e;have b:=(ND.1 e).2;unfold S8 bY at b;rw[Mu]at b;cases a:at_ c x with
  |none=>rw[a]at b;simp at b
  | some s=>
    unfold at_ at a;split at a
    ·rename_i d;have:=(Mr.1 a).1;exact aI.2 ⟨d,by omega⟩
    cases a
 unfold bt;rw[Mw f];apply Ob;intro k _;rw[N4,Mu,Mx,Mx,ND];unfold S8;simp
def tc(c:aq): ∀(l:List Int)(r:cD)(o:List Int),wD (cY c r o l).1.2
 |[],r,o=>fun x h=>by cases h
 | i::l,r,o=>by
   unfold cY;split
   ·exact tc c l _ _
   split
   ·exact tc c l _ _
   exact u9 _ _ _
def t8(c:aq): ∀(l:List Int)(r:cD),wD (dV c r l).2
 |[],r=>fun x h=>by cases h
 | i::l,r=>by
   unfold dV;split
   ·split
    ·exact t8 c l _
    exact u9 _ _ _
   exact t8 c l _
def tz(c:aq)(d now:Int): ∀(l:List Int)(r:cD)(f:List Int),wD (ak c d now r f l).1.2
 |[],r,f=>fun x h=>by cases h
 | i::l,r,f=>by
   unfold ak;split
   ·exact tz c d now l _ _
   split
   ·exact tz c d now l _ _
   exact wB _ _ _ _ _
def wI{e:tD}(h:wD e){k:Nat}{ps:List Int}(a:e=some (k,ps)):((k:Int)==0)=false:=by
 have:=h (k,ps) a;simp only at this;simp;omega
def CV(c:aq)(d now:Int)(r:cD)(l:List Int):wD (gv c d now r l).2:=by
 have a:=tz c d now l r [];unfold gv;split
 ·rename_i i f e;unfold p';have b:=tc c f i [];split
  ·exact t8 _ _ _
  rename_i x y h g;rw[g]at b;exact b
 rename_i x y h e;rw[e]at a;exact a
def LX{c:aq}{act:List Int}(d:tI c act=true){i:Int}(hi:i∈act):aP c i<0\/(aP c i∈act/\(0<=aP c (aP c i)->aP c (aP c i)∈act)):=by
 have b:=cx d;obtain⟨_,_,_,_,e,_⟩:=b.of hi;rcases e with q|q
 ·exact .inl q
 obtain⟨_,_,_,_,a,_⟩:=b.of q;exact .inr ⟨q,fun f=>a.resolve_left (by omega)⟩
def Hl{c:aq}{r:cD}{l:List Int}{g:Int} :dV c r (g::l)=if tw c r.act g=true then(match gs r (ja c g) 0 with
 |(a,none)=>dV c a l
 |x=>x)
 else dV c r l:=by
 conv=>lhs;unfold dV
 rcases gs r (ja c g) 0 with⟨a,_|_⟩<;>rfl
def qH{c:aq}{d now:Int}{r:cD}{l:List Int}{e:Nat×List Int}(h:(ak c d now r [] l).1.2=some e):gv c d now r l=(ak c d now r [] l).1:=by
 unfold gv;rcases a:ak c d now r [] l with⟨⟨b,_|x⟩,f⟩
 ·rw[a]at h;cases h
 rfl
def LI{c:aq}{r:cD}{l:List Int}{e:Nat×List Int}(h:(cY c r [] l).1.2=some e):p' c r l=(cY c r [] l).1:=by
 unfold p';rcases a:cY c r [] l with⟨⟨b,_|x⟩,f⟩
 ·rw[a]at h;cases h
 rfl
def sX(env:b8)(c:aq)(h:ch c):b7 prog env 108 [.agg (aA c)] (.own 3 1 ((gu c (-1)).map aB)):=by
 have f0:=pe env c h.toRight (c.Z9.length+1) (-1) (by omega) (by omega);unfold aA at f0;refine qf func108 call108 ntmps108 results108 ?_;have F:=aA.eq_1;exact hH f0
def DU(env:b8)(c:aq)(h:ch c)(hcv:c.vars.length<=1000)(d now:Int)(hd:aL d=true)(hn:0<=now/\now<=1099511627776)(r:cD)(hr:ff c r)(Z:r.act.Pairwise (· < ·))(hin: ∀x∈r.act,fb c x=true)(hl:r.act.length<=1000)(G:List Nat)(hG: ∀i∈G,i<c.Z9.length)(hGl:G.length<=1000)(hleg:(ak c d now r [] (zL G)).1.2=none->tI c (ak c d now r [] (zL G)).1.1.act=true):
 b7 prog env 59 [.agg (aA c), .agg (fi r d now none), .seq 1 (G.map aB)] (.agg (fi (gv c d now r (zL G)).1 d now (gv c d now r (zL G)).2)):=by
 have hfew:=h.Z6;have hpar:=h.toRight.par;have hAc:=bU h;have hall:=fun(r:cD) hr hl (l:List j') hll ha=>BX env c (by omega) hcv d now hd hn r hr hl l hll ha;have hok:=fun(r:cD)(hr:ff c r)(l:List j') ha=>jm hd hn (l:=l) hr ha;have hri:=fun(l:List Nat) hl=>((Cx env c (by omega) l hl).lend (al (fun _=>rfl) _)).seen;have fIn:=fun(l:List Int)(hl:l.length<=1000000)(i:Nat)=>cK env l i hl;have fW:=((sX env c h).lend (al (fun _=>rfl) _)).seen;have hD:=fun(act:List Int) hl (i:Nat) hi=>w7 env c h act hl 40 i hi (by omega);have hra:=fun(r:cD)(s:List UInt8)=>sW env r d now s 0;have hcE:=tz c d now (zL G) r [];obtain⟨_,hck⟩:=iX hAc (l:=zL G) (f:=[]) hd hn hr Z;have hWl:(gu c (-1)).length<=1000000:=by have:=uU h.toRight;omega
 have hWk: ∀k∈gu c (-1),k<c.Z9.length:=fun k N=>(gU h.toRight k).1 N;have hchf:aA c=[Sg c.name,I c.initial,pf c.vars,qa c.Z9,sT c.trans]:=rfl;rw[hchf]at hri fW hD;refine qf func59 call59 ntmps59 results59 ?_;have F:=gb UB fi.eq_2 Uv;repeat refine st ?_
 refine aH (D:=Nat×cD×List Int×tD) (fun x R=>[(2, .seq 1 (G.map aB)),(3, .loc 3 (R 3) 0 0),(4, .loc 4 (R 4) 0 0),(6, .loc 6 (R 6) 0 0),(7, .row 15 (R 15)),(8,I x.1)]) (fun x R=>[(3,⟨5,[aA c],26,false⟩),(4,⟨11,[fi x.2.1 d now x.2.2.2],91,false⟩),(6,⟨11,[[cy,cy,cy,cy,B false,cy,cy,I 0,I 0,I 0,I 0]],91,false⟩),(15,⟨1,x.2.2.1.map aa,3,true⟩)]) (fun x _ J=>(x.1<=G.length/\x.2.2.1.length<=x.1/\(match x.2.2.2 with
  |none=>ak c d now r [] (zL G)=ak c d now x.2.1 x.2.2.1 ((zL G).drop x.1)/\ff c x.2.1/\x.2.1.act.Pairwise (· < ·)/\(∀y∈x.2.1.act,fb c y=true)/\x.2.1.act.length<=r.act.length+x.1
  |some e=>(ak c d now r [] (zL G)).1=(x.2.1,some e)))/\J 4=false/\J 6=false/\J 15=false) (fun x=>(G.length-x.1)+(if x.2.2.2.isSome=true then 0 else 1)) (0,r,[],none) ?_ ?_ ?_ ?_
 ·exact⟨⟨NG _,NG _,rfl,hr,Z,hin,NC _⟩,by simp only[go_sem,NH]⟩
 ·exact qe
 ·(simp only[go_sem,F])
  try rfl
 rintro⟨j,E,f,e⟩ ws es ⟨⟨hj,hfl,a⟩,b,m,v⟩;simp only at hj hfl a;rcases e with _|⟨k,ps⟩
 ·obtain⟨a,hr1,P,hin1,hact⟩:=a;by_cases n:j<G.length
  ·obtain⟨i,K⟩:=gE n;have hil:=hG i (Mv K);obtain⟨s,T⟩:=gE hil;obtain⟨_,s1,s2⟩:=uS h T;have ho:Tm c i=s.ZW:=by unfold Tm;rw[bN,T]
   have o:=it n;have w:=aD n (by omega);have q3:=it hil;have V:=fIn E.act (by omega) i;rw[xk (rJ K),ho,iQ T]at a;cases hc:E.act.contains (i:Int) with
   | true=>
     rw[hc]at a V;simp only[Nt]at a;have F:=ed UB fi.eq_2 Uv Uw Ux K T o w q3 b<|ai m v;repeat refine fc V ?_
     refine⟨(j+1,E,f,none),⟨⟨n,by simp only;omega,a,hr1,P,hin1,by simp only;omega⟩,?_⟩,?_,?_,?_⟩
     ·simp only[go_sem,b,m,v,NH]
     ·exact qe
     ·exact qe
     simp;omega
   | false=>
     rw[hc]at a V;simp only[NU,OA]at a;obtain⟨A,hA⟩: ∃A:List Nat,E.act=zL A:=⟨_,IR fun x K=>(aI.1 (hin1 x K)).1⟩;have hAlt: ∀k∈A,k<c.Z9.length:=fun k N=>aV.1 (hin1 k (by rw[hA];exact NE.2 ⟨k,N,rfl⟩));have hrs:=G8 (c:=c) (by rw[<-hA];exact P) hAlt hil (by rw[<-hA];exact hc);rw[<-hA]at hrs;have hAl:A.length=E.act.length:=by rw[hA,am]
     have X:(bR (E.act++[(i:Int)])).length<=r.act.length+(j+1):=by rw[l6,My,Na];omega
     obtain⟨s3,s4⟩:=u6 P hc;have fr:=hri (A++[i]) (by rw[My,Na];omega);have fr1:(A++[i]).map aB=E.act.map aa++[[I i]]:=by rw[hA,bd,NA];rfl
     rw[fr1, <-bd,hrs]at fr;have f0:=hall { E with act:=bR (E.act++[(i:Int)]) } { hr1 with } (by simp only;omega) s.ZW (by omega) s2;obtain⟨k1,k2⟩:=hok { E with act:=bR (E.act++[(i:Int)]) } { hr1 with } s.ZW s2;have q4:cU (E.act.length+1) 8:=aC (by omega) (by omega);have q5:cU E.act.length 8:=aC (by omega) (by omega);have q6:cU (f.length+1) 8:=aC (by omega) (by omega);have q7:(f++[(i:Int)]).map aa=f.map aa++[[I i]]:=by rw[NA];rfl
     rcases hX:l' c d now { E with act:=bR (E.act++[(i:Int)]) } s.ZW with⟨M,_|⟨k,ps⟩⟩
     ·rw[hX]at a f0 k1 k2;simp only at a k1;have hae:M.act=bR (E.act++[(i:Int)]):=k2.act;have u:M.act.length<=r.act.length+(j+1):=by rw[hae];exact X
      have hrise2:M.act.Pairwise (· < ·):=by rw[hae];exact s3
      have hin2: ∀y∈M.act,fb c y=true:=fun y hy=>by
       rw[hae,s4]at hy;rcases hy with q|rfl
       ·exact hin1 y q
       exact aV.2 hil
      try clear k2 hae X s3 s4 hrs
      generalize hS:bR (E.act++[(i:Int)])=S at*;unfold fi at f0;simp only at f0;rw[hchf]at f0;cases h3:s.kind==3 with
      | false=>
        have h4: ¬s.kind=3:=by simpa using h3
        rw[Mt h4]at a;have F:=ed UB fi.eq_2 Uv Uw Ux UK K T h3 o w<|i' q3 q4 q5 b m v;repeat refine fc V ?_
        refine lL fr ?_;repeat refine fc f0 ?_
        refine⟨(j+1,M,f,none),⟨⟨n,by simp only;omega,a,k1,hrise2,hin2,u⟩,?_⟩,?_,?_,?_⟩
        ·simp only[go_sem,b,m,v,NH]
        ·exact qe
        ·exact qe
        simp;omega
      | true=>
        have h4:s.kind=3:=by simpa using h3
        rw[Mw h4]at a;have F:=ed UB fi.eq_2 Uv Uw Ux UK K T h3 o w<|mc q3 q4 q5 q6 b m v;repeat refine fc V ?_
        refine lL fr ?_;repeat refine fc f0 ?_
        refine⟨(j+1,M,f++[(i:Int)],none),⟨⟨n,by simp only[My,Na];omega,a,k1,hrise2,hin2,u⟩,?_⟩,?_,?_,?_⟩
        ·simp only[go_sem,b,m,v,NH]
        ·exact qe
        ·simp only[q7];exact qe
        simp;omega
     ·rw[hX]at a f0;simp only at a;try clear k1 k2 X s3 s4 hrs
      generalize hS:bR (E.act++[(i:Int)])=S at*;unfold fi at f0;simp only at f0;rw[hchf]at f0;cases h3:s.kind==3 with
      | false=>
        have F:=ed UB fi.eq_2 Uv Uw Ux UK K T h3 o w<|i' q3 q4 q5 b m v;repeat refine fc V ?_
        refine lL fr ?_;repeat refine fc f0 ?_
        refine⟨(j+1,M,f,some (k,ps)),⟨⟨n,by simp only;omega,by rw[a]⟩,?_⟩,?_,?_,?_⟩
        ·simp only[go_sem,b,m,v,NH]
        ·exact qe
        ·exact qe
        simp;omega
      | true=>
        have F:=ed UB fi.eq_2 Uv Uw Ux UK K T h3 o w<|mc q3 q4 q5 q6 b m v;repeat refine fc V ?_
        refine lL fr ?_;repeat refine fc f0 ?_
        refine⟨(j+1,M,f++[(i:Int)],some (k,ps)),⟨⟨n,by simp only[My,Na];omega,by rw[a]⟩,?_⟩,?_,?_,?_⟩
        ·simp only[go_sem,b,m,v,NH]
        ·exact qe
        ·simp only[q7];exact qe
        simp;omega
  obtain rfl:j=G.length:=by omega
  have o:=nl G.length;rw[OG (by rw[am];omega)]at a;rw[show ak c d now E f []=((E,none),f) from rfl]at a;rw[a]at hck hleg;have hb:=hleg rfl;have kc:=hck rfl;simp only at hb kc
  have hfin: ∀x∈f,x∈E.act:=fun x K=>by
   rcases (kc.fin x).1 K with q|⟨q,_⟩
   ·simp at q
   exact(kc.mem x).2 (.inr q)
  have hfe:=tc c f E [];unfold gv;rw[a];simp only;have hl1:E.act.length<=1000000:=by omega
  try clear hck hleg a hcE kc hall hri hr Z hin hl
  have F:=mc UB fi.eq_2 Uv o b m v;repeat refine st ?_
  refine aH (D:=Nat×cD×List Int×tD) (fun x R=>[(3, .loc 3 (R 3) 0 0),(4, .loc 4 (R 4) 0 0),(6, .loc 6 (R 6) 0 0),(7, .row 15 (R 15)),(9, .row 79 (R 79)),(10,I x.1)]) (fun x R=>[(3,⟨5,[aA c],26,false⟩),(4,⟨11,[fi x.2.1 d now x.2.2.2],91,false⟩),(6,⟨11,[[cy,cy,cy,cy,B false,cy,cy,I 0,I 0,I 0,I 0]],91,false⟩),(15,⟨1,f.map aa,3,true⟩),(79,⟨1,x.2.2.1.map aa,3,true⟩)]) (fun x _ J=>(x.1<=f.length/\x.2.2.1.length<=x.1/\(match x.2.2.2 with
   |none=>cY c E [] f=cY c x.2.1 (x.2.2.1.filter (S8 c)) (f.drop x.1)/\x.2.1.act=E.act/\ ∀g∈x.2.2.1,0<=g->g∈E.act
   |some e=>(cY c E [] f).1=(x.2.1,some e)))/\J 4=false/\J 6=false/\J 15=false/\J 79=false) (fun x=>(f.length-x.1)+(if x.2.2.2.isSome=true then 0 else 1)) (0,E,[],none) ?_ ?_ ?_ ?_
  ·exact⟨⟨NG _,NG _,rfl,rfl,fun g hg=>by simp at hg⟩,by simp only[go_sem,b,m,v,NH]⟩
  ·exact qe
  ·(simp only[go_sem,F])
   try rfl
  try clear b m v
  rintro⟨j,M,A,e⟩ ws es ⟨⟨hj,hal,a⟩,b,m,v,H⟩;simp only at hj hal a;rcases e with _|⟨k,ps⟩
  ·obtain⟨a,u,hAin⟩:=a;by_cases n:j<f.length
   ·obtain⟨i,K⟩:=gE n;have hia:=hfin i (Mv K);obtain⟨_,_,hiz,_⟩:=(cx hb).of hia;have O:=LX hb hia;obtain⟨k,s,rfl,T,_⟩:=cS hiz;have hkl:=(Mr.1 T).1;have o:=it n;have w:=aD n (by omega);have q3:=it hkl;have hps:=hpar k s T;rw[oV T]at O;rw[xY K,oV T]at a;by_cases Y:s.parent<0
    ·rw[Mw Y]at a;have F:=ed UB fi.eq_2 Uv Uw UE K T Y o w q3<|hU b m v H;repeat refine st ?_
     refine⟨(j+1,{ M with over:=true },A,none),⟨⟨n,by simp only;omega,a,u,hAin⟩,?_⟩,?_,?_,?_⟩
     ·simp only[go_sem,b,m,v,H,NH]
     ·exact qe
     ·exact qe
     simp;omega
    rw[Mt Y]at a;have O:=(O.resolve_left Y).2;obtain⟨p,hp⟩: ∃p:Nat,s.parent=p:=⟨s.parent.toNat,by omega⟩;rw[hp]at a Y hps O;obtain⟨t,U⟩: ∃t,c.Z9[p]? =some t:=⟨c.Z9[p]'(by omega),Mq (by omega)⟩;have q5:(p:Int)< (c.Z9.length:Int):=by omega
    have q9:5+t.name.length<=9223372036854775807:=by have:=oh h U;omega
    have q6:cU (A.length+1) 8:=aC (by omega) (by omega);have q7:(A++[t.parent]).map aa=A.map aa++[[I t.parent]]:=by rw[NA];rfl
    have f0:=hra M (ja c p);have C:=l8 M (ja c p) 0;rw[zm U]at f0 a C;rw[oV U,MU]at a;rw[oV U]at O;rcases hX:gs M ([100,111,110,101,46]++t.name) 0 with⟨Q,_|⟨k,ps⟩⟩
    ·rw[hX]at a f0 C;simp only at a C;unfold fi at f0;simp only at f0;have F:=ed UB fi.eq_2 Uv Uw UE K T hp U Y o<|qr w q3 q5 q6 q9 b m v H;repeat refine fc f0 ?_
     refine⟨(j+1,Q,A++[t.parent],none),⟨⟨n,by simp only[My,Na];omega,a,C.trans u,fun g hg h0=> ?_⟩,?_⟩,?_,?_,?_⟩
     ·rcases NY.1 hg with q|q
      ·exact hAin g q h0
      rw[NO.1 q]at h0 |-;exact O h0
     ·simp only[go_sem,b,m,v,H,NH]
     ·exact qe
     ·simp only[q7];exact qe
     simp;omega
    rw[hX]at a f0;simp only at a;unfold fi at f0;simp only at f0;have F:=ed UB fi.eq_2 Uv Uw UE K T hp U Y o<|qr w q3 q5 q6 q9 b m v H;repeat refine fc f0 ?_
    refine⟨(j+1,Q,A++[t.parent],some (k,ps)),⟨⟨n,by simp only[My,Na];omega,by rw[a]⟩,?_⟩,?_,?_,?_⟩
    ·simp only[go_sem,b,m,v,H,NH]
    ·exact qe
    ·simp only[q7];exact qe
    simp;omega
   obtain rfl:j=f.length:=by omega
   have o:=nl f.length;rw[ON]at a;rw[show cY c M (A.filter (S8 c)) []=((M,none),A.filter (S8 c)) from rfl]at a;unfold p';rw[a];simp only;rw[LS];have hb2:tI c M.act=true:=by rw[u];exact hb
   try clear hfe a hfin
   have F:=n4 UB fi.eq_2 Uv o b m v H;repeat refine st ?_
   refine lL fW ?_;repeat refine st ?_
   generalize gu c (-1)=W at*
   refine aH (D:=Nat×cD×tD) (fun x R=>[(3, .loc 3 (R 3) 0 0),(4, .loc 4 (R 4) 0 0),(6, .loc 6 (R 6) 0 0),(9, .row 79 (R 79)),(12, .seq 1 (W.map aB)),(13,I x.1)]) (fun x R=>[(3,⟨5,[aA c],26,false⟩),(4,⟨11,[fi x.2.1 d now x.2.2],91,false⟩),(6,⟨11,[[cy,cy,cy,cy,B false,cy,cy,I 0,I 0,I 0,I 0]],91,false⟩),(79,⟨1,A.map aa,3,true⟩)]) (fun x _ J=>(x.1<=W.length/\(match x.2.2 with
    |none=>dV c M (zL (W.filter fun k:Nat=>A.contains (k:Int)&&bY c k==2))=dV c x.2.1 (zL ((W.drop x.1).filter fun k:Nat=>A.contains (k:Int)&&bY c k==2))/\x.2.1.act=M.act
    |some e=>dV c M (zL (W.filter fun k:Nat=>A.contains (k:Int)&&bY c k==2))=(x.2.1,some e)))/\J 4=false/\J 6=false/\J 79=false) (fun x=>(W.length-x.1)+(if x.2.2.isSome=true then 0 else 1)) (0,M,none) ?_ ?_ ?_ ?_
   ·exact⟨⟨NG _,rfl,rfl⟩,by simp only[go_sem,b,m,H,NH]⟩
   ·exact qe
   ·(simp only[go_sem,F])
    try rfl
   try clear b m v H
   rintro⟨j,Q,e⟩ ws es ⟨⟨hj,a⟩,b,m,H⟩;simp only at hj a;rcases e with _|⟨k,ps⟩
   ·obtain⟨a,z⟩:=a;have hb3:tI c Q.act=true:=by rw[z];exact hb2
    have hal3:Q.act.length<=1000000:=by rw[z,u];exact hl1
    by_cases n:j<W.length
    ·obtain⟨g,K⟩:=gE n;have hgl:=hWk g (Mv K);obtain⟨t,U⟩: ∃t,c.Z9[g]? =some t:=⟨c.Z9[g]'(by omega),Mq (by omega)⟩;have o:=it n;have w:=aD n (by omega);have q3:=it hgl;have q9:5+t.name.length<=9223372036854775807:=by have:=oh h U;omega
     have V:=(fIn A (by omega) g).lend rfl;rw[au K]at a;cases hc:A.contains (g:Int) with
     | false=>
       rw[hc]at V;rw[QN (by rw[hc];simp)]at a;have F:=ed UB fi.eq_2 Uv Uw Ux K U o w q3 b<|ai m H;repeat refine st ?_
       refine lL V ?_;repeat refine st ?_
       refine⟨(j+1,Q,none),⟨⟨n,a,z⟩,?_⟩,?_,?_,?_⟩
       ·simp only[go_sem,b,m,H,NH]
       ·exact qe
       ·exact qe
       simp;omega
     | true=>
       rw[hc]at V;cases h2:t.kind==2 with
       | false=>
         rw[QN (by rw[iQ U,h2];simp)]at a;have F:=ed UB fi.eq_2 Uv Uw Ux K U h2 o w q3<|gb b m H;repeat refine st ?_
         refine lL V ?_;repeat refine st ?_
         refine⟨(j+1,Q,none),⟨⟨n,a,z⟩,?_⟩,?_,?_,?_⟩
         ·simp only[go_sem,b,m,H,NH]
         ·exact qe
         ·exact qe
         simp;omega
       | true=>
         rw[QM (by rw[iQ U,h2,hc];rfl),show ∀L:List Nat,zL (g::L)=(g:Int)::zL L from fun _=>rfl,Hl]at a;have hga:(g:Int)∈Q.act:=by rw[z,u];exact hAin g (Mx.1 hc) (by omega)
         have hdb:tw c Q.act g=Es c Q.act 40 g:=by unfold tw;rw[Mx.2 hga,Nj,xi h hb3 40 g hga]
         rw[hdb]at a;have fd:=hD Q.act hal3 g hgl;cases hd2:Es c Q.act 40 g with
         | false=>
           rw[hd2]at fd a;simp only[NU,OA]at a;have F:=ed UB fi.eq_2 Uv Uw Ux K U h2 o w q3<|gb b m H;repeat refine st ?_
           refine lL V ?_;repeat refine fc fd ?_
           refine⟨(j+1,Q,none),⟨⟨n,a,z⟩,?_⟩,?_,?_,?_⟩
           ·simp only[go_sem,b,m,H,NH]
           ·exact qe
           ·exact qe
           simp;omega
         | true=>
           rw[hd2]at fd a;simp only[Nt]at a;have f0:=hra Q (ja c g);have C:=l8 Q (ja c g) 0;rw[zm U]at f0 a C;rcases hX:gs Q ([100,111,110,101,46]++t.name) 0 with⟨r4,_|⟨k,ps⟩⟩
           ·rw[hX]at a f0 C;simp only at a C;unfold fi at f0;simp only at f0;have F:=ed UB fi.eq_2 Uv Uw Ux K U h2 o w q3<|hU q9 b m H;repeat refine st ?_
            refine lL V ?_;repeat refine wc fd f0 ?_
            refine⟨(j+1,r4,none),⟨⟨n,a,C.trans z⟩,?_⟩,?_,?_,?_⟩
            ·simp only[go_sem,b,m,H,NH]
            ·exact qe
            ·exact qe
            simp;omega
           rw[hX]at a f0;simp only at a;unfold fi at f0;simp only at f0;have F:=ed UB fi.eq_2 Uv Uw Ux K U h2 o w q3<|hU q9 b m H;repeat refine st ?_
           refine lL V ?_;repeat refine wc fd f0 ?_
           refine⟨(j+1,r4,some (k,ps)),⟨⟨n,by rw[a]⟩,?_⟩,?_,?_,?_⟩
           ·simp only[go_sem,b,m,H,NH]
           ·exact qe
           ·exact qe
           simp;omega
    obtain rfl:j=W.length:=by omega
    have o:=nl W.length;rw[ON]at a;rw[show dV c Q (zL (([]:List Nat).filter fun k:Nat=>A.contains (k:Int)&&bY c k==2))=(Q,none) from rfl]at a;rw[a];show fp _ _ _ _ _ _;have F:=mc UB fi.eq_2 Uv o b m H;exact ek
   have N:=wI (t8 c _ M) (by rw[a]);rw[a];show fp _ _ _ _ _ _;by_cases o:(j:Int)< (W.length:Int)
   ·have F:=n4 UB fi.eq_2 Uv N o b m H;exact ek
   have F:=n4 UB fi.eq_2 Uv N o b m H;exact ek
  have N:=wI hfe (by rw[a]);rw[LI (by rw[a]),a];show fp _ _ _ _ _ _;generalize gu c (-1)=W at*;by_cases o:(j:Int)< (f.length:Int)
  ·by_cases w:(0:Int)< (W.length:Int)
   ·have F:=lE UB fi.eq_2 Uv N o w b m v H;repeat (first|refine aT ?_|refine st ?_|refine aO 40 ?_)
    refine lL fW ?_;repeat (first|refine aT ?_|refine st ?_|refine aO 40 ?_)
    exact aR
   have F:=lE UB fi.eq_2 Uv N o w b m v H;repeat (first|refine aT ?_|refine st ?_|refine aO 40 ?_)
   refine lL fW ?_;repeat (first|refine aT ?_|refine st ?_|refine aO 40 ?_)
   exact aR
  by_cases w:(0:Int)< (W.length:Int)
  ·have F:=lE UB fi.eq_2 Uv N o w b m v H;repeat (first|refine aT ?_|refine st ?_|refine aO 40 ?_)
   refine lL fW ?_;repeat (first|refine aT ?_|refine st ?_|refine aO 40 ?_)
   exact aR
  have F:=lE UB fi.eq_2 Uv N o w b m v H;repeat (first|refine aT ?_|refine st ?_|refine aO 40 ?_)
  refine lL fW ?_;repeat (first|refine aT ?_|refine st ?_|refine aO 40 ?_)
  exact aR
 have N:=wI hcE (by rw[a]);rw[qH (by rw[a]),a];show fp _ _ _ _ _ _;generalize gu c (-1)=W at*;by_cases q0:(j:Int)< (G.length:Int)
 ·by_cases o:(0:Int)< (f.length:Int)
  ·by_cases w:(0:Int)< (W.length:Int)
   ·have F:=lE UB fi.eq_2 Uv N q0 o w b m v;repeat (first|refine aT ?_|refine st ?_|refine aO 40 ?_)
    refine lL fW ?_;repeat (first|refine aT ?_|refine st ?_|refine aO 40 ?_)
    exact aR
   have F:=lE UB fi.eq_2 Uv N q0 o w b m v;repeat (first|refine aT ?_|refine st ?_|refine aO 40 ?_)
   refine lL fW ?_;repeat (first|refine aT ?_|refine st ?_|refine aO 40 ?_)
   exact aR
  by_cases w:(0:Int)< (W.length:Int)
  ·have F:=lE UB fi.eq_2 Uv N q0 o w b m v;repeat (first|refine aT ?_|refine st ?_|refine aO 40 ?_)
   refine lL fW ?_;repeat (first|refine aT ?_|refine st ?_|refine aO 40 ?_)
   exact aR
  have F:=lE UB fi.eq_2 Uv N q0 o w b m v;repeat (first|refine aT ?_|refine st ?_|refine aO 40 ?_)
  refine lL fW ?_;repeat (first|refine aT ?_|refine st ?_|refine aO 40 ?_)
  exact aR
 by_cases o:(0:Int)< (f.length:Int)
 ·by_cases w:(0:Int)< (W.length:Int)
  ·have F:=lE UB fi.eq_2 Uv N q0 o w b m v;repeat (first|refine aT ?_|refine st ?_|refine aO 40 ?_)
   refine lL fW ?_;repeat (first|refine aT ?_|refine st ?_|refine aO 40 ?_)
   exact aR
  have F:=lE UB fi.eq_2 Uv N q0 o w b m v;repeat (first|refine aT ?_|refine st ?_|refine aO 40 ?_)
  refine lL fW ?_;repeat (first|refine aT ?_|refine st ?_|refine aO 40 ?_)
  exact aR
 by_cases w:(0:Int)< (W.length:Int)
 ·have F:=lE UB fi.eq_2 Uv N q0 o w b m v;repeat (first|refine aT ?_|refine st ?_|refine aO 40 ?_)
  refine lL fW ?_;repeat (first|refine aT ?_|refine st ?_|refine aO 40 ?_)
  exact aR
 have F:=lE UB fi.eq_2 Uv N q0 o w b m v;repeat (first|refine aT ?_|refine st ?_|refine aO 40 ?_)
 refine lL fW ?_;repeat (first|refine aT ?_|refine st ?_|refine aO 40 ?_)
 exact aR
end
end Go.Proofs.YtfhkmjbjafeckaaGreatDoor
