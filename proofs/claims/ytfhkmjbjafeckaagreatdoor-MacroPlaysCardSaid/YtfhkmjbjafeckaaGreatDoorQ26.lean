/- An instance in the midst of a step: states become active. -/
import Derived.Test.YtfhkmjbjafeckaaGreatDoorQ25
set_option maxRecDepth 100000
set_option maxHeartbeats 16000000
set_option linter.unusedSimpArgs false
set_option linter.defProp false
namespace Go.Proofs.YtfhkmjbjafeckaaGreatDoor
open Go.Proofs.Tryz
open Go.RowKit
section
def Kq(env:cf)(c:aq)(G:c.Z9.length<=4000)(H:c.vars.length<=1000)(d now:Int)(I:aJ d=true)(Q:0<=now/\now<=1099511627776)(r:cD)(s:fe c r)(J:r.act.length<=1000000)(a:la)(h:gM c.vars.length c.Z9.length a=true):b8 prog env 159 [.agg (aA c), .agg (fk r d now none), .agg (bB a)] (.agg (fk (Sb c d now r a).1 d now (Sb c d now r a).2)):=by
 have M:=s.len;have K:=s.ZM;have z:=(yT env r.Z2 (by omega) a.name).lend (al (fun _=>rfl) _);unfold Sb;by_cases o:a.kind=5
 ·rw[Mw o];have b:(a.kind==5)=true:=by simp[o]
  generalize ek r.Z2 a.name=L at*;unfold fk;simp only;refine qf func159 call159 ntmps159 results159 ?_;have F:=gs Us UC b;repeat refine st ?_
  refine lL z ?_;exact fc
 rw[Mv o];have b:(a.kind==5)=false:=by simp[o]
 have j:bo a.code c.vars.length c.Z9.length=true:=by
  unfold gM at h;repeat' split at h
  all_goals (first|(exact absurd ‹a.kind=5› o)|(simp only[Mx]at h;exact h.2)|cases h)
 have f1:=sb env c G (r.act,r.vars,r.mem,r.Z2,r.over) J d;have f2:=wh env (Tc c d r) (E8 s I) (by show r.vars.length<=_;omega) a.code (by rw[show (Tc c d r).act.length=c.Z9.length from pO c r.act r.vars d,show (Tc c d r).vars.length=c.vars.length from s.len];exact j);rw[show IS c (r.act,r.vars,r.mem,r.Z2,r.over).1 (r.act,r.vars,r.mem,r.Z2,r.over).2.1 d=Tc c d r from rfl]at f1;generalize (Tc c d r)=W at*;unfold aA i' at f1;simp only at f1;cases C:ki W a.code with
 | none=>
   have f3:=iO env r d now 2 [-1, -1];rw[C]at f2;unfold EA at f2;unfold fk at f3 |-;simp only;refine qf func159 call159 ntmps159 results159 ?_;have F:=gs Us UC b;exact D0 f1 f2 f3
 | some v=>
   rw[C]at f2;unfold EA at f2;simp only;have n:=sf env r d now a.name v;by_cases p:a.kind=1
   ·rw[Mw p];have g:(a.kind==1)=true:=by simp[p]
    obtain⟨w,N⟩:0<=a.n/\a.n<c.vars.length:=by
     unfold gM at h;rw[Mw p]at h;simp only[Mx,NI]at h;exact h.1.1
    have f:a.n< (r.vars.length:Int):=by omega
    have q:dd r.vars.length 8:=aC (by omega) (by omega);obtain⟨x,O⟩: ∃x,r.vars[a.n.toNat]? =some x:=⟨r.vars[a.n.toNat]'(by omega),Ms _⟩;unfold fk;simp only[QC,bs];refine qf func159 call159 ntmps159 results159 ?_;have F:=qs Us UC UB b g f q w O;exact ns f1 f2
   rw[Mv p];have g:(a.kind==1)=false:=by simp[p]
   by_cases t:a.kind=2
   ·rw[Mw t];have f:(a.kind==2)=true:=by simp[t]
    generalize g6 r a.name v=X at*;rcases X with⟨S,_|⟨k,R⟩⟩
    ·unfold fk at n |-;simp only at n |-;refine qf func159 call159 ntmps159 results159 ?_;have F:=ii Us UC b g f;exact D0 f1 f2 n
    unfold fk at n |-;simp only at n |-;refine qf func159 call159 ntmps159 results159 ?_;have F:=ii Us UC b g f;exact D0 f1 f2 n
   rw[Mv t];have f:(a.kind==2)=false:=by simp[t]
   by_cases u:a.kind=4
   ·rw[Mw u];have m:(a.kind==4)=true:=by simp[u]
    have y:IntKind.i64.wrap (1099511627776-now)=1099511627776-now:=aX (by omega) (by omega);unfold AS;by_cases D:v<0\/1099511627776-now<v
    ·rw[Mw D];have f3:=iO env r d now 2 [-1];unfold fk at f3 |-;simp only;by_cases e:v<0
     ·refine qf func159 call159 ntmps159 results159 ?_;have F:=m7 Us UC b g f m e;exact D0 f1 f2 f3
     have i:1099511627776-now<v:=by omega
     refine qf func159 call159 ntmps159 results159 ?_;have F:=qs Us UC b g f m e i y;exact D0 f1 f2 f3
    rw[Mv D];have e: ¬v<0:=by omega
    have i: ¬1099511627776-now<v:=by omega
    by_cases A:8<=(ek r.Z2 a.name).length
    ·rw[Mw A];have l:(8:Int)<=((ek r.Z2 a.name).length:Int):=by omega
     have f3:=iO env r d now 8 [-1];generalize ek r.Z2 a.name=L at*;unfold fk at f3 |-;simp only;refine qf func159 call159 ntmps159 results159 ?_;have F:=mX Us UC b g f m e i y l;repeat refine y3 f1 f2 ?_
     refine lL z ?_;exact kb f3
    rw[Mv A];have l: ¬(8:Int)<=((ek r.Z2 a.name).length:Int):=by omega
    have q:IntKind.i64.wrap (now+v)=now+v:=aX (by omega) (by omega);have f3:=(yV env (ek r.Z2 a.name) (by omega) (a.name,now+v)).lend (al (fun _=>rfl) _);generalize sT (a.name,now+v) (ek r.Z2 a.name)=E at*;generalize ek r.Z2 a.name=L at*;unfold cI at f3;change RM _ _ _ [.seq 2 (L.map cI),_] (.own _ 2 (E.map cI)) at f3;unfold fk;simp only;refine qf func159 call159 ntmps159 results159 ?_;have F:=o' Us UC b g f m e i y l q;repeat refine y3 f1 f2 ?_
    refine lL z ?_;repeat refine st ?_
    refine lL f3 ?_;exact fc
   rw[Mv u];have m:(a.kind==4)=false:=by simp[u]
   unfold KL;by_cases B:256<=r.outs.length
   ·rw[Mw B];have l:(256:Int)<=(r.outs.length:Int):=by omega
    have f3:=iO env r d now 8 [-1];unfold fk at f3 |-;simp only;refine qf func159 call159 ntmps159 results159 ?_;have F:=m7 Us UC b g f m l;exact D0 f1 f2 f3
   rw[Mv B];have l: ¬(256:Int)<=(r.outs.length:Int):=by omega
   have q:dd (r.outs.length+1) 8:=aC (by omega) (by omega);have P:dd r.outs.length 8:=aC (by omega) (by omega);unfold fk;simp only[NC,Nh,O3,bs];refine qf func159 call159 ntmps159 results159 ?_;have F:=mX Us UC UB b g f m l q P;exact ns f1 f2
def rK(e:tn):Prop:= ∀x,e=some x->x.1=2\/x.1=8
def uh(r:cD)(s:List UInt8)(v:Int):rK (g6 r s v).2:=by
 unfold g6;split<;>(intro x h;cases h);exact .inr rfl
def Me(c:aq)(d now:Int)(r:cD)(a:la):rK (Sb c d now r a).2:=by
 unfold Sb;split
 ·intro x h;cases h
 split
 ·intro x h;cases h;exact .inl rfl
 split
 ·intro x h;cases h
 split
 ·exact uh _ _ _
 split
 ·unfold AS;split
  ·intro x h;cases h;exact .inl rfl
  split
  ·intro x h;cases h;exact .inr rfl
  intro x h;cases h
 unfold KL;split
 ·intro x h;cases h;exact .inr rfl
 intro x h;cases h
def wE(c:aq)(d now:Int): ∀(l:List la)(r:cD),rK (mv c d now r l).2
 |[],r=>fun x h=>by cases h
 | a::l,r=>by
   unfold mv;split
   ·exact wE c d now l _
   exact Me c d now r a
def Ba(env:cf)(c:aq)(O:c.Z9.length<=4000)(w:c.vars.length<=1000)(d now:Int)(J:aJ d=true)(L:0<=now/\now<=1099511627776)(r:cD)(q:fe c r)(z:r.act.length<=1000000)(l:List la)(Q:l.length<=1000)(o: ∀a∈l,gM c.vars.length c.Z9.length a=true):b8 prog env 106 [.agg (aA c), .agg (fk r d now none), .seq 4 (l.map bB)] (.agg (fk (mv c d now r l).1 d now (mv c d now r l).2)):=by
 have y:=fun(r:cD) q z (a:la) o=>Kq env c O w d now J L r q z a o;have A:=fun(r:cD)(q:fe c r)(a:la) o=>Ke J L q (a:=a) o;refine qf func106 call106 ntmps106 results106 ?_;have F:=gs Uy fk.eq_2 Us;repeat refine st ?_
 refine aH (D:=Nat×cD×tn) (fun x v=>[(2, .seq 4 (l.map bB)),(3, .loc 3 (v 3) 0 0),(4, .loc 4 (v 4) 0 0),(6, .loc 6 (v 6) 0 0),(7,I x.1)]) (fun x v=>[(3,⟨5,[aA c],26,false⟩),(4,⟨11,[fk x.2.1 d now x.2.2],91,false⟩),(6,⟨11,[[b6,b6,b6,b6,B false,b6,b6,I 0,I 0,I 0,I 0]],91,false⟩)]) (fun x _ n=>(x.1<=l.length/\(match x.2.2 with
  |none=>mv c d now r l=mv c d now x.2.1 (l.drop x.1)/\fe c x.2.1/\x.2.1.act=r.act
  |some e=>mv c d now r l=(x.2.1,some e)))/\n 4=false/\n 6=false) (fun x=>(l.length-x.1)+(if x.2.2.isSome=true then 0 else 1)) (0,r,none) ?_ ?_ ?_ ?_
 ·exact⟨⟨NJ _,rfl,q,rfl⟩,by simp only[go_sem,NH]⟩
 ·exact qe
 ·exact qe
 rintro⟨j,t,e⟩ S R ⟨⟨P,b⟩,i,m⟩;simp only at P b;rcases e with _|⟨k,G⟩
 ·obtain⟨b,s,g⟩:=b;by_cases f:j<l.length
  ·obtain⟨a,u⟩:=gE f;have p:=o a (My u);have f0:=y t s (by rw[g];exact z) a p;obtain⟨C,E⟩:=A t s a p;have h:=ip f;have M:=aD f (by omega);rw[Cd u]at b;unfold aA bB at f0;rcases H:Sb c d now t a with⟨N,_|⟨k,G⟩⟩
   ·rw[H]at b f0 C E;simp only at b C E;unfold fk at f0;simp only at f0;have F:=qs Uy fk.eq_2 Us UC u h M i m;repeat refine ff f0 ?_
    refine⟨(j+1,N,none),⟨⟨f,b,C,E.act.trans g⟩,?_⟩,?_,?_,?_⟩
    ·simp only[go_sem,i,m,NH]
    ·exact qe
    ·exact qe
    simp;omega
   rw[H]at b f0;simp only at b;unfold fk at f0;simp only at f0;have F:=qs Uy fk.eq_2 Us UC u h M i m;repeat refine ff f0 ?_
   refine⟨(j+1,N,some (k,G)),⟨⟨f,b⟩,?_⟩,?_,?_,?_⟩
   ·simp only[go_sem,i,m,NH]
   ·exact qe
   ·exact qe
   simp;omega
  obtain rfl:j=l.length:=by omega
  have h:=nl l.length;rw[OE]at b;rw[show mv c d now t []=(t,none) from rfl]at b;rw[b];show fq _ _ _ _ _ _;have F:=kv Uy fk.eq_2 Us h i m;exact fc
 have K:((k:Int)==0)=false:=by
  have:=wE c d now l r (k,G) (by rw[b]);simp;simp only at this;omega
 rw[b];show fq _ _ _ _ _ _;by_cases f:j<l.length
 ·have h:=ip f;have F:=m7 Uy fk.eq_2 Us h K i m;exact fc
 obtain rfl:j=l.length:=by omega
 have h:=nl l.length;have F:=m7 Uy fk.eq_2 Us h K i m;exact fc
end
section
def iT{c:aq}{k:Nat}{s:n4}(a:c.Z9[k]? =some s):bX c k=s.kind:=by unfold bX;rw[bK,a]
def xt(env:cf)(c:aq)(h:ct c)(act:List Int): ∀(f i:Nat),i<c.Z9.length->c.Z9.length-i<=f->b8 prog env 229 [.agg (aA c),aG c, .seq 1 (ld c.Z9.length act),I i] (B (pF c act f i))
 |0,i,v,C=>by omega
 | f+1,i,v,C=>by
   have H:=h.Z6;obtain⟨s,m⟩:=gE v;have J:=fun(k:Nat) l C=>xt env c h act f k l C;have E:=ip v;have f0:=bc env c h i;rw[Mw (.inr (aW.2 v))]at f0;have f0:=(f0.lend (al (fun _=>rfl) _)).seen;have O:=bU h.toRight i true;have n: ∀j∈av c i true,i<j/\j<c.Z9.length:=fun j M=>by have:=bF h.toRight (aY M).1;omega
   have p:=ei c.Z9.length act;unfold pF;rw[iT m,show hH c (i:Int)=zL (av c i true) from rfl];generalize av c i true=K at*;unfold aG at f0 J |-;by_cases x:s.kind=3
   ·rw[Mw x];have u:(s.kind==3)=true:=by simp[x]
    refine qf func229 call229 ntmps229 results229 ?_;have F:=ii Us Ut m E u;exact fc
   rw[Mv x];have u:(s.kind==3)=false:=by simp[x]
   by_cases w:s.kind=1
   ·rw[Mw w];have y:(s.kind==1)=true:=by simp[w]
    refine qf func229 call229 ntmps229 results229 ?_;have F:=kv Us Ut m E u y;repeat refine st ?_
    refine lL f0 ?_;repeat refine st ?_
    refine lq K.length (by omega) (fun j r=>[(2, .seq 1 (ld c.Z9.length act)),(4, .loc 4 (r 4) 0 0),(25, .seq 1 (K.map aB)),(26,I K.length),(27,I j)]) (fun j r=>[(4,⟨5,[aA c],26,false⟩)]) (fun j _ A=>(zL K).find? (fun k=>act.contains k)=((zL K).drop j).find? fun k=>act.contains k) rfl ?_ ?_
    ·rintro j G z b g q a;obtain⟨k,e⟩:=gE b;obtain⟨_,l⟩:=n k (My e);obtain⟨t,D⟩:=gE l;have L:=ip l;have d:=kY (act:=act) l;rw[aZ (rL e),List.find?_cons]at a;cases o:act.contains (k:Int) with
     | true=>
       rw[o]at d a;simp only at a;rw[a];simp only[iT D];show fq _ _ _ _ _ _;have F:=o' Us Ut Uu m D e g q L d p;exact fc
     | false=>
       rw[o]at d a;simp only at a;have F:=o' Us Ut Uu m D e g q L d p;repeat refine st ?_
       exact qn (j+1) ⟨b,a⟩
    rintro G z g a;rw[OH (by rw[ar];omega)]at a;rw[a];show fq _ _ _ _ _ _;simp only[QK];have F:=g;exact fc
   rw[Mv w];have y:(s.kind==1)=false:=by simp[w]
   refine qf func229 call229 ntmps229 results229 ?_;have F:=kv Us Ut m E u y;repeat refine st ?_
   refine lL f0 ?_;repeat refine st ?_
   refine lq K.length (by omega) (fun j r=>[(1, .ref 9 [cy c] 0 0),(2, .seq 1 (ld c.Z9.length act)),(4, .loc 4 (r 4) 0 0),(45, .seq 1 (K.map aB)),(46,I K.length),(47,I j)]) (fun j r=>[(4,⟨5,[aA c],26,false⟩)]) (fun j _ A=>((zL K).all fun k=>pF c act f k)=((zL K).drop j).all fun k=>pF c act f k) rfl ?_ ?_
   ·rintro j G z b g q a;obtain⟨k,e⟩:=gE b;obtain⟨N,l⟩:=n k (My e);have f1:=J k l (by omega);rw[aZ (rL e),Qf]at a;cases o:pF c act f (k:Int) with
    | true=>
      rw[o]at f1 a;rw[Np]at a;unfold aA at f1;have F:=ii Us Uu e g q;repeat refine ff f1 ?_
      exact qn (j+1) ⟨b,a⟩
    | false=>
      rw[o]at f1 a;rw[Nt]at a;rw[a];unfold aA at f1;show fq _ _ _ _ _ _;have F:=ii Us Uu e g q;exact kb f1
   rintro G z g a;rw[OH (by rw[ar];omega)]at a;rw[a];show fq _ _ _ _ _ _;have F:=g;exact fc
def Hx(env:cf)(d e:Addr)(n:gb env d e)(c:aq)(h:ct c)(k:hP c)(act:List Int)(g:act.length<=1000000)(m:tU c act=true)(i:Nat)(hi:i<c.Z9.length):b8 prog env 178 [aG c, .seq 1 (act.map aa),I i] (.tuple [B (uH c act i),ik]):=by
 have j:=h.Z6;have f0:=cj env d e n c h k act g;unfold wC at f0;rw[m]at f0;simp only[Nn]at f0;have f1:=((j5 env c (by omega) act g).lend (al (fun _=>rfl) _)).seen;have f2:=ay env c k;have f3:=xt env c h act 40 i hi (by omega);have b:=ei c.Z9.length act;have a:=kY (act:=act) hi;have l:=ip hi;unfold uH;cases f:act.contains (i:Int) with
 | true=>
   rw[f]at a;rw[Np];unfold aG at*;unfold aA at f2 f3;refine qf func178 call178 ntmps178 results178 ?_;have F:=gs b a l;repeat refine ff f0 ?_
   refine lL f1 ?_;exact ns f2 f3
 | false=>
   rw[f]at a;rw[Nt];unfold aG at*;refine qf func178 call178 ntmps178 results178 ?_;have F:=gs b a l;repeat refine ff f0 ?_
   refine lL f1 ?_;exact fc
end
section
def DB(c:aq)(act:List Int):Nat->Int->Bool
 |0,_=>false
 | f+1,i=>if bX c i=2 then(hH c i).all fun k=>DB c act f k
   else if bX c i=1 then(hH c i).any fun k=>act.contains k&&bX c k==3
   else bX c i==3
def xr{c:aq}(h:ct c){act:List Int}(G:tU c act=true): ∀(f:Nat)(x:Int),x∈act->pF c act f x=DB c act f x
 |0,x,_=>rfl
 | f+1,x,M=>by
   have K:=cx G;obtain⟨s,r,A,H,N,I,J⟩:=K.of M;have u:bX c x=s.kind:=by unfold bX;rw[r]
   unfold aU at H;simp only[Bool.or_eq_false_iff,Oz]at H;have v:hH c x=zL (av c x true):=rfl;unfold pF DB;rw[u,v];by_cases t:s.kind=3
   ·rw[Mw t,Mv (by omega),Mv (by omega),t];rfl
   rw[Mv t];by_cases p:s.kind=1
   ·rw[Mw p,Mv (by omega),Mw p];by_cases D:av c x true=[]
    ·rw[D];rfl
    ·have j:=I p D;unfold ch at j;obtain⟨a,E⟩:=QR.1 j
     have i: ∀k∈av c x true,act.contains (k:Int)=true->k=a:=fun k u L=>by
      have:k∈(av c x true).filter fun k:Nat=>act.contains (k:Int):=NF.2 ⟨u,L⟩;rw[E]at this;simpa using this
     have o:a∈av c x true/\act.contains (a:Int)=true:=by
      have:a∈(av c x true).filter fun k:Nat=>act.contains (k:Int):=by rw[E];simp
      exact NF.1 this
     cases l:(zL (av c x true)).find? fun k=>act.contains k with
     | none=>
       exfalso
       have:=Pt.1 l a (NG.2 ⟨a,o.1,rfl⟩);exact this o.2
     | some y=>
       have d:=QU l;obtain⟨k,g,rfl⟩:=NG.1 (Om l);obtain rfl:=i k g d;simp only;rw[N8,OG];constructor
       ·intro e;exact⟨_,NG.2 ⟨k,g,rfl⟩,by rw[d,e];rfl⟩
       rintro⟨z,B,n⟩;obtain⟨m,w,rfl⟩:=NG.1 B;rw[Mx]at n;obtain rfl:=i m w n.1;exact n.2
   rw[Mv p];by_cases C:s.kind=2
   ·rw[Mw C];have b:=J C;unfold ch at b;have b:=QD.1 b;rw[N8,NB,NB]
    have e: ∀y∈zL (av c x true),pF c act f y=DB c act f y:=fun y d=>by
     obtain⟨k,g,rfl⟩:=NG.1 d;exact xr h G f k (Mz.1 (b k g))
    exact⟨fun q y d=>by rw[<-e y d];exact q y d,fun q y d=>by rw[e y d];exact q y d⟩
   exfalso
   have A:=aI.1 A
   have:=h.shape (k:=x.toNat) (s:=s) (by
    unfold at_ at r;rw[Mw A.1]at r
    exact r)
   unfold dK at this;rw[Mv p,Mv C,Mv t]at this;split at this
   ·omega
   cases this
def wi(env:cf)(c:aq)(h:ct c)(act:List Int)(J:act.length<=1000000): ∀(f i:Nat),i<c.Z9.length->c.Z9.length-i<=f->b8 prog env 109 [.agg (aA c), .seq 1 (act.map aa),I i] (B (DB c act f i))
 |0,i,E,D=>by omega
 | f+1,i,E,D=>by
   have L:=h.Z6;obtain⟨s,z⟩:=gE E;have M:=fun(k:Nat) p D=>wi env c h act J f k p D;have G:=ip E;have f0:=((dI env c i true (by omega)).lend (al (fun _=>rfl) _)).seen;have N:=fun(k:Nat)=>dJ env act k J;have Q:=bU h.toRight i true;have u: ∀j∈av c i true,i<j/\j<c.Z9.length:=fun j O=>by have:=bF h.toRight (aY O).1;omega
   unfold DB;rw[iT z,show hH c (i:Int)=zL (av c i true) from rfl];generalize av c i true=K at*;unfold aA at f0 M;by_cases q:s.kind=2
   ·rw[Mw q];have e:(s.kind==2)=true:=by simp[q]
    have m:(s.kind==1)=false:=by simp[q]
    have o:(s.kind==3)=false:=by simp[q]
    refine qf func109 call109 ntmps109 results109 ?_;have F:=i0 Us Ut z G;repeat refine st ?_
    refine lL f0 ?_;repeat refine st ?_
    refine lq K.length (by omega) (fun j g=>[(1, .seq 1 (act.map aa)),(3, .loc 3 (g 3) 0 0),(7, .loc 7 (g 7) 0 0),(8, .seq 1 (K.map aB)),(9,I j)]) (fun j g=>[(3,⟨5,[aA c],26,false⟩),(7,⟨6,[aL s],75,false⟩)]) (fun j _ C=>((zL K).all fun k=>DB c act f k)=((zL K).drop j).all fun k=>DB c act f k) rfl ?_ ?_
    ·rintro j x r b d n a;obtain⟨k,l⟩:=gE b;obtain⟨P,p⟩:=u k (My l);have f1:=M k p (by omega);rw[aZ (rL l),Qf]at a;cases v:DB c act f (k:Int) with
     | true=>
       rw[v]at f1 a;rw[Np]at a;have F:=qr Us Ut Uu l d n m e;repeat refine ff f1 ?_
       exact qn (j+1) ⟨b,a⟩
     | false=>
       rw[v]at f1 a;rw[Nt]at a;rw[a];show fq _ _ _ _ _ _;have F:=qr Us Ut Uu l d n m e;exact kb f1
    rintro x r d a;rw[OH (by rw[ar];omega)]at a;rw[a];show fq _ _ _ _ _ _;have F:=i0 Ut d e o;exact fc
   rw[Mv q];have e:(s.kind==2)=false:=by simp[q]
   by_cases w:s.kind=1
   ·rw[Mw w];have m:(s.kind==1)=true:=by simp[w]
    have o:(s.kind==3)=false:=by simp[w]
    refine qf func109 call109 ntmps109 results109 ?_;have F:=i0 Us Ut z G;repeat refine st ?_
    refine lL f0 ?_;repeat refine st ?_
    refine lq K.length (by omega) (fun j g=>[(1, .seq 1 (act.map aa)),(3, .loc 3 (g 3) 0 0),(7, .loc 7 (g 7) 0 0),(8, .seq 1 (K.map aB)),(9,I j)]) (fun j g=>[(3,⟨5,[aA c],26,false⟩),(7,⟨6,[aL s],75,false⟩)]) (fun j _ C=>((zL K).any fun k=>act.contains k&&bX c k==3)=((zL K).drop j).any fun k=>act.contains k&&bX c k==3) rfl ?_ ?_
    ·rintro j x r b d n a;obtain⟨k,l⟩:=gE b;obtain⟨_,p⟩:=u k (My l);obtain⟨t,A⟩:=gE p;have H:=ip p;have f1:=N k;rw[aZ (rL l),QH,iT A]at a;cases v:act.contains (k:Int) with
     | false=>
       rw[v]at f1 a;rw[Nt,PF]at a;have F:=mX Us Ut Uu A l d n H m e;repeat refine ff f1 ?_
       exact qn (j+1) ⟨b,a⟩
     | true=>
       rw[v]at f1 a;cases y:t.kind==3 with
       | false=>
         rw[y]at a;rw[Oc,PF]at a;have F:=o' Us Ut Uu A l y d n H m e;repeat refine ff f1 ?_
         exact qn (j+1) ⟨b,a⟩
       | true=>
         rw[y]at a;rw[SP,SV]at a;rw[a];show fq _ _ _ _ _ _;have F:=o' Us Ut Uu A l y d n H m e;exact kb f1
    rintro x r d a;rw[OH (by rw[ar];omega)]at a;rw[a];show fq _ _ _ _ _ _;simp only[Qv];have F:=i0 Ut d e o;exact fc
   rw[Mv w];have m:(s.kind==1)=false:=by simp[w]
   refine qf func109 call109 ntmps109 results109 ?_;have F:=i0 Us Ut z G;repeat refine st ?_
   refine lL f0 ?_;repeat refine st ?_
   refine lq K.length (by omega) (fun j g=>[(1, .seq 1 (act.map aa)),(3, .loc 3 (g 3) 0 0),(7, .loc 7 (g 7) 0 0),(8, .seq 1 (K.map aB)),(9,I j)]) (fun j g=>[(3,⟨5,[aA c],26,false⟩),(7,⟨6,[aL s],75,false⟩)]) (fun _ _ _=>True) trivial ?_ ?_
   ·rintro j x r b d n _;have F:=kv Us Ut d n m e;repeat refine st ?_
    exact qn (j+1) ⟨b,trivial⟩
   ·rintro x r d _;cases o:s.kind==3 with
    | true=>
      have F:=i0 Ut d e o;exact fc
    | false=>
      have F:=i0 Ut d e o;exact fc
end
section
def ye(env:cf)(l:List Int)(p:Int->Bool)(g:FuncId)(G:Int)(P:TypeId)(U: ∀d,b8 prog env g [I d, .ref 1 [[I G]] 0 0] (B (p d)))(hl:l.length<=4096):
 i9 prog env 277 [1000,1001] (fun k=>k==1000) (fun vs=>[.row 1000 (vs 1000), .clo g [.loc 1001 (vs 1001) 0 0]]) (fun _=>[(1000,⟨1,l.map aa,3,true⟩),(1001,⟨1,[[I G]],P,false⟩)]) (fun _=>[(1000,⟨1,(l.filter fun d=> !p d).map aa,3,true⟩),(1001,⟨1,[[I G]],P,false⟩)]) (fun vs=> .row 1000 (vs 1000)):=by
 have f0:=(qv env l p g [[I G]] U hl).lend rfl;cases t:mW p l with
 | none=>
   rw[t]at f0;obtain⟨m,_⟩:=qI t;rw[m];refine qi func277 call277 ntmps277 results277 ?_;intro vs z h;obtain⟨e,f⟩:=OF h;have F:=i0 e f UT mY.eq_2;repeat refine st ?_
   refine lL f0 ?_;repeat refine st ?_
   exact rI
 | some s=>
   rw[t]at f0;obtain⟨m,E,d0,H,J⟩:=qH t;have R:((s:Int) == -1)=false:=by simp
   have r:=aD m (by omega);refine qi func277 call277 ntmps277 results277 ?_;intro vs z h;obtain⟨e,f⟩:=OF h;have F:=kv e f UT mY.eq_2 R r;repeat refine st ?_
   refine lL f0 ?_;repeat refine st ?_
   refine aH (D:=Nat×List Int) (fun x i=>[(0, .row 1000 (i 1000)),(1, .clo g [.loc 1001 (i 1001) 0 0]),(5,I (((l.take x.1).filter fun d=> !p d).length:Int)),(6,I (x.1:Int))]) (fun x i=>[(1000,⟨1,x.2.map aa,3,true⟩),(1001,⟨1,[[I G]],P,false⟩)]) (fun x i o=>(x.1<=l.length/\x.2.length=l.length/\((l.take x.1).filter fun d=> !p d).length<x.1/\x.2.take ((l.take x.1).filter fun d=> !p d).length=(l.take x.1).filter (fun d=> !p d)/\x.2.drop x.1=l.drop x.1)/\i 1001=vs 1001/\o 1000=false/\o 1001=false) (fun x=>l.length-x.1) (s+1,l) ?_ ?_ ?_ ?_
   ·have b:(l.take (s+1)).filter (fun d=> !p d)=l.take s:=by
     rw[bO H,N6, <-E];simp[J]
    refine⟨⟨m,rfl,?_,?_,rfl⟩,by simp only[go_sem],by simp only[go_sem,e],by simp only[go_sem,f]⟩
    ·rw[b,NK];omega
    simp only;rw[b,NK,P3 (by omega)]
   ·have b:((l.take (s+1)).filter fun d=> !p d).length=s:=by
     rw[bO H,N6, <-E];simp[J];omega
    simp only[b];exact qe
   ·exact qe
   try clear e f R r m E H J t
   rintro⟨j,L⟩ ws es ⟨⟨hj,K,hc,u,w⟩,Q,e,f⟩;simp only at hj K hc u w;generalize a:((l.take j).filter fun d=> !p d).length=c at*;by_cases n:j<l.length
   ·obtain⟨d,V⟩:=gE n
    have v:L[j]? =some d:=by
     have:=N7 (fun q:List Int=>q[0]?) w;simpa[V]using this
    have f1:=U d;have r:(j:Int)< (L.length:Int):=by omega
    have S:=aD n (by omega);have T:=bO V;cases m:p d
    ·rw[m]at f1;obtain⟨y,hy⟩: ∃x,L[c]? =some x:=⟨L[c]'(by omega),Ms (by omega)⟩;have A:(c:Int)< (L.length:Int):=by omega
     have C:IntKind.i64.wrap ((c:Int)+1)=((c+1:Nat):Int):=aD (show c<l.length by omega) (by omega);have b:((l.take (j+1)).filter fun d=> !p d)=(l.take j).filter (fun d=> !p d)++[d]:=by rw[T,N6];simp[m]
     have hs:(L.map aa).set c [I d]=(L.set c d).map aa:=by rw[QC]
     have F:=qs v hy e f r S A C hs;repeat refine st ?_
     refine oL (cK rfl (by simp only[go_sem,F];exact iR)) (f1.lend rfl) (by simp only[go_sem,F];exact iR) (by simp only[go_sem,F];exact⟨rfl,rfl⟩) ?_;repeat refine st ?_
     refine⟨(j+1,L.set c d),⟨⟨n,by simpa using K,?_,?_,?_⟩,?_,?_,?_⟩,?_,?_,?_⟩
     ·simp only[b,NA,Nf,a];omega
     ·simp only[b,NA,Nf,a];rw[<-u];apply Nv;intro k;rw[Na,O0];by_cases hk:k<c
      ·rw[Mw (by omega),Mv (by omega),N9 (by simp;omega),Na,Mw hk]
      by_cases N:k=c
      ·subst N;rw[Mw (by omega),Mw rfl,Mw (by omega),NY (by rw[NK];omega),NK,P3 (by omega)];simp
      rw[Mv (by omega),NL (by rw[NA,NK,Nf];omega)]
     ·simp only;rw[List.drop_set_of_lt (by omega)];have:=N7 (List.drop 1) w;simpa[Qx]using this
     ·simp only[go_sem,Q]
     ·simp only[go_sem,e]
     ·simp only[go_sem,f]
     ·have O:((l.take (j+1)).filter fun d=> !p d).length=c+1:=by rw[b,NA,a];rfl
      simp only[O];exact qe
     ·exact qe
     simp only;omega
    rw[m]at f1;have b:((l.take (j+1)).filter fun d=> !p d)=(l.take j).filter (fun d=> !p d):=by rw[T,N6];simp[m]
    have F:=ii v e f r S;repeat refine st ?_
    refine oL (cK rfl (by simp only[go_sem,F];exact iR)) (f1.lend rfl) (by simp only[go_sem,F];exact iR) (by simp only[go_sem,F];exact⟨rfl,rfl⟩) ?_;repeat refine st ?_
    refine⟨(j+1,L),⟨⟨n,K,?_,?_,?_⟩,?_,?_,?_⟩,?_,?_,?_⟩
    ·simp only[b,a];omega
    ·simp only[b,a];exact u
    ·simp only;have:=N7 (List.drop 1) w;simpa[Qx]using this
    ·simp only[go_sem,Q]
    ·simp only[go_sem,e]
    ·simp only[go_sem,f]
    ·simp only[b,a];exact qe
    ·exact qe
    simp only;omega
   have r: ¬(j:Int)< (L.length:Int):=by omega
   have M:l.take j=l:=Nu (by omega);rw[M]at u a;have A:(c:Int)<=(L.length:Int):=by omega
   have C:c<=L.length:=by omega
   have W: ∀X:List (List AV),((L.take c).map aa++X).take c=(l.filter fun d=> !p d).map aa:=fun X=>by
    rw[Pq (by rw[NT,NK];omega),u]
   have Y:c+(L.length-c)=L.length:=by omega
   have Z:min c L.length=c:=by omega
   have F:=o' Q e f @NK.{0} @List.length_replicate.{0} r A C W Y Z;repeat refine st ?_
   exact rI
end
section
def tV{c:aq}{d now:Int}{r:cD}{l:List Int}{j:Nat}{i:Int}(hi:l[j]? =some i):bS c d now r (l.drop j)=match mv c d now r (ww c i) with
 |(a,none)=>bS c d now { a with act:=a.act.filter fun k=> !(k==i) } (l.drop (j+1))
 |x=>x:=by
 rw[aZ hi]
 conv=>lhs;unfold bS
 rcases mv c d now r (ww c i) with⟨a,_|_⟩<;>rfl
def uZ{c:aq}(h:ct c){k:Nat}{s:n4}(d:c.Z9[k]? =some s):(s.out.length<=32/\ ∀a∈s.out,gM c.vars.length c.Z9.length a=true)/\s.ZW.length<=32/\ ∀a∈s.ZW,gM c.vars.length c.Z9.length a=true:=by
 have b:=h.st k s d;unfold cL eR at b;simp only[Mx,NI,NB]at b;exact⟨⟨b.2.1,b.2.2⟩,b.1.2.1,b.1.2.2⟩
def Dk(env:cf)(G d:Int):b8 prog env 278 [I d, .ref 1 [[I G]] 0 0] (B (d==G)):=by
 refine qf func278 call278 ntmps278 results278 ?_;repeat refine nw ?_
 exact px
def TC(c:aq)(d now:Int)(G:List Nat)(r:cD)(g:Nat->Nat):List (Nat×Row):=(1006,⟨1,G.map aB,3,true⟩)::RY c d now r g
def UZ:=@TC.eq_1
def H0(env:cf)(a1 N O:Addr)(c:aq)(d now:Int)(E:zs env a1 N O c d now)(r:cD)(H:fe c r)(C:r.act.length<=4096)(G:List Nat)(hG: ∀i∈G,i<c.Z9.length)(P:G.length<=4096):
 i9 prog env 240 [1000,1001,1002,1003,1004,1005,1006] pi (fun g=>[.loc 1000 (g 1000) 0 0, .row 1006 (g 1006)]) (TC c d now G r) (TC c d now G.reverse (bS c d now r (zL G.reverse)).1) (fun _=>cr N O (bS c d now r (zL G.reverse)).2):=by
 have hfew:=E.h.Z6;have hcv:=E.hs.vars;have S:=fun(r:cD) H C (l:List la) T Q=>zc env a1 N O c d now E r H C l T Q;have U:=fun(r:cD)(H:fe c r)(l:List la) Q=>jo E.hd E.hn (l:=l) H Q;have z:=fun(l:List Int)(i:Int)(C:l.length<=4096)=>ye env l (fun k=>k==i) 278 i 3 (fun k=>Dk env i k) C;have g1:=sY (zL G) (by rw[ar];omega);have g2:bM ((zL G).map tY)=G.map aB:=by rw[bz,bl]
 have g3:bM ((zL G).reverse.map tY)=G.reverse.map aB:=by rw[bz, <-bl];simp
 have hR: ∀i∈G.reverse,i<c.Z9.length:=fun i hi=>hG i (QL.1 hi);have hRl:G.reverse.length<=4096:=by rw[Oj];exact P
 generalize G.reverse=R at*;refine qi func240 call240 ntmps240 results240 ?_;intro vs esc A;obtain⟨n,o,p,q,t,u,f⟩:=Ul A;have F:=o' UZ Ux Uw Uz n o p q t u f;repeat refine st ?_
 refine oc 1006 rfl (row:=⟨1,G.map aB,3,true⟩) g1 (Ng 0) rfl g2.symm (by simp only[go_sem,f]<;>exact iR) (by simp only[go_sem,f]<;>exact iR) (by simp only[go_sem,f]<;>exact iR) (by simp only[go_sem,f]<;>exact iR) ?_;rw[g3];repeat refine st ?_
 refine lp (D:=Nat×cD) (fun x e=>[(0, .loc 1000 (e 1000) 0 0),(10, .row 1006 (e 1006)),(11,I R.length),(12,I x.1)]) (fun x e=>TC c d now R x.2 e) (fun x e a=>(x.1<=R.length/\bS c d now r (zL R)=bS c d now x.2 ((zL R).drop x.1)/\fe c x.2/\x.2.act.length<=4096)/\(e 1000=vs 1000/\e 1002=vs 1002/\e 1006=vs 1006)/\a 1000=false/\a 1001=false/\a 1002=false/\a 1003=false/\a 1004=false/\a 1005=false/\a 1006=false) (fun x=>R.length-x.1) (0,r) ⟨⟨NJ _,rfl,H,C⟩,by simp only[go_sem,NH],by simp only[go_sem,n,o,p,q,t,u,f,NH]⟩ ?_;try clear n o p q t u f g1 g2 g3
 rintro⟨j,X⟩ ws es ⟨⟨hj,b,y,v⟩,⟨Y,Z,v6⟩,n,o,p,q,t,u,f⟩;simp only at hj b y v;by_cases m:j<R.length
 ·obtain⟨i,L⟩:=gE m;have B:=hR i (My L);obtain⟨s,K⟩:=gE B;obtain⟨⟨s1,s2⟩,_⟩:=uZ E.h K;have ho:ww c i=s.out:=by unfold ww;rw[bK,K]
  have f0:=S X y (by omega) s.out (by omega) s2;obtain⟨V,W⟩:=U X y s.out s2;have M:=ip m;have q2:=aD m (by omega);have q3:=ip B;rw[tV (rL L),ho]at b;rcases hX:mv c d now X s.out with⟨J,_|⟨k,ps⟩⟩
  ·rw[hX]at b f0 V W;simp only at b V W;have h:J.act.length<=4096:=by have:=W.act;rw[this];exact v
   have f3:=z J.act i h;have w:(J.act.filter fun k=> !(k==(i:Int))).length<=4096:=NN (NV ..) h;generalize hF:(J.act.filter fun k=> !(k==(i:Int)))=L2 at*;unfold cr RY mc at f0;simp only at f0;have F:=ed Ut Uu UG UZ Ux Uw Uz L K M q2<|qr q3 n o p q t u f;repeat refine st ?_
   refine iL L6 f0 ?_;repeat refine st ?_
   refine iL [(1000,1001),(1001,6)] f3 ?_;repeat refine st ?_
   refine⟨(j+1,{ J with act:=L2 }),⟨⟨m,b,{ V with },w⟩,?_,?_⟩,?_,?_,?_⟩
   ·simp only[go_sem,Y,Z,v6,NH]
   ·simp only[go_sem,n,o,p,q,t,u,f,NH]
   ·exact qe
   ·exact qe
   simp only;omega
  rw[hX]at b f0;simp only at b;rw[b];unfold cr RY mc at f0;simp only at f0;show fq _ _ _ _ _ _;unfold cr;simp only;have F:=ed Ut Uu UG UZ Ux Uw Uz L K M q2<|o' q3 Y Z v6 n o p q t u f;repeat refine st ?_
  refine iL L6 f0 ?_;repeat refine st ?_
  exact rI
 obtain rfl:j=R.length:=by omega
 have M:=nl R.length;rw[OH (by rw[ar];omega)]at b;rw[b];unfold bS;show fq _ _ _ _ _ _;unfold cr;simp only;have F:=ed UZ Ux Uw Uz M Y Z v6 n o p<|i0 q t u f;repeat refine st ?_
 exact rI
end
section
def xv{c:aq}{d now:Int}{r:cD}{f l:List Int}{j:Nat}{i:Int}(hi:l[j]? =some i):ak c d now r f (l.drop j)=if r.act.contains i=true then ak c d now r f (l.drop (j+1)) else match mv c d now { r with act:=bQ (r.act++[i]) } (Tl c i) with
 |(a,none)=>ak c d now a (if bX c i=3 then f++[i] else f) (l.drop (j+1))
 |x=>(x,[]):=by
 rw[aZ hi]
 conv=>lhs;unfold ak
 rcases mv c d now { r with act:=bQ (r.act++[i]) } (Tl c i) with⟨a,_|_⟩<;>rfl
def EK(a b:Addr)(e:tn)(f:List Int):AV:=match e with
 |none=> .tuple [.seq 1 (f.map aa),ik]
 |some x=> .tuple [b6,cr a b (some x)]
def Jn(env:cf)(a1 V W:Addr)(c:aq)(d now:Int)(E:zs env a1 V W c d now)(r:cD)(M:fe c r)(hl:r.act.length<=1000)(G:List Nat)(hG: ∀i∈G,i<c.Z9.length)(hGl:G.length<=1000):
 i9 prog env 121 [1000,1001,1002,1003,1004,1005] pi (fun g=>[.loc 1000 (g 1000) 0 0, .seq 1 (G.map aB)]) (RY c d now r) (RY c d now (ak c d now r [] (zL G)).1.1) (fun _=>EK V W (ak c d now r [] (zL G)).1.2 (ak c d now r [] (zL G)).2):=by
 have hfew:=E.h.Z6;have hcv:=E.hs.vars;have hdo:=fun(r:cD) M hl (l:List la) hll ha=>zc env a1 V W c d now E r M hl l hll ha;have hok:=fun(r:cD)(M:fe c r)(l:List la) ha=>jo E.hd E.hn (l:=l) M ha;refine qi func121 call121 ntmps121 results121 ?_;intro vs esc K;obtain⟨p,b,q,t,u,v⟩:=RT K;have F:=qs Ux Uw Uz p b q t u v;repeat refine st ?_
 refine ap 6 6 3 1 ?_;refine lp (D:=Nat×cD×List Int) (fun x n=>[(0, .loc 1000 (n 1000) 0 0),(4,b6),(5,ik),(6, .row 6 (n 6)),(10, .seq 1 (G.map aB)),(11,I G.length),(12,I x.1)]) (fun x n=>(6,⟨1,x.2.2.map aa,3,true⟩)::RY c d now x.2.1 n) (fun x n e=>(x.1<=G.length/\ak c d now r [] (zL G)=ak c d now x.2.1 x.2.2 ((zL G).drop x.1)/\fe c x.2.1/\x.2.1.act.length<=r.act.length+x.1/\x.2.2.length<=x.1)/\(n 1000=vs 1000/\n 1002=vs 1002)/\e 1000=false/\e 1001=false/\e 1002=false/\e 1003=false/\e 1004=false/\e 1005=false/\e 6=false) (fun x=>G.length-x.1) (0,r,[]) ⟨⟨NJ _,rfl,M,ND _,ND _⟩,by simp only[go_sem,NH],by simp only[go_sem,p,b,q,t,u,v,NH]⟩ ?_;try clear p b q t u v
 rintro⟨j,h,f⟩ ws es ⟨⟨hj,a,y,J,hfl⟩,⟨P,Q⟩,p,b,q,t,u,v,z⟩;simp only at hj a y J hfl;by_cases o:j<G.length
 ·obtain⟨i,C⟩:=gE o;have L:=hG i (My C);obtain⟨s,A⟩:=gE L;obtain⟨_,s1,s2⟩:=uZ E.h A;have ho:Tl c i=s.ZW:=by unfold Tl;rw[bK,A]
  have hk:bX c i=s.kind:=by unfold bX;rw[bK,A]
  have H:=ip o;have T:=aD o (by omega);have U:=ip L;have B:=(bI env h.act i (by omega)).lend rfl;rw[xv (rL C),ho,hk]at a;cases hc:h.act.contains (i:Int) with
  | true=>
    rw[hc]at a B;simp only[Nn]at a;have F:=ed Ut Uu UG Ux Uw Uz C A H T U<|m7 p b q t u v z;repeat refine st ?_
    refine lL B ?_;repeat refine st ?_
    refine⟨(j+1,h,f),⟨⟨o,a,y,by simp only;omega,by simp only;omega⟩,?_,?_⟩,?_,?_,?_⟩
    ·simp only[go_sem,P,Q,NH]
    ·simp only[go_sem,p,b,q,t,u,v,z,NH]
    ·exact qe
    ·exact qe
    simp only;omega
  | false=>
    rw[hc]at a B;simp only[NW,OB]at a;have m:(bQ (h.act++[(i:Int)])).length<=r.act.length+(j+1):=by rw[l9,NA,Nf];omega
    have f0:=hdo { h with act:=bQ (h.act++[(i:Int)]) } { y with } (by simp only;omega) s.ZW (by omega) s2;obtain⟨N,O⟩:=hok { h with act:=bQ (h.act++[(i:Int)]) } { y with } s.ZW s2;have X:=qX (h.act++[(i:Int)]) (by simp;omega);have Y:bM ((h.act++[(i:Int)]).map tY)=h.act.map aa++[[I i]]:=by rw[bz,NC];rfl
    have Z:=bz (bQ (h.act++[(i:Int)]));have q4:dd (h.act.length+1) 8:=aC (by omega) (by omega);rcases hX:mv c d now { h with act:=bQ (h.act++[(i:Int)]) } s.ZW with⟨r2,_|⟨k,ps⟩⟩
    ·rw[hX]at a f0 N O;simp only at a N O;have w:r2.act.length<=r.act.length+(j+1):=by have:=O.act;rw[this];exact m
     try clear O m
     generalize hS:bQ (h.act++[(i:Int)])=S at*;unfold cr RY mc at f0;simp only at f0;cases R:s.kind==3 with
     | false=>
       have h4: ¬s.kind=3:=by simpa using R
       rw[Mv h4]at a;have F:=ed Ut Uu UG Ux Uw Uz C A H T U<|qs q4 R p b q t u v z;repeat refine st ?_
       refine lL B ?_;repeat refine st ?_
       refine oc 1001 rfl (row:=⟨1,h.act.map aa++[[I i]],3,true⟩) X (Ng 0) rfl Y.symm (by simp only[go_sem,b]<;>exact iR) (by simp only[go_sem,b]<;>exact iR) (by simp only[go_sem,b]<;>exact iR) (by simp only[go_sem,b]<;>exact iR) ?_;rw[Z];repeat refine st ?_
       refine iL L6 f0 ?_;repeat refine st ?_
       refine⟨(j+1,r2,f),⟨⟨o,a,N,w,by simp only;omega⟩,?_,?_⟩,?_,?_,?_⟩
       ·simp only[go_sem,P,Q,NH]
       ·simp only[go_sem,p,b,q,t,u,v,z,NH]
       ·exact qe
       ·exact qe
       simp only;omega
     | true=>
       have h4:s.kind=3:=by simpa using R
       rw[Mw h4]at a;have q5:dd (f.length+1) 8:=aC (by omega) (by omega);have q6:(f++[(i:Int)]).map aa=f.map aa++[[I i]]:=by rw[NC];rfl
       have F:=ed Ut Uu UG Ux Uw Uz C A H T U<|mX q4 q5 R p b q t u v z;repeat refine st ?_
       refine lL B ?_;repeat refine st ?_
       refine oc 1001 rfl (row:=⟨1,h.act.map aa++[[I i]],3,true⟩) X (Ng 0) rfl Y.symm (by simp only[go_sem,b]<;>exact iR) (by simp only[go_sem,b]<;>exact iR) (by simp only[go_sem,b]<;>exact iR) (by simp only[go_sem,b]<;>exact iR) ?_;rw[Z];repeat refine st ?_
       refine iL L6 f0 ?_;repeat refine st ?_
       refine⟨(j+1,r2,f++[(i:Int)]),⟨⟨o,a,N,w,by simp only[NA,Nf];omega⟩,?_,?_⟩,?_,?_,?_⟩
       ·simp only[go_sem,P,Q,NH]
       ·simp only[go_sem,p,b,q,t,u,v,z,NH]
       ·exact qe
       ·simp only[q6];exact qe
       simp only;omega
    rw[hX]at a f0;simp only at a;rw[a];try clear N O m
    generalize hS:bQ (h.act++[(i:Int)])=S at*;unfold cr RY mc at f0;simp only at f0;show fq _ _ _ _ _ _;unfold EK cr;simp only;have F:=ed Ut Uu UG Ux Uw Uz C A H T U<|mX q4 P Q p b q t u v z;repeat refine st ?_
    refine lL B ?_;repeat refine st ?_
    refine oc 1001 rfl (row:=⟨1,h.act.map aa++[[I i]],3,true⟩) X (Ng 0) rfl Y.symm (by simp only[go_sem,b]<;>exact iR) (by simp only[go_sem,b]<;>exact iR) (by simp only[go_sem,b]<;>exact iR) (by simp only[go_sem,b]<;>exact iR) ?_;rw[Z];repeat refine st ?_
    refine iL L6 f0 ?_;repeat refine st ?_
    exact rI
 obtain rfl:j=G.length:=by omega
 have H:=nl G.length;rw[OH (by rw[ar];omega)]at a;rw[a];unfold ak;show fq _ _ _ _ _ _;unfold EK;simp only;refine fG (dg.frozen 6 6 ⟨1,f.map aa,3,true⟩ rfl (Ng 0) (by simp only[go_sem]) (by simp only[go_sem])) ?_;have F:=ed Ux Uw Uz H P Q p b q t u<|ai v z;repeat refine st ?_
 exact rI
end
end Go.Proofs.YtfhkmjbjafeckaaGreatDoor
