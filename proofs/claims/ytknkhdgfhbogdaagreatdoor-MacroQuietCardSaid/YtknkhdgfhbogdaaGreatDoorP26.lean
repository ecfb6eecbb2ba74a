/- An instance in the midst of a step: states are left. -/
import Derived.Test.YtknkhdgfhbogdaaGreatDoorP25
set_option maxRecDepth 100000
set_option maxHeartbeats 16000000
set_option linter.unusedSimpArgs false
set_option linter.defProp false
namespace Go.Proofs.YtknkhdgfhbogdaaGreatDoor
open Go.Proofs.Tryz
open Go.RowKit
section
def fb(r:ch)(d now:Int):r5->List AV
 |none=>[b0 r.act,b0 r.vars, .seq 2 (r.mem.map eg), .seq 2 (r.Z0.map cR),B r.over,b0 r.outs, .seq 2 (r.Z7.map cR),I d,I now,I 0,I (-1)]
 |some (k,_)=>[b0 r.act, .any, .any, .any, .any,b0 r.outs, .seq 2 (r.Z7.map cR),I d,I now,I (k:Nat),I (-1)]
def SZ:=@fb.eq_1
def J6(r:ch)(d now:Int)(k:Nat)(ps:List Int)(a b c e:AV):fX (.agg [b0 r.act,a,b,c,e,b0 r.outs, .seq 2 (r.Z7.map cR),I d,I now,I (k:Nat),I (-1)]) (.agg (fb r d now (some (k,ps)))):=
 .of (.agg (.cons (.refl _) (.cons (.any _) (.cons (.any _) (.cons (.any _) (.cons (.any _) (.cons (.refl _) (.cons (.refl _) (.cons (.refl _) (.cons (.refl _) (.cons (.refl _) (.cons (.refl _) .nil)))))))))))) (fun _ _ _ h=>by cases h) (fun _ _ _ h=>by cases h)
def iD(env:b6)(r:ch)(d now:Int)(k:Nat)(ps:List Int):b7 prog env 225 [.agg (fb r d now none),I (k:Nat)] (.agg (fb r d now (some (k,ps)))):=by
 refine qw func225 call225 ntmps225 results225 ?_;have F:=ai SZ fb.eq_2;repeat refine st ?_
 (refine aM ?_;refine⟨_,(by show (ag _ _ _).run _=some _;simp only[go_sem,F];rfl),?_⟩)
 exact J6 r d now k ps _ _ _ _
def xH(env:b6)(l:List (List UInt8×Int))(p:l.length<=4000)(s:List UInt8):b7 prog env 224 [.seq 2 (l.map cR),Sg s] (.own 85 2 ((ds l s).map cR)):=by
 refine qf func224 call224 ntmps224 results224 ?_;repeat refine m8 ?_
 refine PA l.length (by omega) (fun j i=>[(0, .seq 2 (l.map cR)),(1,Sg s),(5, .row 7 (i 7)),(6,I j)]) (fun j i=>[(7,⟨2,(ds (l.take j) s).map cR,85,true⟩)]) (fun j _ f=>f 7=false) (by simp only[go_sem]) ?_ ?_
 ·rintro j o k a e h b;obtain⟨x,d⟩:=gE a;have m:(ds (l.take j) s).length<=j:=Ly (MF ..) (by rw[Lw];omega);have n:cI ((ds (l.take j) s).length+1) 24:=aC (by omega) (by omega);cases c:x.1==s with
  | true=>
    have g:ds (l.take (j+1)) s=ds (l.take j) s:=by unfold ds;rw[bE d,MR];simp[c]
    have F:=ip S5 d c e h b;repeat refine st ?_
    refine⟨j+1,⟨a,by simp only[go_sem,b]⟩,?_,?_,by omega⟩
    ·exact qe
    simp only[g];exact qe
  | false=>
    have g:(ds (l.take (j+1)) s).map cR=(ds (l.take j) s).map cR++[cR x]:=by unfold ds;rw[bE d,MR];simp[c]
    have F:=lP S5 d c e h n b;repeat refine st ?_
    refine⟨j+1,⟨a,by simp only[go_sem,b]⟩,?_,?_,by omega⟩
    ·exact qe
    simp only[g];exact qe
 rintro o k e b;rw[MC];have F:=ai e b;exact dT
def IB(x y:List UInt8):(Op.bytesLess y x||y==x)= !Op.bytesLess x y:=by
 cases h:Op.bytesLess x y with
 | true=>
   rw[o6 h]
   have:(y==x)=false:=by
    rw[Nt];rintro rfl;rw[eI]at h;cases h
   rw[this];rfl
 | false=>
   cases a:Op.bytesLess y x with
   |true=>rfl
   |false=>rw[dp a h];simp
def Jr{x y:List UInt8×Int}{L:List (List UInt8×Int)}(h:Op.bytesLess x.1 y.1=true):rn x (y::L)=x::y::L:=by simp[rn,h]
def Km{x y:List UInt8×Int}{L:List (List UInt8×Int)}(h:Op.bytesLess x.1 y.1=false):rn x (y::L)=y::rn x L:=by simp[rn,h]
def xJ(env:b6)(l:List (List UInt8×Int))(z:l.length<=4000)(x:List UInt8×Int):b7 prog env 226 [.seq 2 (l.map cR), .agg (cR x)] (.own 85 2 ((rn x l).map cR)):=by
 unfold cR;show b7 _ _ _ [.seq 2 (l.map cR),_] (.own _ 2 ((rn x l).map cR));refine qf func226 call226 ntmps226 results226 ?_;repeat refine m8 ?_
 refine Si (D:=Nat×Bool×List (List UInt8×Int)) (fun d r=>[(0, .seq 2 (l.map cR)),(3, .loc 3 (r 3) 0 0),(5, .row 8 (r 8)),(6,B d.2.1),(7,I d.1)]) (fun d r=>[(3,⟨2,[[Sg x.1,I x.2]],85,false⟩),(8,⟨2,d.2.2.map cR,85,true⟩)]) (fun d _ p=>(d.1<=l.length/\d.2.2.length<=d.1+(if d.2.1=true then 1 else 0)/\rn x l=d.2.2++(if d.2.1=true then l.drop d.1 else rn x (l.drop d.1)))/\p 8=false) (fun d=>l.length-d.1) (0,false,[]) ⟨⟨Lx _,Lx _,rfl⟩,by simp only[go_sem]⟩ ?_;rintro⟨j,b,o⟩ A w ⟨⟨t,e,a⟩,f⟩;simp only at t e a;have s:o.length<=j+1:=by split at e<;>omega
 by_cases c:j<l.length
 ·obtain⟨y,m⟩:=gE c;have g:=h9 c;have q:=aD c (by omega);have h:cI (o.length+1) 24:=aC (by omega) (by omega);have u:cI (o.length+1+1) 24:=aC (by omega) (by omega);have k:=IB x.1 y.1;have n:(o++[y]).map cR=o.map cR++[[Sg y.1,I y.2]]:=by rw[Ln];rfl
  have v:(o++[x,y]).map cR=o.map cR++[[Sg x.1,I x.2]]++[[Sg y.1,I y.2]]:=by rw[Ln,M4];rfl
  rw[ar m]at a;cases b with
  | true=>
    simp only[Mb]at a;have F:=ip S5 m g q h f;repeat refine st ?_
    refine⟨(j+1,true,o++[y]),⟨⟨c,by simp only[Mb,Ll,MX]at e |-;omega,by simp only[Mb];rw[a,M4];rfl⟩,by simp only[go_sem,f]⟩,?_,?_,by simp only;omega⟩
    ·exact qe
    simp only[n];exact qe
  | false=>
    simp only[MH,Mi]at a;cases i:Op.bytesLess x.1 y.1 with
    | true=>
      rw[i]at k;rw[Jr i]at a;have F:=ns S5 m k g q h u f;repeat refine st ?_
      refine⟨(j+1,true,o++[x,y]),⟨⟨c,?_,?_⟩,by simp only[go_sem,f]⟩,?_,?_,by simp only;omega⟩
      ·simp only[MH,Mi]at e;simp only[Ll,MB,OV,Mb];omega
      ·simp only[Mb];rw[a,M4];rfl
      ·exact qe
      simp only[v];exact qe
    | false=>
      rw[i]at k;rw[Km i]at a;have F:=lP S5 m k g q h f;repeat refine st ?_
      refine⟨(j+1,false,o++[y]),⟨⟨c,by simp only[MH,Mi,Ll,MX]at e |-;omega,by simp only[MH,Mi];rw[a,M4];rfl⟩,by simp only[go_sem,f]⟩,?_,?_,by simp only;omega⟩
      ·exact qe
      simp only[n];exact qe
 ·obtain rfl:j=l.length:=by omega
  have g:=nl l.length;have h:cI (o.length+1) 24:=aC (by omega) (by omega);rw[Mu]at a;cases b with
  | true=>
    rw[Lj rfl,Mw]at a;rw[a];have F:=ai g f;exact dT
  | false=>
    rw[Lf MW]at a;have n:(rn x l).map cR=o.map cR++[[Sg x.1,I x.2]]:=by rw[a,Ln];rfl
    rw[n];have F:=fI g h f;exact dT
def r9(env:b6)(r:ch)(d now:Int)(s:List UInt8)(v:Int):b7 prog env 192 [.agg (fb r d now none),Sg s,I v] (.agg (fb (gb r s v).1 d now (gb r s v).2)):=by
 have f0:=iD env r d now 8 [-1];unfold gb;by_cases b:16<=r.Z7.length
 ·rw[Lj b];have a:(16:Int)<=(r.Z7.length:Int):=by omega
  unfold fb at f0 |-;simp only;refine qf func192 call192 ntmps192 results192 ?_;have F:=a;exact g9 f0
 rw[Lf b];have a: ¬(16:Int)<=(r.Z7.length:Int):=by omega
 have c:cI (r.Z7.length+1) 24:=aC (by omega) (by omega);have e:cI r.Z7.length 24:=aC (by omega) (by omega);unfold fb;simp only[Ln,M1,NH];refine qf func192 call192 ntmps192 results192 ?_;have F:=hH S5 a c e;exact dT
end
section
def Ja(env:b6)(c:aq)(G:c.Z9.length<=4000)(H:c.vars.length<=1000)(d now:Int)(I:aL d=true)(Q:0<=now/\now<=1099511627776)(r:ch)(s:ek c r)(J:r.act.length<=1000000)(a:jn)(h:gC c.vars.length c.Z9.length a=true):b7 prog env 190 [.agg (aA c), .agg (fb r d now none), .agg (az a)] (.agg (fb (Qh c d now r a).1 d now (Qh c d now r a).2)):=by
 have M:=s.len;have K:=s.ZN;have z:=(xH env r.Z0 (by omega) a.name).lend (aj (fun _=>rfl) _);unfold Qh;by_cases o:a.kind=5
 ·rw[Lj o];have b:(a.kind==5)=true:=by simp[o]
  generalize ds r.Z0 a.name=L at*;unfold fb;simp only;refine qf func190 call190 ntmps190 results190 ?_;have F:=fI SR S4 b;repeat refine st ?_
  refine lL z ?_;exact dT
 rw[Lf o];have b:(a.kind==5)=false:=by simp[o]
 have j:bn a.code c.vars.length c.Z9.length=true:=by
  unfold gC at h;repeat' split at h
  all_goals (first|(exact absurd ‹a.kind=5› o)|(simp only[Li]at h;exact h.2)|cases h)
 have f1:=r6 env c G (r.act,r.vars,r.mem,r.Z0,r.over) J d;have f2:=vZ env (Rr c d r) (DV s I) (by show r.vars.length<=_;omega) a.code (by rw[show (Rr c d r).act.length=c.Z9.length from o8 c r.act r.vars d,show (Rr c d r).vars.length=c.vars.length from s.len];exact j);rw[show GS c (r.act,r.vars,r.mem,r.Z0,r.over).1 (r.act,r.vars,r.mem,r.Z0,r.over).2.1 d=Rr c d r from rfl]at f1;generalize (Rr c d r)=W at*;unfold aA k0 at f1;simp only at f1;cases C:kO W a.code with
 | none=>
   have f3:=iD env r d now 2 [-1, -1];rw[C]at f2;unfold Ci at f2;unfold fb at f3 |-;simp only;refine qf func190 call190 ntmps190 results190 ?_;have F:=fI SR S4 b;exact x5 f1 f2 f3
 | some v=>
   rw[C]at f2;unfold Ci at f2;simp only;have n:=r9 env r d now a.name v;by_cases p:a.kind=1
   ·rw[Lj p];have g:(a.kind==1)=true:=by simp[p]
    obtain⟨w,N⟩:0<=a.n/\a.n<c.vars.length:=by
     unfold gC at h;rw[Lj p]at h;simp only[Li,Lt]at h;exact h.1.1
    have f:a.n< (r.vars.length:Int):=by omega
    have q:cI r.vars.length 8:=aC (by omega) (by omega);obtain⟨x,O⟩: ∃x,r.vars[a.n.toNat]? =some x:=⟨r.vars[a.n.toNat]'(by omega),Lc _⟩;unfold fb;simp only[O7,b0];refine qf func190 call190 ntmps190 results190 ?_;have F:=pf SR S4 S3 b g f q w O;exact m5 f1 f2
   rw[Lf p];have g:(a.kind==1)=false:=by simp[p]
   by_cases t:a.kind=2
   ·rw[Lj t];have f:(a.kind==2)=true:=by simp[t]
    generalize gb r a.name v=X at*;rcases X with⟨S,_|⟨k,R⟩⟩
    ·unfold fb at n |-;simp only at n |-;refine qf func190 call190 ntmps190 results190 ?_;have F:=g7 SR S4 b g f;exact x5 f1 f2 n
    unfold fb at n |-;simp only at n |-;refine qf func190 call190 ntmps190 results190 ?_;have F:=g7 SR S4 b g f;exact x5 f1 f2 n
   rw[Lf t];have f:(a.kind==2)=false:=by simp[t]
   by_cases u:a.kind=4
   ·rw[Lj u];have m:(a.kind==4)=true:=by simp[u]
    have y:IntKind.i64.wrap (1099511627776-now)=1099511627776-now:=aW (by omega) (by omega);unfold zE;by_cases D:v<0\/1099511627776-now<v
    ·rw[Lj D];have f3:=iD env r d now 2 [-1];unfold fb at f3 |-;simp only;by_cases e:v<0
     ·refine qf func190 call190 ntmps190 results190 ?_;have F:=lP SR S4 b g f m e;exact x5 f1 f2 f3
     have i:1099511627776-now<v:=by omega
     refine qf func190 call190 ntmps190 results190 ?_;have F:=pf SR S4 b g f m e i y;exact x5 f1 f2 f3
    rw[Lf D];have e: ¬v<0:=by omega
    have i: ¬1099511627776-now<v:=by omega
    by_cases A:8<=(ds r.Z0 a.name).length
    ·rw[Lj A];have l:(8:Int)<=((ds r.Z0 a.name).length:Int):=by omega
     have f3:=iD env r d now 8 [-1];generalize ds r.Z0 a.name=L at*;unfold fb at f3 |-;simp only;refine qf func190 call190 ntmps190 results190 ?_;have F:=la SR S4 b g f m e i y l;repeat refine vb f1 f2 ?_
     refine lL z ?_;exact g9 f3
    rw[Lf A];have l: ¬(8:Int)<=((ds r.Z0 a.name).length:Int):=by omega
    have q:IntKind.i64.wrap (now+v)=now+v:=aW (by omega) (by omega);have f3:=(xJ env (ds r.Z0 a.name) (by omega) (a.name,now+v)).lend (aj (fun _=>rfl) _);generalize rn (a.name,now+v) (ds r.Z0 a.name)=E at*;generalize ds r.Z0 a.name=L at*;unfold cR at f3;change P' _ _ _ [.seq 2 (L.map cR),_] (.own _ 2 (E.map cR)) at f3;unfold fb;simp only;refine qf func190 call190 ntmps190 results190 ?_;have F:=pc SR S4 b g f m e i y l q;repeat refine vb f1 f2 ?_
    refine lL z ?_;repeat refine st ?_
    refine lL f3 ?_;exact dT
   rw[Lf u];have m:(a.kind==4)=false:=by simp[u]
   unfold Iw;by_cases B:256<=r.outs.length
   ·rw[Lj B];have l:(256:Int)<=(r.outs.length:Int):=by omega
    have f3:=iD env r d now 8 [-1];unfold fb at f3 |-;simp only;refine qf func190 call190 ntmps190 results190 ?_;have F:=lP SR S4 b g f m l;exact x5 f1 f2 f3
   rw[Lf B];have l: ¬(256:Int)<=(r.outs.length:Int):=by omega
   have q:cI (r.outs.length+1) 8:=aC (by omega) (by omega);have P:cI r.outs.length 8:=aC (by omega) (by omega);unfold fb;simp only[Ln,M1,NH,b0];refine qf func190 call190 ntmps190 results190 ?_;have F:=la SR S4 S3 b g f m l q P;exact m5 f1 f2
def vE(e:r5):Prop:= ∀x,e=some x->x.1=2\/x.1=8
def tl(r:ch)(s:List UInt8)(v:Int):vE (gb r s v).2:=by
 unfold gb;split<;>(intro x h;cases h);exact .inr rfl
def LV(c:aq)(d now:Int)(r:ch)(a:jn):vE (Qh c d now r a).2:=by
 unfold Qh;split
 ·intro x h;cases h
 split
 ·intro x h;cases h;exact .inl rfl
 split
 ·intro x h;cases h
 split
 ·exact tl _ _ _
 split
 ·unfold zE;split
  ·intro x h;cases h;exact .inl rfl
  split
  ·intro x h;cases h;exact .inr rfl
  intro x h;cases h
 unfold Iw;split
 ·intro x h;cases h;exact .inr rfl
 intro x h;cases h
def vC(c:aq)(d now:Int): ∀(l:List jn)(r:ch),vE (lE c d now r l).2
 |[],r=>fun x h=>by cases h
 | a::l,r=>by
   unfold lE;split
   ·exact vC c d now l _
   exact LV c d now r a
def AQ(env:b6)(c:aq)(O:c.Z9.length<=4000)(w:c.vars.length<=1000)(d now:Int)(J:aL d=true)(L:0<=now/\now<=1099511627776)(r:ch)(q:ek c r)(z:r.act.length<=1000000)(l:List jn)(Q:l.length<=1000)(o: ∀a∈l,gC c.vars.length c.Z9.length a=true):b7 prog env 131 [.agg (aA c), .agg (fb r d now none), .seq 4 (l.map az)] (.agg (fb (lE c d now r l).1 d now (lE c d now r l).2)):=by
 have y:=fun(r:ch) q z (a:jn) o=>Ja env c O w d now J L r q z a o;have A:=fun(r:ch)(q:ek c r)(a:jn) o=>JX J L q (a:=a) o;refine qf func131 call131 ntmps131 results131 ?_;have F:=fI SZ fb.eq_2 SR;repeat refine st ?_
 refine aG (D:=Nat×ch×r5) (fun x v=>[(2, .seq 4 (l.map az)),(3, .loc 3 (v 3) 0 0),(4, .loc 4 (v 4) 0 0),(6, .loc 6 (v 6) 0 0),(7,I x.1)]) (fun x v=>[(3,⟨5,[aA c],26,false⟩),(4,⟨11,[fb x.2.1 d now x.2.2],165,false⟩),(6,⟨11,[[ct,ct,ct,ct,B false,ct,ct,I 0,I 0,I 0,I 0]],165,false⟩)]) (fun x _ n=>(x.1<=l.length/\(match x.2.2 with
  |none=>lE c d now r l=lE c d now x.2.1 (l.drop x.1)/\ek c x.2.1/\x.2.1.act=r.act
  |some e=>lE c d now r l=(x.2.1,some e)))/\n 4=false/\n 6=false) (fun x=>(l.length-x.1)+(if x.2.2.isSome=true then 0 else 1)) (0,r,none) ?_ ?_ ?_ ?_
 ·exact⟨⟨Lx _,rfl,q,rfl⟩,by simp only[go_sem,Ls]⟩
 ·exact qe
 ·exact qe
 rintro⟨j,t,e⟩ S R ⟨⟨P,b⟩,i,m⟩;simp only at P b;rcases e with _|⟨k,G⟩
 ·obtain⟨b,s,g⟩:=b;by_cases f:j<l.length
  ·obtain⟨a,u⟩:=gE f;have p:=o a (Lh u);have f0:=y t s (by rw[g];exact z) a p;obtain⟨C,E⟩:=A t s a p;have h:=h9 f;have M:=aD f (by omega);rw[BV u]at b;unfold aA az at f0;rcases H:Qh c d now t a with⟨N,_|⟨k,G⟩⟩
   ·rw[H]at b f0 C E;simp only at b C E;unfold fb at f0;simp only at f0;have F:=pf SZ fb.eq_2 SR S4 u h M i m;repeat refine ef f0 ?_
    refine⟨(j+1,N,none),⟨⟨f,b,C,E.act.trans g⟩,?_⟩,?_,?_,?_⟩
    ·simp only[go_sem,i,m,Ls]
    ·exact qe
    ·exact qe
    simp;omega
   rw[H]at b f0;simp only at b;unfold fb at f0;simp only at f0;have F:=pf SZ fb.eq_2 SR S4 u h M i m;repeat refine ef f0 ?_
   refine⟨(j+1,N,some (k,G)),⟨⟨f,b⟩,?_⟩,?_,?_,?_⟩
   ·simp only[go_sem,i,m,Ls]
   ·exact qe
   ·exact qe
   simp;omega
  obtain rfl:j=l.length:=by omega
  have h:=nl l.length;rw[Mu]at b;rw[show lE c d now t []=(t,none) from rfl]at b;rw[b];show fk _ _ _ _ _ _;have F:=ip SZ fb.eq_2 SR h i m;exact dT
 have K:((k:Int)==0)=false:=by
  have:=vC c d now l r (k,G) (by rw[b]);simp;simp only at this;omega
 rw[b];show fk _ _ _ _ _ _;by_cases f:j<l.length
 ·have h:=h9 f;have F:=lP SZ fb.eq_2 SR h K i m;exact dT
 obtain rfl:j=l.length:=by omega
 have h:=nl l.length;have F:=lP SZ fb.eq_2 SR h K i m;exact dT
end
section
def iG{c:aq}{k:Nat}{s:na}(a:c.Z9[k]? =some s):bW c k=s.kind:=by unfold bW;rw[bL,a]
def wa(env:b6)(c:aq)(h:b8 c)(act:List Int): ∀(f i:Nat),i<c.Z9.length->c.Z9.length-i<=f->b7 prog env 220 [.agg (aA c),aH c, .seq 1 (kb c.Z9.length act),I i] (B (oT c act f i))
 |0,i,v,C=>by omega
 | f+1,i,v,C=>by
   have H:=h.Z6;obtain⟨s,m⟩:=gE v;have J:=fun(k:Nat) l C=>wa env c h act f k l C;have E:=h9 v;have f0:=bc env c h i;rw[Lj (.inr (aV.2 v))]at f0;have f0:=(f0.lend (aj (fun _=>rfl) _)).seen;have O:=bC h.toRight i true;have n: ∀j∈av c i true,i<j/\j<c.Z9.length:=fun j M=>by have:=bH h.toRight (aY M).1;omega
   have p:=eW c.Z9.length act;unfold oT;rw[iG m,show gv c (i:Int)=zL (av c i true) from rfl];generalize av c i true=K at*;unfold aH at f0 J |-;by_cases x:s.kind=3
   ·rw[Lj x];have u:(s.kind==3)=true:=by simp[x]
    refine qf func220 call220 ntmps220 results220 ?_;have F:=g7 SR SS m E u;exact dT
   rw[Lf x];have u:(s.kind==3)=false:=by simp[x]
   by_cases w:s.kind=1
   ·rw[Lj w];have y:(s.kind==1)=true:=by simp[w]
    refine qf func220 call220 ntmps220 results220 ?_;have F:=ip SR SS m E u y;repeat refine st ?_
    refine lL f0 ?_;repeat refine st ?_
    refine lq K.length (by omega) (fun j r=>[(2, .seq 1 (kb c.Z9.length act)),(4, .loc 4 (r 4) 0 0),(25, .seq 1 (K.map aB)),(26,I K.length),(27,I j)]) (fun j r=>[(4,⟨5,[aA c],26,false⟩)]) (fun j _ A=>(zL K).find? (fun k=>act.contains k)=((zL K).drop j).find? fun k=>act.contains k) rfl ?_ ?_
    ·rintro j G z b g q a;obtain⟨k,e⟩:=gE b;obtain⟨_,l⟩:=n k (Lh e);obtain⟨t,D⟩:=gE l;have L:=h9 l;have d:=kH (act:=act) l;rw[ar (qQ e),List.find?_cons]at a;cases o:act.contains (k:Int) with
     | true=>
       rw[o]at d a;simp only at a;rw[a];simp only[iG D];show fk _ _ _ _ _ _;have F:=pc SR SS SU m D e g q L d p;exact dT
     | false=>
       rw[o]at d a;simp only at a;have F:=pc SR SS SU m D e g q L d p;repeat refine st ?_
       exact qn (j+1) ⟨b,a⟩
    rintro G z g a;rw[Mm (by rw[ak];omega)]at a;rw[a];show fk _ _ _ _ _ _;simp only[Oe];have F:=g;exact dT
   rw[Lf w];have y:(s.kind==1)=false:=by simp[w]
   refine qf func220 call220 ntmps220 results220 ?_;have F:=ip SR SS m E u y;repeat refine st ?_
   refine lL f0 ?_;repeat refine st ?_
   refine lq K.length (by omega) (fun j r=>[(1, .ref 9 [ca c] 0 0),(2, .seq 1 (kb c.Z9.length act)),(4, .loc 4 (r 4) 0 0),(45, .seq 1 (K.map aB)),(46,I K.length),(47,I j)]) (fun j r=>[(4,⟨5,[aA c],26,false⟩)]) (fun j _ A=>((zL K).all fun k=>oT c act f k)=((zL K).drop j).all fun k=>oT c act f k) rfl ?_ ?_
   ·rintro j G z b g q a;obtain⟨k,e⟩:=gE b;obtain⟨N,l⟩:=n k (Lh e);have f1:=J k l (by omega);rw[ar (qQ e),PR]at a;cases o:oT c act f (k:Int) with
    | true=>
      rw[o]at f1 a;rw[M5]at a;unfold aA at f1;have F:=g7 SR SU e g q;repeat refine ef f1 ?_
      exact qn (j+1) ⟨b,a⟩
    | false=>
      rw[o]at f1 a;rw[M0]at a;rw[a];unfold aA at f1;show fk _ _ _ _ _ _;have F:=g7 SR SU e g q;exact g9 f1
   rintro G z g a;rw[Mm (by rw[ak];omega)]at a;rw[a];show fk _ _ _ _ _ _;have F:=g;exact dT
def Gb(env:b6)(d e:Addr)(n:fq env d e)(c:aq)(h:b8 c)(k:g6 c)(act:List Int)(g:act.length<=1000000)(m:rx c act=true)(i:Nat)(hi:i<c.Z9.length):b7 prog env 179 [aH c, .seq 1 (act.map aa),I i] (.tuple [B (sn c act i),h8]):=by
 have j:=h.Z6;have f0:=cd env d e n c h k act g;unfold vA at f0;rw[m]at f0;simp only[Mb]at f0;have f1:=((jS env c (by omega) act g).lend (aj (fun _=>rfl) _)).seen;have f2:=au env c k;have f3:=wa env c h act 40 i hi (by omega);have b:=eW c.Z9.length act;have a:=kH (act:=act) hi;have l:=h9 hi;unfold sn;cases f:act.contains (i:Int) with
 | true=>
   rw[f]at a;rw[M5];unfold aH at*;unfold aA at f2 f3;refine qf func179 call179 ntmps179 results179 ?_;have F:=fI b a l;repeat refine ef f0 ?_
   refine lL f1 ?_;exact m5 f2 f3
 | false=>
   rw[f]at a;rw[M0];unfold aH at*;refine qf func179 call179 ntmps179 results179 ?_;have F:=fI b a l;repeat refine ef f0 ?_
   refine lL f1 ?_;exact dT
end
section
def CA(c:aq)(act:List Int):Nat->Int->Bool
 |0,_=>false
 | f+1,i=>if bW c i=2 then(gv c i).all fun k=>CA c act f k
   else if bW c i=1 then(gv c i).any fun k=>act.contains k&&bW c k==3
   else bW c i==3
def w9{c:aq}(h:b8 c){act:List Int}(G:rx c act=true): ∀(f:Nat)(x:Int),x∈act->oT c act f x=CA c act f x
 |0,x,_=>rfl
 | f+1,x,M=>by
   have K:=cr G;obtain⟨s,r,A,H,N,I,J⟩:=K.of M;have u:bW c x=s.kind:=by unfold bW;rw[r]
   unfold aU at H;simp only[PH,Nt]at H;have v:gv c x=zL (av c x true):=rfl;unfold oT CA;rw[u,v];by_cases t:s.kind=3
   ·rw[Lj t,Lf (by omega),Lf (by omega),t];rfl
   rw[Lf t];by_cases p:s.kind=1
   ·rw[Lj p,Lf (by omega),Lj p];by_cases D:av c x true=[]
    ·rw[D];rfl
    ·have j:=I p D;unfold bx at j;obtain⟨a,E⟩:=OY.1 j
     have i: ∀k∈av c x true,act.contains (k:Int)=true->k=a:=fun k u L=>by
      have:k∈(av c x true).filter fun k:Nat=>act.contains (k:Int):=Lq.2 ⟨u,L⟩;rw[E]at this;simpa using this
     have o:a∈av c x true/\act.contains (a:Int)=true:=by
      have:a∈(av c x true).filter fun k:Nat=>act.contains (k:Int):=by rw[E];simp
      exact Lq.1 this
     cases l:(zL (av c x true)).find? fun k=>act.contains k with
     | none=>
       exfalso
       have:=O1.1 l a (Lp.2 ⟨a,o.1,rfl⟩);exact this o.2
     | some y=>
       have d:=Oq l;obtain⟨k,g,rfl⟩:=Lp.1 (N2 l);obtain rfl:=i k g d;simp only;rw[MP,Ml];constructor
       ·intro e;exact⟨_,Lp.2 ⟨k,g,rfl⟩,by rw[d,e];rfl⟩
       rintro⟨z,B,n⟩;obtain⟨m,w,rfl⟩:=Lp.1 B;rw[Li]at n;obtain rfl:=i m w n.1;exact n.2
   rw[Lf p];by_cases C:s.kind=2
   ·rw[Lj C];have b:=J C;unfold bx at b;have b:=O8.1 b;rw[MP,Lm,Lm]
    have e: ∀y∈zL (av c x true),oT c act f y=CA c act f y:=fun y d=>by
     obtain⟨k,g,rfl⟩:=Lp.1 d;exact w9 h G f k (Lk.1 (b k g))
    exact⟨fun q y d=>by rw[<-e y d];exact q y d,fun q y d=>by rw[e y d];exact q y d⟩
   exfalso
   have A:=aI.1 A
   have:=h.shape (k:=x.toNat) (s:=s) (by
    unfold at_ at r;rw[Lj A.1]at r
    exact r)
   unfold dG at this;rw[Lf p,Lf C,Lf t]at this;split at this
   ·omega
   cases this
def v7(env:b6)(c:aq)(h:b8 c)(act:List Int)(J:act.length<=1000000): ∀(f i:Nat),i<c.Z9.length->c.Z9.length-i<=f->b7 prog env 194 [.agg (aA c), .seq 1 (act.map aa),I i] (B (CA c act f i))
 |0,i,E,D=>by omega
 | f+1,i,E,D=>by
   have L:=h.Z6;obtain⟨s,z⟩:=gE E;have M:=fun(k:Nat) p D=>v7 env c h act J f k p D;have G:=h9 E;have f0:=((be env c i true (by omega)).lend (aj (fun _=>rfl) _)).seen;have N:=fun(k:Nat)=>cF env act k J;have Q:=bC h.toRight i true;have u: ∀j∈av c i true,i<j/\j<c.Z9.length:=fun j O=>by have:=bH h.toRight (aY O).1;omega
   unfold CA;rw[iG z,show gv c (i:Int)=zL (av c i true) from rfl];generalize av c i true=K at*;unfold aA at f0 M;by_cases q:s.kind=2
   ·rw[Lj q];have e:(s.kind==2)=true:=by simp[q]
    have m:(s.kind==1)=false:=by simp[q]
    have o:(s.kind==3)=false:=by simp[q]
    refine qf func194 call194 ntmps194 results194 ?_;have F:=hH SR SS z G;repeat refine st ?_
    refine lL f0 ?_;repeat refine st ?_
    refine lq K.length (by omega) (fun j g=>[(1, .seq 1 (act.map aa)),(3, .loc 3 (g 3) 0 0),(7, .loc 7 (g 7) 0 0),(8, .seq 1 (K.map aB)),(9,I j)]) (fun j g=>[(3,⟨5,[aA c],26,false⟩),(7,⟨6,[aK s],62,false⟩)]) (fun j _ C=>((zL K).all fun k=>CA c act f k)=((zL K).drop j).all fun k=>CA c act f k) rfl ?_ ?_
    ·rintro j x r b d n a;obtain⟨k,l⟩:=gE b;obtain⟨P,p⟩:=u k (Lh l);have f1:=M k p (by omega);rw[ar (qQ l),PR]at a;cases v:CA c act f (k:Int) with
     | true=>
       rw[v]at f1 a;rw[M5]at a;have F:=ns SR SS SU l d n m e;repeat refine ef f1 ?_
       exact qn (j+1) ⟨b,a⟩
     | false=>
       rw[v]at f1 a;rw[M0]at a;rw[a];show fk _ _ _ _ _ _;have F:=ns SR SS SU l d n m e;exact g9 f1
    rintro x r d a;rw[Mm (by rw[ak];omega)]at a;rw[a];show fk _ _ _ _ _ _;have F:=hH SS d e o;exact dT
   rw[Lf q];have e:(s.kind==2)=false:=by simp[q]
   by_cases w:s.kind=1
   ·rw[Lj w];have m:(s.kind==1)=true:=by simp[w]
    have o:(s.kind==3)=false:=by simp[w]
    refine qf func194 call194 ntmps194 results194 ?_;have F:=hH SR SS z G;repeat refine st ?_
    refine lL f0 ?_;repeat refine st ?_
    refine lq K.length (by omega) (fun j g=>[(1, .seq 1 (act.map aa)),(3, .loc 3 (g 3) 0 0),(7, .loc 7 (g 7) 0 0),(8, .seq 1 (K.map aB)),(9,I j)]) (fun j g=>[(3,⟨5,[aA c],26,false⟩),(7,⟨6,[aK s],62,false⟩)]) (fun j _ C=>((zL K).any fun k=>act.contains k&&bW c k==3)=((zL K).drop j).any fun k=>act.contains k&&bW c k==3) rfl ?_ ?_
    ·rintro j x r b d n a;obtain⟨k,l⟩:=gE b;obtain⟨_,p⟩:=u k (Lh l);obtain⟨t,A⟩:=gE p;have H:=h9 p;have f1:=N k;rw[ar (qQ l),Ob,iG A]at a;cases v:act.contains (k:Int) with
     | false=>
       rw[v]at f1 a;rw[M0,NY]at a;have F:=la SR SS SU A l d n H m e;repeat refine ef f1 ?_
       exact qn (j+1) ⟨b,a⟩
     | true=>
       rw[v]at f1 a;cases y:t.kind==3 with
       | false=>
         rw[y]at a;rw[Mj,NY]at a;have F:=pc SR SS SU A l y d n H m e;repeat refine ef f1 ?_
         exact qn (j+1) ⟨b,a⟩
       | true=>
         rw[y]at a;rw[Pn,P7]at a;rw[a];show fk _ _ _ _ _ _;have F:=pc SR SS SU A l y d n H m e;exact g9 f1
    rintro x r d a;rw[Mm (by rw[ak];omega)]at a;rw[a];show fk _ _ _ _ _ _;simp only[P8];have F:=hH SS d e o;exact dT
   rw[Lf w];have m:(s.kind==1)=false:=by simp[w]
   refine qf func194 call194 ntmps194 results194 ?_;have F:=hH SR SS z G;repeat refine st ?_
   refine lL f0 ?_;repeat refine st ?_
   refine lq K.length (by omega) (fun j g=>[(1, .seq 1 (act.map aa)),(3, .loc 3 (g 3) 0 0),(7, .loc 7 (g 7) 0 0),(8, .seq 1 (K.map aB)),(9,I j)]) (fun j g=>[(3,⟨5,[aA c],26,false⟩),(7,⟨6,[aK s],62,false⟩)]) (fun _ _ _=>True) trivial ?_ ?_
   ·rintro j x r b d n _;have F:=ip SR SS d n m e;repeat refine st ?_
    exact qn (j+1) ⟨b,trivial⟩
   ·rintro x r d _;cases o:s.kind==3 with
    | true=>
      have F:=hH SS d e o;exact dT
    | false=>
      have F:=hH SS d e o;exact dT
end
section
def xX(env:b6)(l:List Int)(p:Int->Bool)(g:FuncId)(G:Int)(P:TypeId)(U: ∀d,b7 prog env g [I d, .ref 1 [[I G]] 0 0] (B (p d)))(hl:l.length<=4096):
 hU prog env 241 [1000,1001] (fun k=>k==1000) (fun vs=>[.row 1000 (vs 1000), .clo g [.loc 1001 (vs 1001) 0 0]]) (fun _=>[(1000,⟨1,l.map aa,3,true⟩),(1001,⟨1,[[I G]],P,false⟩)]) (fun _=>[(1000,⟨1,(l.filter fun d=> !p d).map aa,3,true⟩),(1001,⟨1,[[I G]],P,false⟩)]) (fun vs=> .row 1000 (vs 1000)):=by
 have f0:=(qF env l p g [[I G]] U hl).lend rfl;cases t:ly p l with
 | none=>
   rw[t]at f0;obtain⟨m,_⟩:=pO t;rw[m];refine qi func241 call241 ntmps241 results241 ?_;intro vs z h;obtain⟨e,f⟩:=OF h;have F:=hH e f Tp lz.eq_2;repeat refine st ?_
   refine lL f0 ?_;repeat refine st ?_
   exact rI
 | some s=>
   rw[t]at f0;obtain⟨m,E,d0,H,J⟩:=pN t;have R:((s:Int) == -1)=false:=by simp
   have r:=aD m (by omega);refine qi func241 call241 ntmps241 results241 ?_;intro vs z h;obtain⟨e,f⟩:=OF h;have F:=ip e f Tp lz.eq_2 R r;repeat refine st ?_
   refine lL f0 ?_;repeat refine st ?_
   refine aG (D:=Nat×List Int) (fun x i=>[(0, .row 1000 (i 1000)),(1, .clo g [.loc 1001 (i 1001) 0 0]),(5,I (((l.take x.1).filter fun d=> !p d).length:Int)),(6,I (x.1:Int))]) (fun x i=>[(1000,⟨1,x.2.map aa,3,true⟩),(1001,⟨1,[[I G]],P,false⟩)]) (fun x i o=>(x.1<=l.length/\x.2.length=l.length/\((l.take x.1).filter fun d=> !p d).length<x.1/\x.2.take ((l.take x.1).filter fun d=> !p d).length=(l.take x.1).filter (fun d=> !p d)/\x.2.drop x.1=l.drop x.1)/\i 1001=vs 1001/\o 1000=false/\o 1001=false) (fun x=>l.length-x.1) (s+1,l) ?_ ?_ ?_ ?_
   ·have b:(l.take (s+1)).filter (fun d=> !p d)=l.take s:=by
     rw[bE H,MR, <-E];simp[J]
    refine⟨⟨m,rfl,?_,?_,rfl⟩,by simp only[go_sem],by simp only[go_sem,e],by simp only[go_sem,f]⟩
    ·rw[b,Lw];omega
    simp only;rw[b,Lw,OD (by omega)]
   ·have b:((l.take (s+1)).filter fun d=> !p d).length=s:=by
     rw[bE H,MR, <-E];simp[J];omega
    simp only[b];exact qe
   ·exact qe
   try clear e f R r m E H J t
   rintro⟨j,L⟩ ws es ⟨⟨hj,K,hc,u,w⟩,Q,e,f⟩;simp only at hj K hc u w;generalize a:((l.take j).filter fun d=> !p d).length=c at*;by_cases n:j<l.length
   ·obtain⟨d,V⟩:=gE n
    have v:L[j]? =some d:=by
     have:=MS (fun q:List Int=>q[0]?) w;simpa[V]using this
    have f1:=U d;have r:(j:Int)< (L.length:Int):=by omega
    have S:=aD n (by omega);have T:=bE V;cases m:p d
    ·rw[m]at f1;obtain⟨y,hy⟩: ∃x,L[c]? =some x:=⟨L[c]'(by omega),Lc (by omega)⟩;have A:(c:Int)< (L.length:Int):=by omega
     have C:IntKind.i64.wrap ((c:Int)+1)=((c+1:Nat):Int):=aD (show c<l.length by omega) (by omega);have b:((l.take (j+1)).filter fun d=> !p d)=(l.take j).filter (fun d=> !p d)++[d]:=by rw[T,MR];simp[m]
     have hs:(L.map aa).set c [I d]=(L.set c d).map aa:=by rw[O7]
     have F:=pf v hy e f r S A C hs;repeat refine st ?_
     refine oL (cH rfl (by simp only[go_sem,F];exact iR)) (f1.lend rfl) (by simp only[go_sem,F];exact iR) (by simp only[go_sem,F];exact⟨rfl,rfl⟩) ?_;repeat refine st ?_
     refine⟨(j+1,L.set c d),⟨⟨n,by simpa using K,?_,?_,?_⟩,?_,?_,?_⟩,?_,?_,?_⟩
     ·simp only[b,Ll,MX,a];omega
     ·simp only[b,Ll,MX,a];rw[<-u];apply Md;intro k;rw[MV,NF];by_cases hk:k<c
      ·rw[Lj (by omega),Lf (by omega),MY (by simp;omega),MV,Lj hk]
      by_cases N:k=c
      ·subst N;rw[Lj (by omega),Lj rfl,Lj (by omega),MO (by rw[Lw];omega),Lw,OD (by omega)];simp
      rw[Lf (by omega),Lu (by rw[Ll,Lw,MX];omega)]
     ·simp only;rw[List.drop_set_of_lt (by omega)];have:=MS (List.drop 1) w;simpa[Pa]using this
     ·simp only[go_sem,Q]
     ·simp only[go_sem,e]
     ·simp only[go_sem,f]
     ·have O:((l.take (j+1)).filter fun d=> !p d).length=c+1:=by rw[b,Ll,a];rfl
      simp only[O];exact qe
     ·exact qe
     simp only;omega
    rw[m]at f1;have b:((l.take (j+1)).filter fun d=> !p d)=(l.take j).filter (fun d=> !p d):=by rw[T,MR];simp[m]
    have F:=g7 v e f r S;repeat refine st ?_
    refine oL (cH rfl (by simp only[go_sem,F];exact iR)) (f1.lend rfl) (by simp only[go_sem,F];exact iR) (by simp only[go_sem,F];exact⟨rfl,rfl⟩) ?_;repeat refine st ?_
    refine⟨(j+1,L),⟨⟨n,K,?_,?_,?_⟩,?_,?_,?_⟩,?_,?_,?_⟩
    ·simp only[b,a];omega
    ·simp only[b,a];exact u
    ·simp only;have:=MS (List.drop 1) w;simpa[Pa]using this
    ·simp only[go_sem,Q]
    ·simp only[go_sem,e]
    ·simp only[go_sem,f]
    ·simp only[b,a];exact qe
    ·exact qe
    simp only;omega
   have r: ¬(j:Int)< (L.length:Int):=by omega
   have M:l.take j=l:=M8 (by omega);rw[M]at u a;have A:(c:Int)<=(L.length:Int):=by omega
   have C:c<=L.length:=by omega
   have W: ∀X:List (List AV),((L.take c).map aa++X).take c=(l.filter fun d=> !p d).map aa:=fun X=>by
    rw[OW (by rw[ME,Lw];omega),u]
   have Y:c+(L.length-c)=L.length:=by omega
   have Z:min c L.length=c:=by omega
   have F:=pc Q e f @Lw.{0} @List.length_replicate.{0} r A C W Y Z;repeat refine st ?_
   exact rI
end
section
def sL{c:aq}{d now:Int}{r:ch}{l:List Int}{j:Nat}{i:Int}(hi:l[j]? =some i):bS c d now r (l.drop j)=match lE c d now r (vh c i) with
 |(a,none)=>bS c d now { a with act:=a.act.filter fun k=> !(k==i) } (l.drop (j+1))
 |x=>x:=by
 rw[ar hi]
 conv=>lhs;unfold bS
 rcases lE c d now r (vh c i) with⟨a,_|_⟩<;>rfl
def tT{c:aq}(h:b8 c){k:Nat}{s:na}(d:c.Z9[k]? =some s):(s.out.length<=32/\ ∀a∈s.out,gC c.vars.length c.Z9.length a=true)/\s.ZW.length<=32/\ ∀a∈s.ZW,gC c.vars.length c.Z9.length a=true:=by
 have b:=h.st k s d;unfold cJ eL at b;simp only[Li,Lt,Lm]at b;exact⟨⟨b.2.1,b.2.2⟩,b.1.2.1,b.1.2.2⟩
def C4(env:b6)(G d:Int):b7 prog env 242 [I d, .ref 1 [[I G]] 0 0] (B (d==G)):=by
 refine qf func242 call242 ntmps242 results242 ?_;repeat refine m8 ?_
 exact p'
def RW(c:aq)(d now:Int)(G:List Nat)(r:ch)(g:Nat->Nat):List (Nat×Row):=(1006,⟨1,G.map aB,3,true⟩)::RY c d now r g
def Tv:=@RW.eq_1
def Fy(env:b6)(a1 N O:Addr)(c:aq)(d now:Int)(E:x6 env a1 N O c d now)(r:ch)(H:ek c r)(C:r.act.length<=4096)(G:List Nat)(hG: ∀i∈G,i<c.Z9.length)(P:G.length<=4096):
 hU prog env 205 [1000,1001,1002,1003,1004,1005,1006] n8 (fun g=>[.loc 1000 (g 1000) 0 0, .row 1006 (g 1006)]) (RW c d now G r) (RW c d now G.reverse (bS c d now r (zL G.reverse)).1) (fun _=>ck N O (bS c d now r (zL G.reverse)).2):=by
 have hfew:=E.h.Z6;have hcv:=E.hs.vars;have S:=fun(r:ch) H C (l:List jn) T Q=>yP env a1 N O c d now E r H C l T Q;have U:=fun(r:ch)(H:ek c r)(l:List jn) Q=>jb E.hd E.hn (l:=l) H Q;have z:=fun(l:List Int)(i:Int)(C:l.length<=4096)=>xX env l (fun k=>k==i) 242 i 3 (fun k=>C4 env i k) C;have g1:=rX (zL G) (by rw[ak];omega);have g2:bN ((zL G).map sP)=G.map aB:=by rw[bu,b9]
 have g3:bN ((zL G).reverse.map sP)=G.reverse.map aB:=by rw[bu, <-b9];simp
 have hR: ∀i∈G.reverse,i<c.Z9.length:=fun i hi=>hG i (Of.1 hi);have hRl:G.reverse.length<=4096:=by rw[NZ];exact P
 generalize G.reverse=R at*;refine qi func205 call205 ntmps205 results205 ?_;intro vs esc A;obtain⟨n,o,p,q,t,u,f⟩:=SM A;have F:=pc Tv SY SX S0 n o p q t u f;repeat refine st ?_
 refine ng 1006 rfl (row:=⟨1,G.map aB,3,true⟩) g1 (MZ 0) rfl g2.symm (by simp only[go_sem,f]<;>exact iR) (by simp only[go_sem,f]<;>exact iR) (by simp only[go_sem,f]<;>exact iR) (by simp only[go_sem,f]<;>exact iR) ?_;rw[g3];repeat refine st ?_
 refine lp (D:=Nat×ch) (fun x e=>[(0, .loc 1000 (e 1000) 0 0),(10, .row 1006 (e 1006)),(11,I R.length),(12,I x.1)]) (fun x e=>RW c d now R x.2 e) (fun x e a=>(x.1<=R.length/\bS c d now r (zL R)=bS c d now x.2 ((zL R).drop x.1)/\ek c x.2/\x.2.act.length<=4096)/\(e 1000=vs 1000/\e 1002=vs 1002/\e 1006=vs 1006)/\a 1000=false/\a 1001=false/\a 1002=false/\a 1003=false/\a 1004=false/\a 1005=false/\a 1006=false) (fun x=>R.length-x.1) (0,r) ⟨⟨Lx _,rfl,H,C⟩,by simp only[go_sem,Ls],by simp only[go_sem,n,o,p,q,t,u,f,Ls]⟩ ?_;try clear n o p q t u f g1 g2 g3
 rintro⟨j,X⟩ ws es ⟨⟨hj,b,y,v⟩,⟨Y,Z,v6⟩,n,o,p,q,t,u,f⟩;simp only at hj b y v;by_cases m:j<R.length
 ·obtain⟨i,L⟩:=gE m;have B:=hR i (Lh L);obtain⟨s,K⟩:=gE B;obtain⟨⟨s1,s2⟩,_⟩:=tT E.h K;have ho:vh c i=s.out:=by unfold vh;rw[bL,K]
  have f0:=S X y (by omega) s.out (by omega) s2;obtain⟨V,W⟩:=U X y s.out s2;have M:=h9 m;have q2:=aD m (by omega);have q3:=h9 B;rw[sL (qQ L),ho]at b;rcases hX:lE c d now X s.out with⟨J,_|⟨k,ps⟩⟩
  ·rw[hX]at b f0 V W;simp only at b V W;have h:J.act.length<=4096:=by have:=W.act;rw[this];exact v
   have f3:=z J.act i h;have w:(J.act.filter fun k=> !(k==(i:Int))).length<=4096:=Ly (MF ..) h;generalize hF:(J.act.filter fun k=> !(k==(i:Int)))=L2 at*;unfold ck RY k9 at f0;simp only at f0;have F:=dk SS SU S9 Tv SY SX S0 L K M q2<|ns q3 n o p q t u f;repeat refine st ?_
   refine iL L6 f0 ?_;repeat refine st ?_
   refine iL [(1000,1001),(1001,6)] f3 ?_;repeat refine st ?_
   refine⟨(j+1,{ J with act:=L2 }),⟨⟨m,b,{ V with },w⟩,?_,?_⟩,?_,?_,?_⟩
   ·simp only[go_sem,Y,Z,v6,Ls]
   ·simp only[go_sem,n,o,p,q,t,u,f,Ls]
   ·exact qe
   ·exact qe
   simp only;omega
  rw[hX]at b f0;simp only at b;rw[b];unfold ck RY k9 at f0;simp only at f0;show fk _ _ _ _ _ _;unfold ck;simp only;have F:=dk SS SU S9 Tv SY SX S0 L K M q2<|pc q3 Y Z v6 n o p q t u f;repeat refine st ?_
  refine iL L6 f0 ?_;repeat refine st ?_
  exact rI
 obtain rfl:j=R.length:=by omega
 have M:=nl R.length;rw[Mm (by rw[ak];omega)]at b;rw[b];unfold bS;show fk _ _ _ _ _ _;unfold ck;simp only;have F:=dk Tv SY SX S0 M Y Z v6 n o p<|hH q t u f;repeat refine st ?_
 exact rI
end
end Go.Proofs.YtknkhdgfhbogdaaGreatDoor
