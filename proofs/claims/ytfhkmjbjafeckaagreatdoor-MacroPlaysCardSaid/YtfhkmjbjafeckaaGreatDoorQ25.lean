/- The document's words on actions. -/
import Derived.Test.YtfhkmjbjafeckaaGreatDoorQ24
set_option maxRecDepth 100000
set_option maxHeartbeats 16000000
set_option linter.unusedSimpArgs false
set_option linter.defProp false
namespace Go.Proofs.YtfhkmjbjafeckaaGreatDoor
open Go.Proofs.Tryz
open Go.RowKit
section
def IS(c:aq)(act vars:List Int)(d:Int):rx:=⟨vars,d,(List.range c.Z9.length).map fun k:Nat=>act.contains (k:Int)⟩
def yl(c:aq)(act vars:List Int)(d:Int):(IS c act vars d).act.map Bk=ld c.Z9.length act:=by
 unfold IS ld;rw[P4];rfl
def pO(c:aq)(act vars:List Int)(d:Int):(IS c act vars d).act.length=c.Z9.length:=by
 unfold IS;simp
def bL{c:aq}(h:ct c):Nd c:=by
 have f: ∀(i:Int)(s:n4),at_ c i=some s-> ∃k,cL c k s=true:=fun i s e=>by
  unfold at_ at e;split at e
  ·exact⟨_,h.st _ s e⟩
  cases e
 refine⟨fun i a b=> ?_,fun i a b=> ?_,fun n t g a b=> ?_⟩
 ·unfold ww at b;split at b
  ·rename_i s e;obtain⟨k,d⟩:=f i s e;unfold cL eR at d;simp only[Mx]at d;exact NB.1 d.2.2 a b
  simp at b
 ·unfold Tl at b;split at b
  ·rename_i s e;obtain⟨k,d⟩:=f i s e;unfold cL eR at d;simp only[Mx]at d;exact NB.1 d.1.2.2 a b
  simp at b
 have:=h.tr n t g;unfold d9 eR at this;simp only[Mx]at this;exact NB.1 this.1.2.2 a b
def vD{c:aq}(h:ct c){n:Nat}{t:tS}(a:c.trans[n]? =some t):t.guard=[]\/bo t.guard c.vars.length c.Z9.length=true:=by
 have:=h.tr n t a;unfold d9 at this;simp only[Mx,OO,OQ]at this;exact this.1.1.2
def Sd(c:aq)(x:tD)(d:Int):List AV:=[bs x.1,bs x.2.1, .seq 2 (x.2.2.1.map fj), .seq 2 (x.2.2.2.1.map cI),B x.2.2.2.2,b6,b6, .ref 9 [cy c] 0 0,Sg c.name,I c.initial,qa c.vars,rv c.Z9,tg c.trans,I d,I 0]
def UR:=@Sd.eq_1
structure E7(c:aq)(x:tD)(d:Int):Prop where
 act:x.1.length<=1000
 len:x.2.1.length=c.vars.length
 fit: ∀v∈x.2.1,aJ v=true
 data:aJ d=true
 lg:tU c x.1=true
def E7.ok{c:aq}{x:tD}{d:Int}(h:E7 c x d):(IS c x.1 x.2.1 d).Ok:=⟨h.fit,h.data⟩
def GD(env:cf)(c:aq)(a:c.Z9.length<=4000)(x:tD)(d:Int)(b:E7 c x d):b8 prog env 232 [.ref 15 [Sd c x d] 0 0] (.agg (dv (IS c x.1 x.2.1 d))):=by
 have f0:=j5 env c a x.1 (by have:=b.act;omega);unfold aG at f0;unfold dv;rw[yl];show b8 _ _ _ _ (.agg [bs x.2.1,I d, .seq 1 (ld c.Z9.length x.1)]);generalize ld c.Z9.length x.1=L at*;refine qf func232 call232 ntmps232 results232 ?_;have F:=Sd.eq_1;exact kb f0
def tx(a:Addr):Fd->AV
 | .no=> .tuple [I (-1),ik]
 | .one n=> .tuple [I (n:Nat),ik]
 | .bad n=> .tuple [I (-1),c0 (1000+(n:Nat)) (bt a)]
def tt{c:aq}{w:rx}{n:Nat}{l:List Nat}(h:fh w (jR c n)=none):cO c w (n::l)= .bad n:=by unfold cO;rw[h]
def xa{c:aq}{w:rx}{n:Nat}{l:List Nat}(h:fh w (jR c n)=some true):cO c w (n::l)= .one n:=by unfold cO;rw[h]
def CK{c:aq}{w:rx}{n:Nat}{l:List Nat}(h:fh w (jR c n)=some false):cO c w (n::l)=cO c w l:=by conv=>lhs;unfold cO;rw[h]
def Hn(env:cf)(s i u:Addr)(B:gb env s u)(w:env 1=some (bt i))(c:aq)(h:ct c)(H:hP c)(x:tD)(d:Int)(g:E7 c x d)(l:List Nat)(M:l.length<=1000)(G: ∀n∈l,n<c.trans.length):
 b8 prog env 190 [.ref 15 [Sd c x d] 0 0, .seq 1 (l.map aB)] (tx i (cO c (IS c x.1 x.2.1 d) l)):=by
 have C:=h.Z6;have D:=h.ZO;have f0:=GD env c (by omega) x d g;have E:=gg w;have q:(IS c x.1 x.2.1 d).vars.length<=1000000:=by show x.2.1.length<=_;have:=g.len;have:=H.vars;omega
 have f1: ∀(n:Nat)(t:tS),c.trans[n]? =some t-> ∀b,fh (IS c x.1 x.2.1 d) t.guard=some b->_:=fun n t e b y=>Ih env s i u B w (IS c x.1 x.2.1 d) g.ok q t.guard (by rw[pO];show _\/bo t.guard (x.2.1.length:Int) _=true;rw[g.len];exact vD h e) b y;have f2: ∀(n:Nat)(t:tS),c.trans[n]? =some t->fh (IS c x.1 x.2.1 d) t.guard=none->_:=fun n t e y=>GM env s i u B w (IS c x.1 x.2.1 d) g.ok q t.guard (by rw[pO];show _\/bo t.guard (x.2.1.length:Int) _=true;rw[g.len];exact vD h e) y;generalize IS c x.1 x.2.1 d=W at*;unfold dv at f0 f1 f2;refine qf func190 call190 ntmps190 results190 ?_;repeat refine nw ?_
 refine Q' l.length (by omega) (fun j _=>[(0, .ref 15 [Sd c x d] 0 0),(10, .seq 1 (l.map aB)),(11,I l.length),(12,I j)]) (fun _ _=>[]) (fun j _ _=>cO c W l=cO c W (l.drop j)) rfl ?_ ?_
 ·rintro j L v k r J a;obtain⟨n,m⟩:=gE k;have o:=G n (My m);obtain⟨t,e⟩:=gE o;have A:=ip o;have K:IntKind.i64.wrap (1000+(n:Int))=1000+(n:Int):=aX (by omega) (by omega);have z:=aZ m;have f:jR c n=t.guard:=by unfold jR;rw[e]
  rw[z]at a;cases p:fh W t.guard with
  | none=>
    rw[tt (by rw[f];exact p)]at a;rw[a];have f3:=f2 n t e p;have f4:=zS env [109,105,99,114,111,46,69,110,97,98,108,101,100] (1000+(n:Int)) i (by omega);show fq _ _ _ _ _ _;unfold tx;have F:=qs UR Uv Uu m e r A K E;exact D0 f0 f3 f4
  | some b=>
    have f3:=f1 n t e b p;cases b with
    | true=>
      rw[xa (by rw[f];exact p)]at a;rw[a];show fq _ _ _ _ _ _;unfold tx;have F:=m7 UR Uv Uu m e r A;exact ns f0 f3
    | false=>
      rw[CK (by rw[f];exact p)]at a;have F:=qr UR Uv Uu m e r J A;repeat refine y3 f0 f3 ?_
      exact qn (j+1) ⟨k,a⟩
 rintro L v r a;rw[OE]at a;rw[a];show fq _ _ _ _ _ _;show fq _ _ _ _ _ _;unfold cO tx;have F:=r;exact fc
def MG(env:cf)(c:aq)(h:ct c)(x:tD)(d:Int)(k:Int)(ev:List UInt8):b8 prog env 191 [.ref 15 [Sd c x d] 0 0,I k,Sg ev] (.own 3 1 ((it c k ev c.trans.length).map aB)):=by
 have b:=h.ZO;by_cases a:ev=[]
 ·subst a;rw[DR];have f0:=AN env c (by omega) k;unfold aG at f0;refine qf func191 call191 ntmps191 results191 ?_;have F:=Sd.eq_1;exact kb f0
 rw[DO c k a];have f0:=yN env c (by omega) ev;have f1:=GP env c (by omega) k (Ss c ev);have e:(ev == [])=false:=by simpa using a
 unfold aG at f0 f1;refine qf func191 call191 ntmps191 results191 ?_;have F:=ai UR e;exact ns f0 f1
def B9{c:aq}{k:Int}{ev:List UInt8}{j n:Nat}(h:n∈it c k ev j):n<j:=NZ.1 (NF.1 h).1
def F8{c:aq}{w:rx}{ev:List UInt8}{k:Int}{l:List Int}(h:cO c w (it c k ev c.trans.length)= .no):dS c w ev (k::l)=dS c w ev l:=by
 conv=>lhs;unfold dS
 rw[h]
def CM{c:aq}{w:rx}{ev:List UInt8}{k:Int}{l:List Int}{n:Nat}(h:cO c w (it c k ev c.trans.length)= .one n):dS c w ev (k::l)= .one n:=by
 unfold dS;rw[h]
def CN{c:aq}{w:rx}{ev:List UInt8}{k:Int}{l:List Int}{n:Nat}(h:cO c w (it c k ev c.trans.length)= .bad n):dS c w ev (k::l)= .bad n:=by
 unfold dS;rw[h]
def J9(env:cf)(q l r:Addr)(w:gb env q r)(v:env 1=some (bt l))(c:aq)(h:ct c)(A:hP c)(x:tD)(d:Int)(D:E7 c x d)(i:Int)(ev:List UInt8):
 b8 prog env 135 [.ref 15 [Sd c x d] 0 0,I i,Sg ev] (tx l (dS c (IS c x.1 x.2.1 d) ev (i::kf c i))):=by
 have s:=h.Z6;have t:=h.ZO;have f0:=bP env c;have f1:b8 prog env 189 [aQ c,I i] (.own 3 1 ((kf c i).map aa)):=yn env c h.toRight i;have f2:=MG env c h x d;have f3:=fun k=>Hn env q l r w v c h A x d D (it c k ev c.trans.length) (by have:(it c k ev c.trans.length).length<=c.trans.length:=gH (je c k ev) c.trans.length;omega) (fun n z=>B9 z);have B:(kf c i).length<=40:=kZ ..;have y:dd (1+(kf c i).length) 8:=aC (by omega) (by omega);have u:[[I i]]++(kf c i).map aa=(i::kf c i).map aa:=rfl;have C:(i::kf c i).length<=4000:=by simp only[NQ];omega
 have G:((i::kf c i).map aa).length=(i::kf c i).length:=NT ..;generalize IS c x.1 x.2.1 d=W at*;generalize H:(i::kf c i)=R at*;unfold aQ at f0 f1;unfold aG at f0;refine qf func135 call135 ntmps135 results135 ?_;have F:=gs UR y u;repeat refine y3 f0 f1 ?_
 have F:=Sd.eq_1;refine lq R.length (by omega) (fun j p=>[(0, .ref 15 [Sd c x d] 0 0),(2,Sg ev),(21, .row 13 (p 13)),(22,I R.length),(23,I j)]) (fun _ _=>[(13,⟨1,R.map aa,3,true⟩)]) (fun j _ _=>dS c W ev R=dS c W ev (R.drop j)) rfl ?_ ?_
 ·rintro j p m e f o a;obtain⟨k,g⟩:=gE e;have f4:=f2 k ev;have f5:=f3 k;rw[aZ g]at a;cases b:cO c W (it c k ev c.trans.length) with
  | no=>
    rw[b]at f5;unfold tx at f5;rw[F8 b]at a;have F:=i0 UB g f o;repeat refine y3 f4 f5 ?_
    exact qn (j+1) ⟨e,a⟩
  | one n=>
    rw[b]at f5;unfold tx at f5;rw[CM b]at a;rw[a];have E:(0:Int)<=(n:Int):=by omega
    show fq _ _ _ _ _ _;unfold tx;have F:=ii UB g f o E;exact ns f4 f5
  | bad n=>
    rw[b]at f5;unfold tx at f5;rw[CN b]at a;rw[a];show fq _ _ _ _ _ _;unfold tx;have F:=i0 UB g f o;exact ns f4 f5
 rintro p m f a;rw[OE]at a;rw[a];show fq _ _ _ _ _ _;unfold dS tx;have F:=f;exact fc
end
section
def Lh.seq{S:Nat->Nat->Prop}{w:World}{base:Nat}{v:Value}{e:TypeId}{sz:Nat}{es:List (List AV)}(h:Lh S w base v e sz es):
 ∃S':Nat->Nat->Prop,(∀b o,S b o->S' b o)/\(∀b o,S' b o->S b o\/(base<=b/\b<w.heap.size))/\RV S' w v (.seq sz es):=by
 obtain⟨l,s,z,B,_⟩:=h;obtain⟨S',f⟩: ∃S':Nat->Nat->Prop,S'=fun b o=>S b o\/v.ownBlock=some b:=⟨_,rfl⟩;have d: ∀b o,S b o->S' b o/\l5 w w b o:=fun b o a=>⟨by rw[f];exact .inl a, .rfl⟩;refine⟨S',fun b o a=>(d b o a).1,fun b o a=> ?_,?_⟩
 ·rw[f]at a;exact a.imp id fun a=>be s a
 rcases s.2 with⟨rfl,D⟩|⟨g,p,A,rfl,E,G,r,_,_,t⟩
 ·have q:es=[]:=Nl D;subst q;exact .seq none 0 0 sz [] 0 0 (fun _ _=>undef) rfl (ND _) (fun a=>by omega) (fun i e C=>by simp at C) (fun i j c a=>by simp[bx]at a) (fun i j c a=>by simp[bx]at a)
 have k:=B;refine .seq (some ⟨g,0,none⟩) es.length p sz es g 0 (fun i j=>l.getD (i*sz+j) undef) rfl r (fun _=>rfl) k.ZS (fun i j c m=> ?_) fun i j c m=> ?_
 ·obtain⟨u,n,y⟩:=k.cell i j c m;have x:l.getD (i*sz+j) undef=u:=by simp[List.getD,n]
  rw[x,OI];exact⟨by rw[f];exact .inr rfl,ic s rfl _ u n,k.one u (My n)⟩
 obtain⟨u,n,y⟩:=k.cell i j c m;have x:l.getD (i*sz+j) undef=u:=by simp[List.getD,n]
 rw[x];exact y.mono d
def RM.seen{P:Program}{env:cf}{f:FuncId}{cs:List AV}{e:TypeId}{sz:Nat}{es:List (List AV)}(h:RM P env f cs (.own e sz es)):RM P env f cs (.seq sz es):=by
 refine⟨h.enter,fun w S p d j l=>(h.calls w S p d j l).mono ?_⟩;rintro r t ⟨v,rfl,g,q,c,k⟩;obtain⟨a,s,m,n⟩:=Lh.seq k;exact⟨v,rfl,g,a,fun b o i=>(m b o i).elim (c b o) id,n⟩
def mc(c:aq)(d now:Int)(M:List (List AV))(o:Bool)(g:Nat->Nat):List AV:=[.row 1001 (g 1001), .row 1002 (g 1002), .seq 2 M, .row 1003 (g 1003),B o, .row 1004 (g 1004), .row 1005 (g 1005), .ref 9 [cy c] 0 0,Sg c.name,I c.initial,qa c.vars,rv c.Z9,tg c.trans,I d,I now]
def Uw:=@mc.eq_1
def RY(c:aq)(d now:Int)(r:cD)(g:Nat->Nat):List (Nat×Row):=[(1000,⟨15,[mc c d now (r.mem.map fj) r.over g],150,false⟩),(1001,⟨1,r.act.map aa,3,true⟩),(1002,⟨1,r.vars.map aa,3,true⟩),(1003,⟨2,r.Z2.map cI,98,true⟩),(1004,⟨1,r.outs.map aa,3,true⟩),(1005,⟨2,r.Z8.map cI,50,true⟩)]
def Ux:=@RY.eq_1
def pi(k:Nat):Bool:=k==1001||(k==1003||(k==1004||k==1005))
def Uz:=@pi.eq_1
def cr(b c:Addr):tn->AV
 |none=>ik
 |some (k,a)=>c0 (a.headD (-1)) (fp a.tail (bt (if k=2 then b else c)))
def eu(a b:Addr)(e:tn)(L:Nat->Nat->Option (Nat×Nat)):(cr a b e).ren L=cr a b e:=by rcases e with _|⟨_,_⟩<;>rfl
def Cg(env:cf)(c:aq)(m:c.Z9.length<=4000)(d now:Int)(r:cD)(n:r.act.length<=1000000):i9 prog env 232 [1000,1001,1002,1003,1004,1005] (fun _=>false) (fun g=>[.loc 1000 (g 1000) 0 0]) (RY c d now r) (RY c d now r) (fun g=>Tw (Tc c d r) g):=by
 have f0:=j5 env c m r.act n;have f0:=(f0.lend (al (fun _=>rfl) _)).seen;have l:(Tc c d r).act.map Bk=ld c.Z9.length r.act:=yl c r.act r.vars d;unfold Tw;rw[l];show i9 _ _ _ _ _ _ _ _ fun g=> .agg [.row 1002 (g 1002),I d, .seq 1 (ld c.Z9.length r.act)];unfold aG at f0;generalize ld c.Z9.length r.act=L at*;refine qi func232 call232 ntmps232 results232 ?_;intro o k a;obtain⟨b,e,f,h,i,j⟩:=RT a;have F:=qr Ux Uw b e f h i j;repeat refine st ?_
 refine lL f0 ?_;repeat refine st ?_
 exact rI
def GQ(env:cf)(G:List UInt8)(x:List UInt8×Int):b8 prog env 290 [.agg (cI x), .ref 1 [[Sg G]] 0 0] (B (x.1==G)):=by
 have a:(x.1==G)=(x.1.toArray==G.toArray):=by rw[N8];simp
 unfold cI;refine qf func290 call290 ntmps290 results290 ?_;repeat refine nw ?_
 exact px
def BS(env:cf)(c:aq)(d now:Int)(r:cD)(l:r.Z2.length<=4096)(s:List UInt8):i9 prog env 261 [1000,1001,1002,1003,1004,1005] pi (fun g=>[.loc 1000 (g 1000) 0 0,Sg s]) (RY c d now r) (RY c d now { r with Z2:=ek r.Z2 s }) (fun _=> .lit (.tuple #[])):=by
 have f0:i9 prog env _ _ _ _ _ (fun _=>[(1000,⟨2,(ek r.Z2 s).map cI,98,true⟩),_]) _:=yd env r.Z2 (fun x=>x.1==s) 290 s 9 (GQ env s) l;generalize ek r.Z2 s=L at*;refine qi func261 call261 ntmps261 results261 ?_;intro m k a;have b:=a 1000 (by simp);have e:=a 1001 (by simp);have f:=a 1002 (by simp);have h:=a 1003 (by simp);have i:=a 1004 (by simp);have j:=a 1005 (by simp);have F:=qs Ux Uw Uz b e f h i j;repeat refine st ?_
 refine iL [(1000,1003),(1001,3)] f0 ?_;repeat refine st ?_
 exact rN
def uq(env:cf)(a:Addr)(c:env 7=some (bt a)):b8 prog env 228 [] (c0 (-1) (bt a)):=by
 have b:=gg c;have f0:=b9 env [109,105,99,114,111,46,100,111] a;refine qf func228 call228 ntmps228 results228 ?_;have F:=b;exact kb f0
def wa(env:cf)(o b:Addr)(p:env 7=some (bt b))(c:aq)(d now:Int)(r:cD)(s:List UInt8)(v:Int):i9 prog env 176 [1000,1001,1002,1003,1004,1005] pi (fun g=>[.loc 1000 (g 1000) 0 0,Sg s,I v]) (RY c d now r) (RY c d now (g6 r s v).1) (fun _=>cr o b (g6 r s v).2):=by
 have f0:=uq env b p;unfold g6;by_cases n:16<=r.Z8.length
 ·rw[Mw n];have m:(16:Int)<=(r.Z8.length:Int):=by omega
  show i9 _ _ _ _ _ _ _ _ fun _=>c0 (-1) (bt b);refine qi func176 call176 ntmps176 results176 ?_;intro t l a;obtain⟨e,f,h,i,j,k⟩:=RT a;have F:=mX Ux Uw Uz m e f h i j k;repeat refine ff f0 ?_
  exact rI
 rw[Mv n];have m: ¬(16:Int)<=(r.Z8.length:Int):=by omega
 have q:dd (r.Z8.length+1) 24:=aC (by omega) (by omega);show i9 _ _ _ _ _ _ _ _ fun _=>ik;unfold RY;simp only[NC,Nh,O3];refine qi func176 call176 ntmps176 results176 ?_;intro t l a;obtain⟨e,f,h,i,j,k⟩:=RT a;have F:=o' Uw UD Uz m q e f h i j k;repeat refine st ?_
 exact rI
def GW(env:cf)(n o:Addr)(z:env 1=some (bt n))(p:env 7=some (bt o))(c:aq)(d now:Int)(H:0<=now/\now<=1099511627776)(r:cD)(x:fe c r)(s:List UInt8)(v:Int):i9 prog env 263 [1000,1001,1002,1003,1004,1005] pi (fun g=>[.loc 1000 (g 1000) 0 0,Sg s,I v]) (RY c d now r) (RY c d now (AS now r s v).1) (fun _=>cr n o (AS now r s v).2):=by
 have f0:=uq env o p;have f1:=BS env c d now r (by have:=x.ZM;omega) s;have f2:=b9 env [109,105,99,114,111,46,115,116,97,114,116] n;have w:=gg z;have q:IntKind.i64.wrap (1099511627776-now)=1099511627776-now:=aX (by omega) (by omega);unfold AS;by_cases y:v<0\/1099511627776-now<v
 ·rw[Mw y];show i9 _ _ _ _ _ _ _ _ fun _=>c0 (-1) (bt n);by_cases b:v<0
  ·refine qi func263 call263 ntmps263 results263 ?_;intro u m a;obtain⟨f,h,i,j,k,l⟩:=RT a;have F:=o' Ux Uw Uz b w f h i j k l;repeat refine ff f2 ?_
   exact rI
  have e:1099511627776-now<v:=by omega
  refine qi func263 call263 ntmps263 results263 ?_;intro u m a;obtain⟨f,h,i,j,k,l⟩:=RT a;have F:=ed Ux Uw Uz b e q w f h i j<|ai k l;repeat refine ff f2 ?_
  exact rI
 rw[Mv y];have b: ¬v<0:=by omega
 have e: ¬1099511627776-now<v:=by omega
 by_cases p:8<=(ek r.Z2 s).length
 ·rw[Mw p];have t:(8:Int)<=((ek r.Z2 s).length:Int):=by omega
  show i9 _ _ _ _ _ _ _ _ fun _=>c0 (-1) (bt o);generalize ek r.Z2 s=L at*;unfold RY mc at f1;refine qi func263 call263 ntmps263 results263 ?_;intro u m a;obtain⟨f,h,i,j,k,l⟩:=RT a;have F:=ed Ux Uw Uz b e q t f h i j<|ai k l;repeat refine st ?_
  refine iL L6 f1 ?_;repeat refine ff f0 ?_
  exact rI
 rw[Mv p];have t: ¬(8:Int)<=((ek r.Z2 s).length:Int):=by omega
 have D:dd ((ek r.Z2 s).length+1) 24:=aC (by omega) (by omega);have E:IntKind.i64.wrap (now+v)=now+v:=aX (by omega) (by omega);have A:=GL (s,now+v) (ek r.Z2 s) (x.Z2.without s).ZZ sH (by omega);have B:bM ((ek r.Z2 s++[(s,now+v)]).map pk)=(ek r.Z2 s).map cI++[[Sg s,I (now+v)]]:=by rw[Bo,NC];rfl
 have C:=Bo (sT (s,now+v) (ek r.Z2 s));show i9 _ _ _ _ _ _ _ _ fun _=>ik;generalize sT (s,now+v) (ek r.Z2 s)=G at*;generalize ek r.Z2 s=L at*;unfold RY mc at f1;refine qi func263 call263 ntmps263 results263 ?_;intro u m a;obtain⟨f,h,i,j,k,l⟩:=RT a;have F:=ed Ux Uw Uz b e q t D E f h<|i0 i j k l;repeat refine st ?_
 refine iL L6 f1 ?_;repeat refine st ?_
 refine yG 1003 rfl (row:=⟨2,L.map cI++[[Sg s,I (now+v)]],98,true⟩) (by simp only[go_sem]<;>exact iR) (by simp only[go_sem]<;>exact iR) (by simp only[go_sem]<;>exact iR) A B.symm rfl (Ng 1) (by simp only[go_sem];exact iR) ?_;rw[C];repeat refine st ?_
 exact rI
end
section
def MQ(env:cf)(I o p:Addr)(A:gb env I p)(J:env 1=some (bt o))(c:aq)(Q:c.Z9.length<=4000)(E:c.vars.length<=1000000)(d now:Int)(R:aJ d=true)(T:0<=now/\now<=1099511627776)(r:cD)(t:fe c r)(S:r.act.length<=1000000)(a:la)(m:gM c.vars.length c.Z9.length a=true):
 i9 prog env 227 [1000,1001,1002,1003,1004,1005] pi (fun g=>[.loc 1000 (g 1000) 0 0, .agg (bB a)]) (RY c d now r) (RY c d now (Sb c d now r a).1) (fun _=>cr o p (Sb c d now r a).2):=by
 unfold Sb;by_cases y:a.kind=5
 ·rw[Mw y];have f1:=BS env c d now r (by have:=t.ZM;omega) a.name;show i9 _ _ _ _ _ _ _ _ fun _=>ik;generalize ek r.Z2 a.name=L at*;have n:(a.kind==5)=true:=by simp[y]
  unfold RY mc at f1;refine qi func227 call227 ntmps227 results227 ?_;intro w l b;obtain⟨e,f,h,i,j,k⟩:=RT b;have F:=ed UC Ux Uw Uz eu n e f h i j k;repeat refine st ?_
  refine iL L6 f1 ?_;repeat refine st ?_
  exact rI
 rw[Mv y]
 have q:bo a.code c.vars.length c.Z9.length=true:=by
  unfold gM at m;repeat' split at m
  all_goals (first|(exact absurd ‹a.kind=5› y)|(simp only[Mx]at m;exact m.2)|cases m)
 have f1:=Cg env c Q d now r S;have f2:=Hu env I o p A J (Tc c d r) (E8 t R) (by show r.vars.length<=_;rw[t.len];exact E) a.code (by rw[show (Tc c d r).act.length=c.Z9.length from pO c r.act r.vars d,show (Tc c d r).vars.length=c.vars.length from t.len];exact q);have V:(Tc c d r).vars=r.vars:=rfl;generalize (Tc c d r)=W at*;have n:(a.kind==5)=false:=by simp[y]
 unfold Tw at f1 f2;unfold ve at f2;rw[V]at f2;cases N:ki W a.code with
 | none=>
   have f3:=eZ env [109,105,99,114,111,46,100,111] (-1) (bt o);rw[N]at f2;unfold jh at f2;show i9 _ _ _ _ _ _ _ _ fun _=>c0 (-1) (c0 (-1) (bt o));simp only;unfold RY mc at f1;refine qi func227 call227 ntmps227 results227 ?_;intro w l b;obtain⟨e,f,h,i,j,k⟩:=RT b;have F:=ed UC Ux Uw Uz eu n e f h i j k;repeat refine st ?_
   refine iL L6 f1 ?_;repeat refine st ?_
   refine iL [(1002,1002)] f2 ?_;repeat refine ff f3 ?_
   exact rI
 | some v=>
   rw[N]at f2;unfold jh at f2;simp only;have O:=wa env o p A.e8 c d now r a.name v;have P:=GW env o p J A.e8 c d now T r t a.name v;have r2:=uq env p A.e8;by_cases z:a.kind=1
   ·rw[Mw z];have u:(a.kind==1)=true:=by simp[z]
    obtain⟨G,U⟩:0<=a.n/\a.n<c.vars.length:=by
     unfold gM at m;rw[Mw z]at m;simp only[Mx,NI]at m;exact m.1.1
    have K:=t.len;have s:a.n< (r.vars.length:Int):=by omega
    obtain⟨x,Y⟩: ∃x,r.vars[a.n.toNat]? =some x:=⟨r.vars[a.n.toNat]'(by omega),Ms _⟩;show i9 _ _ _ _ _ _ _ _ fun _=>ik;unfold RY mc at f1;unfold RY;simp only[QC];refine qi func227 call227 ntmps227 results227 ?_;intro w l b;obtain⟨e,f,h,i,j,k⟩:=RT b;have F:=ed UC UB Uw Uz eu n u s G Y e<|ii f h i j k;repeat refine st ?_
    refine iL L6 f1 ?_;repeat refine st ?_
    refine iL [(1002,1002)] f2 ?_;repeat refine st ?_
    exact rI
   rw[Mv z];have u:(a.kind==1)=false:=by simp[z]
   by_cases B:a.kind=2
   ·rw[Mw B];have s:(a.kind==2)=true:=by simp[B]
    generalize g6 r a.name v=X at*;unfold RY mc at f1 O;refine qi func227 call227 ntmps227 results227 ?_;intro w l b;obtain⟨e,f,h,i,j,k⟩:=RT b;have F:=ed UC Ux Uw Uz eu n u s e f h<|gs i j k;repeat refine st ?_
    refine iL L6 f1 ?_;repeat refine st ?_
    refine iL [(1002,1002)] f2 ?_;repeat refine st ?_
    refine iL L6 O ?_;repeat refine st ?_
    exact rI
   rw[Mv B];have s:(a.kind==2)=false:=by simp[B]
   by_cases C:a.kind=4
   ·rw[Mw C];have D:(a.kind==4)=true:=by simp[C]
    generalize AS now r a.name v=X at*;unfold RY mc at f1 P;refine qi func227 call227 ntmps227 results227 ?_;intro w l b;obtain⟨e,f,h,i,j,k⟩:=RT b;have F:=ed UC Ux Uw Uz eu n u s D e f<|i0 h i j k;repeat refine st ?_
    refine iL L6 f1 ?_;repeat refine st ?_
    refine iL [(1002,1002)] f2 ?_;repeat refine st ?_
    refine iL L6 P ?_;repeat refine st ?_
    exact rI
   rw[Mv C];have D:(a.kind==4)=false:=by simp[C]
   unfold KL;by_cases M:256<=r.outs.length
   ·rw[Mw M];have H:(256:Int)<=(r.outs.length:Int):=by omega
    show i9 _ _ _ _ _ _ _ _ fun _=>c0 (-1) (bt p);unfold RY mc at f1;refine qi func227 call227 ntmps227 results227 ?_;intro w l b;obtain⟨e,f,h,i,j,k⟩:=RT b;have F:=ed UC Ux Uw Uz eu n u s D H e<|ii f h i j k;repeat refine st ?_
    refine iL L6 f1 ?_;repeat refine st ?_
    refine iL [(1002,1002)] f2 ?_;repeat refine ff r2 ?_
    exact rI
   rw[Mv M];have H: ¬(256:Int)<=(r.outs.length:Int):=by omega
   have Z:dd (r.outs.length+1) 8:=aC (by omega) (by omega);show i9 _ _ _ _ _ _ _ _ fun _=>ik;unfold RY mc at f1;unfold RY;simp only[NC,Nh,O3];refine qi func227 call227 ntmps227 results227 ?_;intro w l b;obtain⟨e,f,h,i,j,k⟩:=RT b;have F:=ed UC UB Uw Uz eu n u s D H Z<|kv e f h i j k;repeat refine st ?_
   refine iL L6 f1 ?_;repeat refine st ?_
   refine iL [(1002,1002)] f2 ?_;repeat refine st ?_
   exact rI
structure zs(env:cf)(a1 a2 a8:Addr)(c:aq)(d now:Int):Prop where
 he:gb env a1 a8
 h2:env 1=some (bt a2)
 h:ct c
 hs:hP c
 hd:aJ d=true
 hn:0<=now/\now<=1099511627776
def Cd{c:aq}{d now:Int}{r:cD}{l:List la}{j:Nat}{a:la}(e:l[j]? =some a):mv c d now r (l.drop j)=match Sb c d now r a with
 |(b,none)=>mv c d now b (l.drop (j+1))
 |x=>x:=by
 rw[aZ e]
 conv=>lhs;unfold mv
 rcases Sb c d now r a with⟨b,_|_⟩<;>rfl
def zc(env:cf)(P B C:Addr)(c:aq)(d now:Int)(E:zs env P B C c d now)(r:cD)(y:fe c r)(H:r.act.length<=1000000)(l:List la)(X:l.length<=1000)(u: ∀a∈l,gM c.vars.length c.Z9.length a=true):
 i9 prog env 175 [1000,1001,1002,1003,1004,1005] pi (fun g=>[.loc 1000 (g 1000) 0 0, .seq 4 (l.map bB)]) (RY c d now r) (RY c d now (mv c d now r l).1) (fun _=>cr B C (mv c d now r l).2):=by
 have R:=E.h.Z6;have V:=E.hs.vars;have G:=fun(r:cD) y H (a:la) u=>MQ env P B C E.he E.h2 c (by omega) (by omega) d now E.hd E.hn r y H a u;have J:=fun(r:cD)(y:fe c r)(a:la) u=>Ke E.hd E.hn y (a:=a) u;refine qi func175 call175 ntmps175 results175 ?_;intro T U w;obtain⟨m,n,o,p,q,s⟩:=RT w;have F:=qs Ux Uw Uz m n o p q s;repeat refine st ?_
 refine lp (D:=Nat×cD) (fun x f=>[(0, .loc 1000 (f 1000) 0 0),(8, .seq 4 (l.map bB)),(9,I l.length),(10,I x.1)]) (fun x f=>RY c d now x.2 f) (fun x f e=>(x.1<=l.length/\mv c d now r l=mv c d now x.2 (l.drop x.1)/\fe c x.2/\x.2.act=r.act)/\(f 1000=T 1000/\f 1002=T 1002)/\e 1000=false/\e 1001=false/\e 1002=false/\e 1003=false/\e 1004=false/\e 1005=false) (fun x=>l.length-x.1) (0,r) ⟨⟨NJ _,rfl,y,rfl⟩,by simp only[go_sem,NH],by simp only[go_sem,m,n,o,p,q,s,NH]⟩ ?_;try clear m n o p q s
 rintro⟨j,M⟩ ws Z ⟨⟨W,b,t,h⟩,⟨N,O⟩,m,n,o,p,q,s⟩;simp only at W b t h;by_cases i:j<l.length
 ·obtain⟨a,z⟩:=gE i;have v:=u a (My z);have f0:=G M t (by rw[h];exact H) a v;obtain⟨K,L⟩:=J M t a v;have A:=ip i;have S:=aD i (by omega);rw[Cd z]at b;rcases Q:Sb c d now M a with⟨Y,_|⟨k,ps⟩⟩
  ·rw[Q]at b f0 K L;simp only at b K L;unfold cr RY mc at f0;simp only at f0;unfold bB at f0;have F:=ed UC Ux Uw Uz z A S m n o p<|ai q s;repeat refine st ?_
   refine iL L6 f0 ?_;repeat refine st ?_
   refine⟨(j+1,Y),⟨⟨i,b,K,L.act.trans h⟩,?_,?_⟩,?_,?_,?_⟩
   ·simp only[go_sem,N,O,NH]
   ·simp only[go_sem,m,n,o,p,q,s,NH]
   ·exact qe
   ·exact qe
   simp only;omega
  rw[Q]at b f0;simp only at b;rw[b];unfold cr RY mc at f0;unfold bB at f0;simp only at f0;show fq _ _ _ _ _ _;unfold cr;simp only;have F:=ed UC Ux Uw Uz z A S N O m n<|i0 o p q s;repeat refine st ?_
  refine iL L6 f0 ?_;repeat refine st ?_
  exact rI
 obtain rfl:j=l.length:=by omega
 have A:=nl l.length;rw[OE]at b;rw[b];unfold mv;show fq _ _ _ _ _ _;unfold cr;simp only;have F:=ed Ux Uw Uz A N O m n o p q s;repeat refine st ?_
 exact rI
end
section
def Hm(n:Nat)(act:List Int)(j:Nat)(a:j<n):(((List.range j).map fun k:Nat=>[B (act.contains (k:Int))])++List.replicate (n-j) [B false]).set j [B (act.contains (j:Int))]=((List.range (j+1)).map fun k:Nat=>[B (act.contains (k:Int))])++List.replicate (n-(j+1)) [B false]:=by
 rw[List.set_append_right _ _ (by simp)];simp only[NT,Pn,QA];rw[show n-j=(n-(j+1))+1 by omega,List.replicate_succ,List.set_cons_zero,PO,NC,Nj];rfl
def sb(env:cf)(c:aq)(y:c.Z9.length<=4000)(x:tD)(o:x.1.length<=1000000)(d:Int):b8 prog env 223 [.agg (aA c), .agg (i' x),I d] (.agg (dv (IS c x.1 x.2.1 d))):=by
 have q: ¬(16777216:Int)< (c.Z9.length:Int):=by omega
 have s: ¬(c.Z9.length:Int)<0:=by omega
 have t: ¬(281474976710656:Int)< (c.Z9.length:Int):=by omega
 have r: ¬(281474976710656:Int)<1*(c.Z9.length:Int):=by omega
 unfold dv;rw[yl];show b8 _ _ _ _ (.agg [bs x.2.1,I d, .seq 1 (ld c.Z9.length x.1)]);unfold ld;unfold i';have i: ∀j,j<=c.Z9.length->(((List.range j).map fun k:Nat=>[B (x.1.contains (k:Int))])++List.replicate (c.Z9.length-j) [B false]).length=c.Z9.length:=fun j n=>by simp;omega
 refine qf func223 call223 ntmps223 results223 ?_;have F:=ii Us q r s t;repeat refine st ?_
 refine aH (D:=Nat) (fun j e=>[(3, .loc 3 (e 3) 0 0),(4, .loc 4 (e 4) 0 0),(6, .loc 6 (e 6) 0 0),(7, .loc 7 (e 7) 0 0),(8,I j)])
  (fun j e=>[(3,⟨5,[aA c],26,false⟩),(4,⟨5,[[bs x.1,bs x.2.1, .seq 2 (x.2.2.1.map fj), .seq 2 (x.2.2.2.1.map cI),B x.2.2.2.2]],37,false⟩),(6,⟨3,[[b6,I 0,b6]],165,false⟩),(7,⟨3,[[bs x.2.1,I d, .row 15 (e 15)]],165,false⟩),(15,⟨1,((List.range j).map fun k:Nat=>[B (x.1.contains (k:Int))])++List.replicate (c.Z9.length-j) [B false],4,true⟩)])
  (fun j _ b=>j<=c.Z9.length/\b 15=false/\b 6=false) (fun j=>c.Z9.length-j) 0 ?_ ?_ ?_ ?_
 ·exact⟨NJ _,by simp only[go_sem],by simp only[go_sem]⟩
 ·exact qe
 ·have F:=gs Us List.range_zero P9
  (simp only[go_sem,F])
  try rfl
 rintro j z b ⟨n,g,h⟩;have f:=i j n;by_cases a:j<c.Z9.length
 ·have m:=ip a;have u:=aD a (by omega);have f0:=dJ env x.1 j o;have l:=Hm c.Z9.length x.1 j a
  have sh: ∃v,(((List.range j).map fun k:Nat=>[B (x.1.contains (k:Int))])++List.replicate (c.Z9.length-j) [B false])[j]? =some [v]:=by
   rw[NY (by simp),Pm];simp only[NT,Pn,QA];rw[Mw (by omega)];exact⟨_,rfl⟩
  obtain⟨v,p⟩:=sh;generalize w:(((List.range j).map fun k:Nat=>[B (x.1.contains (k:Int))])++List.replicate (c.Z9.length-j) [B false])=G at*;have F:=qr Us m u f l p g h;repeat refine ff f0 ?_
  refine⟨j+1,⟨a,by simp only[go_sem,g],by simp only[go_sem,h]⟩,?_,?_,by omega⟩
  ·exact qe
  have F:=aA.eq_1;exact qe
 obtain rfl:j=c.Z9.length:=by omega
 have m:=nl c.Z9.length;rw[QA,List.replicate_zero,OM];have F:=i0 Us m g h;exact fc
end
section
def fk(r:cD)(d now:Int):tn->List AV
 |none=>[bs r.act,bs r.vars, .seq 2 (r.mem.map fj), .seq 2 (r.Z2.map cI),B r.over,bs r.outs, .seq 2 (r.Z8.map cI),I d,I now,I 0,I (-1)]
 |some (k,_)=>[bs r.act, .any, .any, .any, .any,bs r.outs, .seq 2 (r.Z8.map cI),I d,I now,I (k:Nat),I (-1)]
def Uy:=@fk.eq_1
def Kn(r:cD)(d now:Int)(k:Nat)(ps:List Int)(a b c e:AV):fN (.agg [bs r.act,a,b,c,e,bs r.outs, .seq 2 (r.Z8.map cI),I d,I now,I (k:Nat),I (-1)]) (.agg (fk r d now (some (k,ps)))):=
 .of (.agg (.cons (.refl _) (.cons (.any _) (.cons (.any _) (.cons (.any _) (.cons (.any _) (.cons (.refl _) (.cons (.refl _) (.cons (.refl _) (.cons (.refl _) (.cons (.refl _) (.cons (.refl _) .nil)))))))))))) (fun _ _ _ h=>by cases h) (fun _ _ _ h=>by cases h)
def iO(env:cf)(r:cD)(d now:Int)(k:Nat)(ps:List Int):b8 prog env 160 [.agg (fk r d now none),I (k:Nat)] (.agg (fk r d now (some (k,ps)))):=by
 refine qw func160 call160 ntmps160 results160 ?_;have F:=ai Uy fk.eq_2;repeat refine st ?_
 (refine aM ?_;refine⟨_,(by show (ag _ _ _).run _=some _;simp only[go_sem,F];rfl),?_⟩)
 exact Kn r d now k ps _ _ _ _
def yT(env:cf)(l:List (List UInt8×Int))(p:l.length<=4000)(s:List UInt8):b8 prog env 221 [.seq 2 (l.map cI),Sg s] (.own 98 2 ((ek l s).map cI)):=by
 refine qf func221 call221 ntmps221 results221 ?_;repeat refine nw ?_
 refine Q' l.length (by omega) (fun j i=>[(0, .seq 2 (l.map cI)),(1,Sg s),(5, .row 7 (i 7)),(6,I j)]) (fun j i=>[(7,⟨2,(ek (l.take j) s).map cI,98,true⟩)]) (fun j _ f=>f 7=false) (by simp only[go_sem]) ?_ ?_
 ·rintro j o k a e h b;obtain⟨x,d⟩:=gE a;have m:(ek (l.take j) s).length<=j:=NN (NV ..) (by rw[NK];omega);have n:dd ((ek (l.take j) s).length+1) 24:=aC (by omega) (by omega);cases c:x.1==s with
  | true=>
    have g:ek (l.take (j+1)) s=ek (l.take j) s:=by unfold ek;rw[bO d,N6];simp[c]
    have F:=kv UD d c e h b;repeat refine st ?_
    refine⟨j+1,⟨a,by simp only[go_sem,b]⟩,?_,?_,by omega⟩
    ·exact qe
    simp only[g];exact qe
  | false=>
    have g:(ek (l.take (j+1)) s).map cI=(ek (l.take j) s).map cI++[cI x]:=by unfold ek;rw[bO d,N6];simp[c]
    have F:=m7 UD d c e h n b;repeat refine st ?_
    refine⟨j+1,⟨a,by simp only[go_sem,b]⟩,?_,?_,by omega⟩
    ·exact qe
    simp only[g];exact qe
 rintro o k e b;rw[NS];have F:=ai e b;exact fc
def J4(x y:List UInt8):(Op.bytesLess y x||y==x)= !Op.bytesLess x y:=by
 cases h:Op.bytesLess x y with
 | true=>
   rw[pM h]
   have:(y==x)=false:=by
    rw[Oz];rintro rfl;rw[eO]at h;cases h
   rw[this];rfl
 | false=>
   cases a:Op.bytesLess y x with
   |true=>rfl
   |false=>rw[dx a h];simp
def LI{x y:List UInt8×Int}{L:List (List UInt8×Int)}(h:Op.bytesLess x.1 y.1=true):sT x (y::L)=x::y::L:=by simp[sT,h]
def MM{x y:List UInt8×Int}{L:List (List UInt8×Int)}(h:Op.bytesLess x.1 y.1=false):sT x (y::L)=y::sT x L:=by simp[sT,h]
def yV(env:cf)(l:List (List UInt8×Int))(z:l.length<=4000)(x:List UInt8×Int):b8 prog env 224 [.seq 2 (l.map cI), .agg (cI x)] (.own 98 2 ((sT x l).map cI)):=by
 unfold cI;show b8 _ _ _ [.seq 2 (l.map cI),_] (.own _ 2 ((sT x l).map cI));refine qf func224 call224 ntmps224 results224 ?_;repeat refine nw ?_
 refine TW (D:=Nat×Bool×List (List UInt8×Int)) (fun d r=>[(0, .seq 2 (l.map cI)),(3, .loc 3 (r 3) 0 0),(5, .row 8 (r 8)),(6,B d.2.1),(7,I d.1)]) (fun d r=>[(3,⟨2,[[Sg x.1,I x.2]],98,false⟩),(8,⟨2,d.2.2.map cI,98,true⟩)]) (fun d _ p=>(d.1<=l.length/\d.2.2.length<=d.1+(if d.2.1=true then 1 else 0)/\sT x l=d.2.2++(if d.2.1=true then l.drop d.1 else sT x (l.drop d.1)))/\p 8=false) (fun d=>l.length-d.1) (0,false,[]) ⟨⟨NJ _,NJ _,rfl⟩,by simp only[go_sem]⟩ ?_;rintro⟨j,b,o⟩ A w ⟨⟨t,e,a⟩,f⟩;simp only at t e a;have s:o.length<=j+1:=by split at e<;>omega
 by_cases c:j<l.length
 ·obtain⟨y,m⟩:=gE c;have g:=ip c;have q:=aD c (by omega);have h:dd (o.length+1) 24:=aC (by omega) (by omega);have u:dd (o.length+1+1) 24:=aC (by omega) (by omega);have k:=J4 x.1 y.1;have n:(o++[y]).map cI=o.map cI++[[Sg y.1,I y.2]]:=by rw[NC];rfl
  have v:(o++[x,y]).map cI=o.map cI++[[Sg x.1,I x.2]]++[[Sg y.1,I y.2]]:=by rw[NC,Nj];rfl
  rw[aZ m]at a;cases b with
  | true=>
    simp only[Nn]at a;have F:=kv UD m g q h f;repeat refine st ?_
    refine⟨(j+1,true,o++[y]),⟨⟨c,by simp only[Nn,NA,Nf]at e |-;omega,by simp only[Nn];rw[a,Nj];rfl⟩,by simp only[go_sem,f]⟩,?_,?_,by simp only;omega⟩
    ·exact qe
    simp only[n];exact qe
  | false=>
    simp only[NW,OB]at a;cases i:Op.bytesLess x.1 y.1 with
    | true=>
      rw[i]at k;rw[LI i]at a;have F:=qr UD m k g q h u f;repeat refine st ?_
      refine⟨(j+1,true,o++[x,y]),⟨⟨c,?_,?_⟩,by simp only[go_sem,f]⟩,?_,?_,by simp only;omega⟩
      ·simp only[NW,OB]at e;simp only[NA,NQ,Pp,Nn];omega
      ·simp only[Nn];rw[a,Nj];rfl
      ·exact qe
      simp only[v];exact qe
    | false=>
      rw[i]at k;rw[MM i]at a;have F:=m7 UD m k g q h f;repeat refine st ?_
      refine⟨(j+1,false,o++[y]),⟨⟨c,by simp only[NW,OB,NA,Nf]at e |-;omega,by simp only[NW,OB];rw[a,Nj];rfl⟩,by simp only[go_sem,f]⟩,?_,?_,by simp only;omega⟩
      ·exact qe
      simp only[n];exact qe
 ·obtain rfl:j=l.length:=by omega
  have g:=nl l.length;have h:dd (o.length+1) 24:=aC (by omega) (by omega);rw[OE]at a;cases b with
  | true=>
    rw[Mw rfl,OM]at a;rw[a];have F:=ai g f;exact fc
  | false=>
    rw[Mv Nb]at a;have n:(sT x l).map cI=o.map cI++[[Sg x.1,I x.2]]:=by rw[a,NC];rfl
    rw[n];have F:=gs g h f;exact fc
def sf(env:cf)(r:cD)(d now:Int)(s:List UInt8)(v:Int):b8 prog env 107 [.agg (fk r d now none),Sg s,I v] (.agg (fk (g6 r s v).1 d now (g6 r s v).2)):=by
 have f0:=iO env r d now 8 [-1];unfold g6;by_cases b:16<=r.Z8.length
 ·rw[Mw b];have a:(16:Int)<=(r.Z8.length:Int):=by omega
  unfold fk at f0 |-;simp only;refine qf func107 call107 ntmps107 results107 ?_;have F:=a;exact kb f0
 rw[Mv b];have a: ¬(16:Int)<=(r.Z8.length:Int):=by omega
 have c:dd (r.Z8.length+1) 24:=aC (by omega) (by omega);have e:dd r.Z8.length 24:=aC (by omega) (by omega);unfold fk;simp only[NC,Nh,O3];refine qf func107 call107 ntmps107 results107 ?_;have F:=i0 UD a c e;exact fc
end
end Go.Proofs.YtfhkmjbjafeckaaGreatDoor
