/- micro.Copy with all its rows, and micro.Step (printed by mkZS.py, in part out of XMP). -/
import Derived.Test.YtfhkmjbjafeckaaGreatDoorP30
set_option maxRecDepth 100000
set_option maxHeartbeats 16000000
set_option linter.unusedSimpArgs false
set_option linter.defProp false
namespace Go.Proofs.YtfhkmjbjafeckaaGreatDoor
open Go.Proofs.Tryz
open Go.RowKit
section
def AP(c:aq)(act gone:List Int)(mem:List ds)(j:Nat):eW c act gone mem (j+1)=if (DE c act gone mem j).isEmpty=true then eW c act gone mem j else eW c act gone mem j++[((j:Int),DE c act gone mem j)]:=by
 unfold eW;rw[PN,N5,NA];cases a:(DE c act gone mem j).isEmpty<;>simp[a]
def DF(c:aq)(act gone:List Int)(mem:List ds)(j:Nat):(eW c act gone mem j).length<=j:=by
 unfold eW;rw[NQ];exact NK (NS ..) (by rw[Po];exact NC _)
def Dm{p:Int->Bool}{K:List Int}{q:Nat}{u:Int}(h:K[q]? =some u):(K.take (q+1)).filter p=if p u=true then(K.take q).filter p++[u] else(K.take q).filter p:=by
 rw[N1,h,N5];cases a:p u<;>simp[a]
def Bk(act Z:List Int)(q:Nat):List Int:=(Z.take q).filter fun k=>act.contains k
def H2{act Z:List Int}{q:Nat}{u:Int}(h:Z[q]? =some u):Bk act Z (q+1)=if act.contains u=true then Bk act Z q++[u] else Bk act Z q:=Dm h
def vd(env:b8)(c:aq)(h:ch c)(act gone:List Int)(Y:act.length<=1000000)(hz: ∀x∈act,0<=x)(L:gone.length<=1000000)(mem:List ds)(M:mem.length<=1000000):b7 prog env 118 [.agg (aA c), .seq 1 (act.map aa), .seq 1 (gone.map aa),fk mem] (.own 146 2 ((DG c act gone mem).map fe)):=by
 have Z:=h.Z6;have T:=fun(i:Int)=>bh env c i true (by omega);have U:=fun(i:Int)=>np env c h.toRight act Y hz i;have C:=fun(i:Int)=>(show (L7 c act i).length<=32 from NK (NS ..) (by rw[am];exact cW h.toRight act));have S:=fun(i:Int)=>AZ env c h (L7 c act i) (by have:=C i;omega);unfold aA at T U S;show b7 _ _ _ _ (.own _ 2 ((eW c act gone mem c.Z9.length).map fe));refine qf func118 call118 ntmps118 results118 ?_;have F:=aA.eq_1;repeat refine st ?_
 have F:=aA.eq_1;refine lq c.Z9.length (by omega) (fun j m=>[(1, .seq 1 (act.map aa)),(2, .seq 1 (gone.map aa)),(3,fk mem),(4, .loc 4 (m 4) 0 0),(9, .row 15 (m 15)),(10,I j)]) (fun j _=>[(4,⟨5,[aA c],26,false⟩),(15,⟨2,(eW c act gone mem j).map fe,146,true⟩)]) (fun j _ a=>a 15=false) rfl ?_ ?_
 ·rintro j ws a o z R b;obtain⟨s,t⟩:=gE o;have f0:=bu env s;have r:=AP c act gone mem j;have hle:=DF c act gone mem j;have d:DE c act gone mem j=if aU s=true then(if gone.contains s.parent=true then(if s.kind=5 then zL (Jz c (L7 c act s.parent)) else(g6 c s.parent).filter fun k=>act.contains k) else T3 mem (j:Int)) else []:=by unfold DE;rw[t];rfl
  unfold aK at f0;generalize DE c act gone mem j=V at*;cases hm:aU s with
  | false=>
    rw[hm]at f0 d;rw[Mt Nc]at d;rw[d]at r;rw[Mw (show ([]:List Int).isEmpty=true from rfl)]at r;have F:=i' Uv Uw t z R b;repeat refine fc f0 ?_
    refine⟨j+1,⟨o,by simp only[go_sem,b]⟩,?_,?_,by omega⟩
    ·exact qe
    have F:=ai Uv r;exact qe
  | true=>
    rw[hm]at f0 d;rw[Mw rfl]at d;have f1:=FB env mem (j:Int) M;have f2:=cK env gone s.parent L;have f3:=U s.parent;have f4:=S s.parent;have f5:=T s.parent;have hKl:=bE h.toRight s.parent true;have J: ∀(u:Int),_:=fun u=>cK env act u Y;have G:g6 c s.parent=zL (av c s.parent true):=rfl;generalize av c s.parent true=K at*;rw[G]at d;have F:=g9 Uv Uw t z b;repeat refine Sx f0 f1 f2 ?_
    refine Fs (D:=Unit) (fun _ m=>[(1, .seq 1 (act.map aa)),(2, .seq 1 (gone.map aa)),(3,fk mem),(4, .loc 4 (m 4) 0 0),(9, .row 15 (m 15)),(10,I j),(12, .seq 1 (V.map aa))]) (fun _ _=>[(4,⟨5,[aA c],26,false⟩),(15,⟨2,(eW c act gone mem j).map fe,146,true⟩)]) (fun _ _ a=>a 15=false) ?_ ?_
    ·refine eA ?_;cases w:gone.contains s.parent with
     | false=>
       rw[w,Mt Nc]at d;rw[d];have F:=w;repeat refine st ?_
       refine⟨_,dd.refl _,(),by simp only[go_sem,b],?_,?_⟩
       ·exact qe
       have F:=aA.eq_1;exact qe
     | true=>
       rw[w,Mw rfl]at d;by_cases n:s.kind=5
       ·have B:(s.kind==5)=true:=by simp[n]
        rw[Mw n]at d;rw[d];have F:=hU Uv Uw w B;repeat refine wc f3 f4 ?_
        refine⟨_,dd.frozen 47 12 ⟨1,(Jz c (L7 c act s.parent)).map aB,3,true⟩ rfl (Nf 0) (by simp only[go_sem]) (by simp only[go_sem]),(),by simp only[go_sem,b],?_,?_⟩
        ·have F:=bd;exact qe
        have F:=aA.eq_1;exact qe
       have B:(s.kind==5)=false:=by simpa using n
       rw[Mt n]at d;have F:=hU Uv Uw w B;repeat refine fc f5 ?_
       have F:=aA.eq_1;refine lq K.length (by omega) (fun q m=>[(1, .seq 1 (act.map aa)),(2, .seq 1 (gone.map aa)),(3,fk mem),(4, .loc 4 (m 4) 0 0),(9, .row 15 (m 15)),(10,I j),(12, .row 52 (m 52)),(13, .row 51 (m 51)),(14,I q)]) (fun q _=>[(4,⟨5,[aA c],26,false⟩),(15,⟨2,(eW c act gone mem j).map fe,146,true⟩),(51,⟨1,K.map aB,3,true⟩),(52,⟨1,(Bk act (zL K) q).map aa,3,true⟩)]) (fun q _ a=>a 15=false/\a 52=false) ⟨by simp only[go_sem,b],by simp only[go_sem]⟩ ?_ ?_
       ·rintro q xs fs g A r2 ⟨p,v⟩;obtain⟨u,O⟩:=gE g;have y:=J (u:Int);have P:(zL K)[q]? =some (u:Int):=by unfold zL;rw[NB,O];rfl
        have f:=H2 (act:=act) P;have hkl:(Bk act (zL K) q).length<=32:=NK (NS ..) (by rw[NJ];omega);have H:cU ((Bk act (zL K) q).length+1) 8:=aC (by omega) (by omega);generalize Bk act (zL K) q=X at*;cases W:act.contains (u:Int) with
        | false=>
          rw[W]at y f;rw[Mt Nc]at f;have F:=i' Ux O A r2 p v;repeat refine fc y ?_
          refine⟨q+1,⟨g,by simp only[go_sem,p],by simp only[go_sem,v]⟩,?_,?_,by omega⟩
          ·exact qe
          have F:=ai Uv f;exact qe
        | true=>
          rw[W]at y f;rw[Mw rfl]at f;have F:=mc Ux O A r2 p v H;repeat refine fc y ?_
          refine⟨q+1,⟨g,by simp only[go_sem,p],by simp only[go_sem,v]⟩,?_,?_,by omega⟩
          ·exact qe
          have F:=hU Uv Ux f @NA.{0,0};exact qe
       rintro xs fs A ⟨p,v⟩;have N:Bk act (zL K) K.length=V:=by unfold Bk;rw[Nq (by rw[am];exact NC _)];exact d.symm
       rw[N];have F:=gb A p v;repeat refine st ?_
       refine⟨_,dd.frozen 52 12 ⟨1,V.map aa,3,true⟩ rfl (Nf 0) (by simp only[go_sem]) (by simp only[go_sem]),(),by simp only[go_sem,p],?_,?_⟩
       ·exact qe
       have F:=aA.eq_1;exact qe
    ·clear b;rintro-us es b;cases l:V.isEmpty with
     | true=>
       rw[l,Mw rfl]at r;have E:V.length=0:=by simpa using l
       have Q: ¬(0:Int)< (V.length:Int):=by omega
       have F:=gb Q R b;repeat refine st ?_
       refine⟨j+1,⟨o,by simp only[go_sem,b]⟩,?_,?_,by omega⟩
       ·exact qe
       have F:=ai Uv r;exact qe
     | false=>
       rw[l,Mt Nc]at r
       have E:V.length≠0:=by
        intro e;rw[OZ.1 e]at l;cases l
       have Q:(0:Int)< (V.length:Int):=by omega
       have H:cU ((eW c act gone mem j).length+1) 32:=aC (by omega) (by omega);have F:=hU Q R b H;repeat refine st ?_
       refine⟨j+1,⟨o,by simp only[go_sem,b]⟩,?_,?_,by omega⟩
       ·exact qe
       have F:=hU Uv UH r @NA.{0,0};exact qe
 rintro ws a z b;have F:=gb Uv z b;exact ek
end
section
end
section
def lC(env:b8)(es:List (List AV))(c:cU es.length 8):b7 prog env 73 [.seq 1 es] (.own 3 1 es):=by
 cases es with
 | nil=>
   refine b7.empty fun A a=> ?_;cases A with
   | none=>
     refine qw func73 call73 ntmps73 results73 ?_;repeat refine m9 ?_
     (refine aM ?_;refine⟨_,(by show (aj _ _ _).run _=some _;simp only[go_sem];rfl),?_⟩)
     exact gA.own_nil _ _ (by decide)
   | some A=>
     refine qf func73 call73 ntmps73 results73 ?_;repeat refine m9 ?_
     exact oj
 | cons d l=>
   have b:cU (l.length+1) 8:=c;refine qf func73 call73 ntmps73 results73 ?_;have F:=b;exact ek
def Ar(env:b8)(es:List (List AV))(c:cU es.length 24):b7 prog env 74 [.seq 2 es] (.own 98 2 es):=by
 cases es with
 | nil=>
   refine b7.empty fun A a=> ?_;cases A with
   | none=>
     refine qw func74 call74 ntmps74 results74 ?_;repeat refine m9 ?_
     (refine aM ?_;refine⟨_,(by show (aj _ _ _).run _=some _;simp only[go_sem];rfl),?_⟩)
     exact gA.own_nil _ _ (by decide)
   | some A=>
     refine qf func74 call74 ntmps74 results74 ?_;repeat refine m9 ?_
     exact oj
 | cons d l=>
   have b:cU (l.length+1) 24:=c;refine qf func74 call74 ntmps74 results74 ?_;have F:=b;exact ek
end
section
def LH(env:b8)(Y Z:Addr)(he:fU env Y Z)(c:aq)(h:ch c)(S:g7 c)(d now:Int)(r:cD)(hl:r.act.length<=1000)(hb:tI c r.act=true)(l:List Nat)(M:Fit c r.act l)(hll:l.length<=1000):
 ip prog env 195 [1000,1001,1002,1003,1004,1005] (fun _=>false) (fun g=>[.loc 1000 (g 1000) 0 0, .seq 1 (l.map aB)]) (RY c d now r) (RY c d now r) (fun _=>B true):=by
 have htr:=h.ZP
 have fC:=fun(n:Nat)(t:tR)(L:c.trans[n]? =some t)(R:t.src∈r.act)=>by
  have:=bL env r.act t.src (by omega);rw[Mx.2 R]at this;exact this.lend rfl
 have fK:=fun(a b:Nat) ha N=>(oM env Y Z he c h S r.act (by omega) hb a b ha N).lend rfl;have K:=Nn.1 M.two;unfold aG at fK;refine qi func195 call195 ntmps195 results195 ?_;intro v esc H;obtain⟨m,o,p,q,s,u⟩:=Sf H;have F:=n4 UA Uz m o p q s u;repeat refine st ?_
 refine lq l.length (by omega) (fun i e=>[(0, .loc 1000 (e 1000) 0 0),(1, .seq 1 (l.map aB)),(9, .seq 1 (l.map aB)),(10,I l.length),(11,I i)]) (fun i e=>RY c d now r e) (fun i e f=>(e 1000=v 1000/\e 1001=v 1001/\e 1002=v 1002/\e 1003=v 1003/\e 1004=v 1004/\e 1005=v 1005)/\f 1000=false/\f 1001=false/\f 1002=false/\f 1003=false/\f 1004=false/\f 1005=false) ⟨by simp only[go_sem,NH],by simp only[go_sem,m,o,p,q,s,u,NH]⟩ ?_ ?_
 ·try clear m o p q s u
  rintro i ws es x X q2 ⟨⟨y,z,A,C,E,G⟩,m,o,p,q,s,u⟩;obtain⟨n,V⟩:=gE x;obtain⟨t,L,R⟩:=M.real n (Mv V);have hn:=(Mr.1 L).1;have f0:=fC n t L R;have q3: ¬(n:Int)<0:=by omega
  have q4: ¬(c.trans.length:Int)<=(n:Int):=by omega
  have q5:(n:Int)< (c.trans.length:Int):=by omega
  have q6:(l.take i).length=i:=by rw[NJ];omega
  have q7:(i:Int)<=(l.length:Int):=by omega
  have F:=ed Uy Ux UA Uz V L X q3 q4 q5 q7<|i' m o p q s u;repeat refine st ?_
  refine lL f0 ?_;repeat refine st ?_
  generalize hT:l.take i=T at*;refine lp (D:=Nat) (fun j e=>[(0, .loc 1000 (e 1000) 0 0),(1, .seq 1 (l.map aB)),(6,I n),(9, .seq 1 (l.map aB)),(10,I l.length),(11,I i),(48, .seq 1 (T.map aB)),(49,I T.length),(50,I j)]) (fun j e=>RY c d now r e) (fun j e f=>j<=i/\(e 1000=v 1000/\e 1001=v 1001/\e 1002=v 1002/\e 1003=v 1003/\e 1004=v 1004/\e 1005=v 1005)/\f 1000=false/\f 1001=false/\f 1002=false/\f 1003=false/\f 1004=false/\f 1005=false) (fun j=>i-j) 0 ⟨NG _,by simp only[go_sem,y,z,A,C,E,G,NH],by simp only[go_sem,m,o,p,q,s,u,NH]⟩ ?_;try clear m o p q s u y z A C E G
  rintro j us fs ⟨hj,⟨y,z,A,C,E,G⟩,m,o,p,q,s,u⟩;by_cases w:j<i
  ·obtain⟨k,O⟩: ∃a,T[j]? =some a:=⟨T[j]'(by omega),Mq (by omega)⟩;have J:l[j]? =some k:=by rw[<-hT,N8,Mw w]at O;exact O
   obtain⟨tk,U,_⟩:=M.real k (Mv J);have P:=(Mr.1 U).1;have Q:=K j i (by omega) x w;rw[(Mr.1 J).2,(Mr.1 V).2]at Q;have f1:=fK k n P hn;rw[Q.2]at f1;have W:(j:Int)< (T.length:Int):=by omega
   have p2:IntKind.i64.wrap ((j:Int)+1)=((j+1:Nat):Int):=aD (show j<l.length by omega) (by omega);have p3:((k:Int)==(n:Int))=false:=by have:=Q.1;simp;omega
   have F:=ed Ux UA Uz O W p2 p3 m o p q<|ai s u;repeat refine st ?_
   refine lL f1 ?_;repeat refine st ?_
   exact qn (j+1) ⟨w,by simp only[go_sem,y,z,A,C,E,G,NH],by simp only[go_sem,m,o,p,q,s,u,NH]⟩
  obtain rfl:j=i:=by omega
  have W: ¬(j:Int)< (T.length:Int):=by omega
  have F:=lE UA Uz W q2 m o p q s u;repeat refine st ?_
  exact qn (j+1) ⟨x,by simp only[go_sem,y,z,A,C,E,G,NH],by simp only[go_sem,m,o,p,q,s,u,NH]⟩
 try clear m o p q s u
 rintro ws es X ⟨⟨y,z,A,C,E,G⟩,m,o,p,q,s,u⟩;have F:=ed UA Uz X y z A C E G m o<|hU p q s u;repeat refine st ?_
 exact rI
end
section
def rm(c:aq)(t:tR):Int:=ns c t.src t.target
def ng(c:aq)(t:tR)(x:Int):Prop:=0<=t.target/\a7 c (rm c t) x=true
def TO(c:aq)(mem:List ds)(t:tR)(x:Int):Prop:=0<=t.target/\Gr c (m7 c (kv c t.target mem) (rm c t)) x
def i6(c:aq)(act:List Int)(mem:List ds)(ts:List Nat)(x:Int):Prop:=(x∈act/\ ∀n∈ts,¬ng c (dm c n) x)\/ ∃n∈ts,TO c mem (dm c n) x
def Ef{c:aq}(h:ch c){d:Int}{P:List Int}(m: ∀k∈P,a7 c d k=true){x:Int}(g:Gr c P x):a7 c d x=true:=by
 have a:=h.toRight
 induction g with
 |base n=>exact m _ n
 | ini g j o l e=>
   have b:=il h j l;obtain⟨f,i,_⟩:=bP a b;exact(ah a f).2 (.inr (by rw[i];exact e))
 | par g j b e=>
   obtain⟨f,i,_⟩:=bP a b;exact(ah a f).2 (.inr (by rw[i];exact e))
def LL{c:aq}{act:List Int}{a b:Nat}{x:Int}(d:x∈fj c act (dm c a))(e:x∈fj c act (dm c b)):bg c act a b=true:=by
 unfold bg;rw[OE];exact⟨x,d,Mx.2 e⟩
structure Tr(c:aq)(act:List Int)(mem:List ds)(t:tR):Prop where
 src:t.src∈act
 Z3:0<=t.target->a7 c (rm c t) t.src=true
 dom:0<=t.target->rm c t= -1\/(rm c t∈act/\an c (rm c t)=true)
 uni:0<=t.target->TX c (rm c t) (m7 c (kv c t.target mem) (rm c t))
 left: ∀x,x∈fj c act t↔x∈act/\ng c t x
 to: ∀x,x∈zL (m6 c t mem)↔TO c mem t x
def yh{c:aq}(h:ch c){act:List Int}(p:tI c act=true){mem:List ds}(m:bc c mem=true){n:Nat}{t:tR}(r:c.trans[n]? =some t)(b:t.src∈act):Tr c act mem t:=by
 obtain⟨i,u⟩:=h.src r;have k:=cx p;have f:0<=t.target->fb c t.target=true:=fun a=>u.resolve_left (by omega);refine⟨b,fun a=> ?_,fun a=> ?_,fun a=> ?_,fun x=> ?_,fun x=> ?_⟩
 ·exact Mx.2 (vv h i (f a)).2.1
 ·obtain⟨_,d2,d3⟩:=vv h i (f a);exact d3.imp id fun e=>⟨k.up h.toRight (t.src.toNat+1) t.src _ (by have:=(aI.1 i).1;omega) b d2 e.1,e.2⟩
 ·obtain⟨d1,_,d3⟩:=vv h i (f a);exact ug h (f a) m d1 (by unfold rm;rcases d3 with e|e<;>omega)
 ·by_cases a:0<=t.target
  ·unfold fj;rw[Mt (by omega),QL];unfold L7
   rw[ND,iB h.toRight fun y g=>by
    obtain⟨_,_,f,_⟩:=k.of g
    exact f]
   exact⟨fun q=>⟨q.1,a,q.2⟩,fun q=>⟨q.1,q.2.2⟩⟩
  unfold fj ng;rw[Mw (by omega)];simp[a]
 by_cases a:0<=t.target
 ·obtain⟨d1,_,d3⟩:=vv h i (f a);have s:=ug h (f a) m d1 (by rcases d3 with e|e<;>omega);have j: ∀y∈m7 c (kv c t.target mem) (ns c t.src t.target),fb c y=true:=fun y g=>aZ (s.Z3 y g);have o:=(gz (c:=c) (d:=ns c t.src t.target) (l:=kv c t.target mem)).1;unfold m6 IZ TO rm;rw[Mt (by omega),iB h.toRight fun y g=>((ej h o).1 g).in h j,ej h o];exact⟨fun q=>⟨a,q⟩,fun q=>q.2⟩
 unfold m6 TO;rw[Mw (by omega)];simp[a,zL]
def C7{c:aq}(h:ch c){act:List Int}{mem:List ds}{a b:Nat}(f:Tr c act mem (dm c a))(j:Tr c act mem (dm c b))(m:bg c act a b=false){x:Int}(d:ng c (dm c a) x)(i:ng c (dm c b) x):False:=by
 have k:=h.toRight
 have g: ∀y,y∈act->ng c (dm c a) y->ng c (dm c b) y->False:=fun y l o p=>by
  have:=LL ((f.left y).2 ⟨l,o⟩) ((j.left y).2 ⟨l,p⟩);rw[m]at this;cases this
 have n:=aI.1 (aZ d.2);rcases qO k (c.Z9.length) x n.2 (Mx.1 d.2) (Mx.1 i.2) with e|e|e
 ·exact g _ f.src ⟨d.1,f.Z3 d.1⟩ ⟨i.1,by rw[<-e];exact f.Z3 d.1⟩
 ·exact g _ j.src ⟨d.1,jG k (Mx.2 e) (j.Z3 i.1)⟩ ⟨i.1,j.Z3 i.1⟩
 exact g _ f.src ⟨d.1,f.Z3 d.1⟩ ⟨i.1,jG k (Mx.2 e) (f.Z3 d.1)⟩
def Fit.front{c:aq}{act:List Int}{l:List Nat}{n:Nat}(h:Fit c act (l++[n])):Fit c act l/\ ∀k∈l,bg c act k n=false:=by
 obtain⟨a,_,b⟩:=Pk.1 h.two;exact⟨⟨fun m e=>h.real m (Ns _ e),a⟩,fun k d=>(b k d n (by simp)).2⟩
def sx{c:aq}(h:ch c){act:List Int}(j:tI c act=true){mem:List ds}(C:bc c mem=true): ∀(m:Nat)(ts:List Nat),ts.length=m->Fit c act ts-> ∃O:List Nat,O.Pairwise (· < ·)/\tI c (zL O)=true/\ ∀x,x∈zL O↔i6 c act mem ts x
 | 0,ts,a,y=>by
   obtain rfl:ts=[]:=OZ.1 a;have M:=cx j;obtain⟨l,e,hk⟩:=tE j
   have N:l.Pairwise (· < ·):=by
    have:=M.ZZ;rw[e]at this;unfold zL at this;exact(Q2.1 this).imp fun h=>by omega
   exact⟨l,N,by rw[<-e];exact j,fun x=>by rw[<-e];simp[i6]⟩
 | m+1,ts,a,y=>by
   rcases List.eq_nil_or_concat ts with rfl|⟨l,n,rfl⟩
   ·simp at a
   rw[List.concat_eq_append]at y a |-;obtain⟨s,u⟩:=y.front;obtain⟨O,R,K,E⟩:=sx h j C m l (by simpa using a) s;obtain⟨t,I,v⟩:=y.real n (by simp);have i:=yh h j C I v
   have o: ∀k∈l,Tr c act mem (dm c k):=fun k hk=>by
    obtain⟨S,w,D⟩:=s.real k hk;rw[dC w];exact yh h j C w D
   rw[<-dC I]at i;by_cases b:0<=(dm c n).target
   ·have A:=cx K;have J:=i.uni b;have r: ∀k∈l,∀x,TO c mem (dm c k) x->ng c (dm c k) x:=fun k hk x q=>⟨q.1,Ef h ((o k hk).uni q.1).Z3 q.2⟩
    have L:rm c (dm c n)= -1\/(rm c (dm c n)∈zL O/\an c (rm c (dm c n))=true):=by
     refine(i.dom b).imp id fun e=>⟨(E _).2 (.inl ⟨e.1,fun k hk a=> ?_⟩),e.2⟩;exact C7 h (o k hk) i (u k hk) (x:=(dm c n).src) ⟨a.1,jG h.toRight a.2 (i.Z3 b)⟩ ⟨b,i.Z3 b⟩
    classical
    let G:List Nat:=(List.range c.Z9.length).filter fun k:Nat=>decide (i6 c act mem (l++[n]) (k:Int))
    have z: ∀x,i6 c act mem (l++[n]) x->fb c x=true:=fun x d=>by
     rcases d with⟨d,_⟩|⟨k,hk,q⟩
     ·obtain⟨_,_,z,_⟩:=(cx j).of d;exact z
     rcases NY.1 hk with hk|hk
     ·exact aZ (r k hk x q).2
     rw[NO.1 hk]at q;exact aZ (Ef h J.Z3 q.2)
    have f: ∀x,x∈zL G↔i6 c act mem (l++[n]) x:=fun x=>by
     constructor
     ·intro d;obtain⟨k,hk,rfl⟩:=NE.1 d;simpa using (ND.1 hk).2
     intro d;obtain⟨k,rfl⟩: ∃k:Nat,x=k:=⟨x.toNat,by have:=aI.1 (z x d);omega⟩;exact NE.2 ⟨k,ND.2 ⟨NX.2 (aV.1 (z _ d)),by simpa using d⟩,rfl⟩
    refine⟨G,Cy,(D8 h A J L Cy fun x=> ?_).1,f⟩;rw[f,E];constructor
    ·rintro(⟨p,g⟩|⟨k,hk,q⟩)
     ·refine .inl ⟨.inl ⟨p,fun k hk=>g k (Ns _ hk)⟩,?_⟩;cases B:a7 c (rm c (dm c n)) x
      ·rfl
      exact absurd ⟨b,B⟩ (g n (by simp))
     rcases NY.1 hk with hk|hk
     ·refine .inl ⟨.inr ⟨k,hk,q⟩,?_⟩;cases B:a7 c (rm c (dm c n)) x
      ·rfl
      exact(C7 h (o k hk) i (u k hk) (r k hk x q) ⟨b,B⟩).elim
     rw[NO.1 hk]at q;exact .inr q.2
    rintro(⟨⟨p,g⟩|⟨k,hk,q⟩,H⟩|q)
    ·refine .inl ⟨p,fun k hk a=> ?_⟩;rcases NY.1 hk with hk|hk
     ·exact g k hk a
     rw[NO.1 hk]at a;rw[a.2]at H;cases H
    ·exact .inr ⟨k,Ns _ hk,q⟩
    exact .inr ⟨n,by simp,b,q⟩
   refine⟨O,R,K,fun x=> ?_⟩;rw[E];have P: ¬ng c (dm c n) x:=fun q=>b q.1;have Q: ¬TO c mem (dm c n) x:=fun q=>b q.1;constructor
   ·rintro(⟨p,g⟩|⟨k,hk,q⟩)
    ·refine .inl ⟨p,fun k hk=> ?_⟩;rcases NY.1 hk with hk|hk
     ·exact g k hk
     rw[NO.1 hk];exact P
    exact .inr ⟨k,Ns _ hk,q⟩
   rintro(⟨p,g⟩|⟨k,hk,q⟩)
   ·exact .inl ⟨p,fun k hk=>g k (Ns _ hk)⟩
   rcases NY.1 hk with hk|hk
   ·exact .inr ⟨k,hk,q⟩
   rw[NO.1 hk]at q;exact absurd q Q
end
section
def CZ{c:aq}(h:(n5 c).1=0):c.vars.length<=8/\ ∀v∈c.vars,aL v.start=true:=by
 unfold n5 at h;split at h
 ·simp at h
 rename_i e;split at h
 ·simp at h
 split at h
 ·simp at h
 rename_i b;refine⟨by omega,fun v d=> ?_⟩;obtain⟨k,a,rfl⟩:=OX d;have:=cj b k a;unfold jl qR at this;rw[Mq a]at this;simp only[Mu,NF]at this;rw[cE];exact⟨this.1.2,this.2⟩
def i0(c:aq):cD:=⟨[],c.vars.map (·.start),[],[],false,[],[]⟩
def o7{c:aq}(b: ∀v∈c.vars,aL v.start=true):ff c (i0 c):=⟨by unfold i0;simp,fun x d=>by
 obtain⟨v,a,rfl⟩:=NE.1 d
 exact b v a,⟨.nil,by simp[i0]⟩,by simp[i0],by simp[i0],by simp[i0],by simp[i0]⟩
def K0{c:aq}(h:ch c):k6 c (-1)=Th c (KK c):=by
 obtain⟨s,d,a,_⟩:=h.topS;have b:=(Mr.1 d).1;have e:fb c c.initial=true:=by rw[a];exact aV.2 b
 unfold k6;simp only[Nt];rw[e,Mw rfl];rfl
def BH{c:aq}(h:ch c){k:Nat}(a:k∈k6 c (-1)):k<c.Z9.length:=by
 obtain⟨s,d,_⟩:=h.topS;have b:=(Mr.1 d).1;rw[K0 h,Jy h b, <-j8 h]at a;exact NX.1 (ND.1 a).1
def AN{c:aq}(h:ch c):nA c (k6 c (-1))=r8 c:=by
 rw[K0 h];unfold nA r8;apply Ob;intro k _;rw[N4,mQ,decide_eq_true_iff]
def qT{c:aq}(h:ch c){now:Int}(m:0<=now/\now<=1099511627776)(n: ∀v∈c.vars,aL v.start=true)(i:(ak c 0 now (i0 c) [] (zL (k6 c (-1)))).1.2=none):tI c (ak c 0 now (i0 c) [] (zL (k6 c (-1)))).1.1.act=true/\(ak c 0 now (i0 c) [] (zL (k6 c (-1)))).1.1.act=zL (nA c (k6 c (-1))):=by
 obtain⟨_,k⟩:=iX (bU h) (l:=zL (k6 c (-1))) (f:=[]) (show aL 0=true by rfl) m (o7 n) .nil;have g:=k i;have d:=Ai h;rw[<-AN h]at d
 have e:(ak c 0 now (i0 c) [] (zL (k6 c (-1)))).1.1.act=zL (nA c (k6 c (-1))):=mD g.ZZ (by unfold nA;exact yc) fun x=>by
  rw[g.mem];simp only[i0,List.not_mem_nil,false_or];constructor
  ·intro b;obtain⟨j,a,rfl⟩:=NE.1 b;refine NE.2 ⟨j,ND.2 ⟨NX.2 ?_,mQ.2 a⟩,rfl⟩;exact BH h a
  intro b;obtain⟨j,a,rfl⟩:=NE.1 b;exact NE.2 ⟨j,mQ.1 (ND.1 a).2,rfl⟩
 exact⟨by rw[e];exact d,e⟩
def sr(env:b8)(now:Int):b7 prog env 64 [I now] (B (decide (0<=now/\now<=1099511627776))):=by
 by_cases a:0<=now
 ·by_cases b:now<=1099511627776
  ·have k:decide (0<=now/\now<=1099511627776)=true:=by simp[a,b]
   rw[k];refine qf func64 call64 ntmps64 results64 ?_;have F:=ai a b;exact ek
  have k:decide (0<=now/\now<=1099511627776)=false:=by simp[b]
  rw[k];refine qf func64 call64 ntmps64 results64 ?_;have F:=ai a b;exact ek
 have k:decide (0<=now/\now<=1099511627776)=false:=by simp[a]
 rw[k];refine qf func64 call64 ntmps64 results64 ?_;have F:=a;exact ek
def vl(a b:Addr):cD×tD->AV
 |(r,none)=> .tuple [.agg [cf r.act,cf r.vars, .seq 2 (r.mem.map fe), .seq 2 (r.Z1.map c0),B r.over], .agg [cf r.outs, .seq 2 (r.Z7.map c0)],h9]
 |(_,some e)=> .tuple [.agg [cy,cy,cy,cy,B false], .agg [cy,cy],dt (-1) (cr a b (some e))]
def E1(env:b8)(t f g:Addr)(c:aq)(now:Int)(E:AT env t f g c 0 now)(u: ∀v∈c.vars,aL v.start=true):b7 prog env 37 [aG c,I now] (vl f g (dN c now)):=by
 have J:=E.hs.vars;have f0:=sr env now;rw[Ni E.hn]at f0;have f1:=ay env c E.hs;have f2:=pm env c E.hs;have f3:=((yD env c E.h (-1)).lend (al (fun _=>rfl) _)).seen
 have s:(k6 c (-1)).length<=1000:=by
  rw[K0 E.h];have:=E7 E.h (KK c);omega
 have f4:=xh env t f g c 0 now E (i0 c) (o7 u) .nil (NG _) (k6 c (-1)) (fun i C=>BH E.h C) s (fun A=>(qT E.h E.hn u A).1);unfold dN;rw[show (⟨[],c.vars.map (·.start),[],[],false,[],[]⟩:cD)=i0 c from rfl];generalize k6 c (-1)=G at*;unfold aG at f1 f3 |-;unfold aA at f1 f2;have z: ∀k,k<=c.vars.length->((c.vars.take k).map (·.start)).length=k:=fun k P=>by simp;omega
 refine qf func37 call37 ntmps37 results37 ?_;repeat refine Cd f0 f1 f2 ?_
 refine TI 29 9001 0 0 3 1 ?_;refine TI 29 9002 0 1 3 1 ?_;refine TI 29 9006 0 2 146 2 ?_;refine TI 29 9003 0 3 98 2 ?_;refine TI 29 9004 0 5 3 1 ?_;refine TI 29 9005 0 6 50 2 ?_;refine bk [(9006,⟨2,[],146,true⟩)] ?_ ?_
 ·exact T7
 refine aH (D:=Nat) (fun j e=>[(0, .ref 9 [ct c] 0 0),(4, .loc 4 (e 4) 0 0),(5, .loc 5 (e 5) 0 0),(6,h9),(7, .loc 29 (e 29) 0 0),(34,pf c.vars),(35,I c.vars.length),(36,I j)]) (fun j e=>[(4,⟨5,[[cy,cy,cy,cy,B false]],37,false⟩),(5,⟨2,[[cy,cy]],101,false⟩),(29,⟨15,[[.row 9001 (e 9001), .row 9002 (e 9002), .seq 2 [], .row 9003 (e 9003),B false, .row 9004 (e 9004), .row 9005 (e 9005), .ref 9 [ct c] 0 0,Sg c.name,I c.initial,pf c.vars,qa c.Z9,sT c.trans,I 0,I now]],150,false⟩),(9001,⟨1,[],3,true⟩),(9002,⟨1,((c.vars.take j).map (·.start)).map aa,3,true⟩),(9003,⟨2,[],98,true⟩),(9004,⟨1,[],3,true⟩),(9005,⟨2,[],50,true⟩)]) (fun j _ a=>j<=c.vars.length/\a 4=false/\a 5=false/\a 29=false/\a 9001=false/\a 9002=false/\a 9003=false/\a 9004=false/\a 9005=false) (fun j=>c.vars.length-j) 0 ?_ ?_ ?_ ?_
 ·refine⟨NG _,?_⟩;simp only[kk,n7,fX,QH,Qx,go_sem];try simp
 ·simp only[kk,n7,fX,Row.see,AV.see,AV.see.seeL,PG,OH,go_sem];try rfl
 ·simp only[kk,n7,fX,Row.see,AV.see,AV.see.seeL,PG,OH,go_sem];try rfl
 rintro j R N ⟨H,n,o,b,h,l,m,p,q⟩;by_cases d:j<c.vars.length
 ·obtain⟨v,w⟩:=gE d;have r:=it d;have K:=aD d (by omega);have L:cU (((c.vars.take j).map (·.start)).length+1) 8:=by rw[z j H];exact aC (by omega) (by omega)
  have M:((c.vars.take (j+1)).map (·.start)).map aa=((c.vars.take j).map (·.start)).map aa++[[I v.start]]:=by rw[bV w];simp
  generalize O:(c.vars.take j).map (·.start)=U at*;have F:=ed UU w r K L n o b h l m<|ai p q;repeat refine st ?_
  refine⟨j+1,⟨d,?_⟩,?_,?_,by omega⟩
  ·simp only[go_sem,n,o,b,h,l,m,p,q,NH]
  ·exact qe
  simp only[M];exact qe
 obtain rfl:j=c.vars.length:=by omega
 have r:=nl c.vars.length;have y:((c.vars.take c.vars.length).map (·.start)).map aa=(i0 c).vars.map aa:=by rw[NR];rfl
 generalize gv c 0 now (i0 c) (zL G)=X at*;rcases X with⟨Q,_|⟨k,x⟩⟩
 ·unfold vl;unfold cr RY lf at f4;simp only at f4;simp only[y];have F:=ed UA UC i0.eq_1 r n o b h l m p q;repeat refine st ?_
  refine lL f3 ?_;repeat refine st ?_
  refine iL [(1000,29),(1001,9001),(1002,9002),(1003,9003),(1004,9004),(1005,9005)] f4 ?_;exact ek
 unfold vl;unfold cr RY lf at f4;simp only at f4;unfold cr;simp only;have f5:=i7 env [109,105,99,114,111,46,70,105,114,115,116] (x.headD (-1)) (gc x.tail (bx (if k=2 then f else g)));simp only[y];have F:=ed UA UC i0.eq_1 r n o b h l m p q;repeat refine st ?_
 refine lL f3 ?_;repeat refine st ?_
 refine iL [(1000,29),(1001,9001),(1002,9002),(1003,9003),(1004,9004),(1005,9005)] f4 ?_;exact hH f5
end
section
def nM(env:b8)(x:nw)(u:x.1.length<=4096)(w:x.2.1.length<=4096)(C:x.2.2.1.length<=4096)(o: ∀m∈x.2.2.1,cU m.2.length 8)(v:cU x.2.2.2.1.length 24):
 ip prog env 43 [8,11,14] (fun i=>i==8||(i==11||i==14)) (fun _=>[.agg [.seq 1 (x.1.map aa), .seq 1 (x.2.1.map aa), .seq 2 (x.2.2.1.map fe), .seq 2 (x.2.2.2.1.map c0),B x.2.2.2.2]]) (fun _=>[]) (fun _=>[(8,⟨1,x.1.map aa,3,true⟩),(11,⟨1,x.2.1.map aa,3,true⟩),(14,⟨2,x.2.2.2.1.map c0,98,true⟩)]) (fun g=> .agg [.row 8 (g 8), .row 11 (g 11), .seq 2 (x.2.2.1.map fe), .row 14 (g 14),B x.2.2.2.2]):=by
 have f0:=lC env (x.1.map aa) (by rw[NQ];exact aC u (by omega));have f1:=lC env (x.2.1.map aa) (by rw[NQ];exact aC w (by omega));have f2:=Ar env (x.2.2.2.1.map c0) (by rw[NQ];exact v);obtain⟨A,V,M,T,O⟩:=x;simp only at*;refine qi func43 call43 ntmps43 results43 ?_;intro f a n;obtain⟨b,c,d⟩:=Ta n;have F:=gb b c d;repeat refine Sx f0 f1 f2 ?_
 refine nC 3 9000 0 2 146 2 ?_
 refine aH (D:=Nat) (fun j f=>[(1, .loc 1 (f 1) 0 0),(2, .loc 2 (f 2) 0 0),(3, .loc 3 (f 3) 0 0),(19, .seq 2 (M.map fe)),(20,I M.length),(21,I j)])
  (fun j f=>[(1,⟨5,[[.seq 1 (A.map aa), .seq 1 (V.map aa), .seq 2 (M.map fe), .seq 2 (T.map c0),B O]],37,false⟩),(2,⟨5,[[cy,cy,cy,cy,B false]],37,false⟩),(3,⟨5,[[.row 8 (f 8), .row 11 (f 11), .row 9000 (f 9000), .row 14 (f 14),B O]],37,false⟩),(8,⟨1,A.map aa,3,true⟩),(11,⟨1,V.map aa,3,true⟩),(14,⟨2,T.map c0,98,true⟩),(9000,⟨2,(M.take j).map fe,146,true⟩)])
  (fun j _ a=>j<=M.length/\a 2=false/\a 3=false/\a 8=false/\a 11=false/\a 9000=false/\a 14=false) (fun j=>M.length-j) 0 ?_ ?_ ?_ ?_
 ·refine⟨NG _,?_,?_,?_,?_,?_,?_⟩<;>simp only[go_sem,b,c,d]
 ·exact qe
 ·exact qe
 try clear b c d
 rintro j G a ⟨E,h,k,b,c,l,d⟩;by_cases e:j<M.length
 ·obtain⟨m,p⟩:=gE e;have t:=it e;have z:=aD e (by omega);have f3:=lC env (m.2.map aa) (by rw[NQ];exact o m (Mv p));have s:(M.take j).length=j:=by rw[NJ];omega
  have y:cU (j+1) 32:=aC (by omega) (by omega);have r:M.take (j+1)=M.take j++[m]:=by rw[N1,p];rfl
  have F:=ed UH t z p s y b c h k l d;repeat refine fc f3 ?_
  refine⟨j+1,⟨e,?_,?_,?_,?_,?_,?_⟩,?_,?_,by omega⟩;all_goals (first|(show _=false;simp only[go_sem,b,c,h,k,l,d];done)|skip)
  ·exact qe
  have F:=qr UH r @NA.{0,0} b c h k l d;exact qe
 obtain rfl:j=M.length:=by omega
 have t:=nl M.length;have q:M.take M.length=M:=NR;have F:=n4 t q b c h k l d;repeat refine st ?_
 refine bk [(9000,⟨2,M.map fe,146,true⟩)] ?_ ?_
 ·exact qe
 have F:=i' b c h k l d;exact rI
def wE(a b:Addr):cD×tD->AV
 |(r,none)=> .tuple [.agg [cf r.act,cf r.vars, .seq 2 (r.mem.map fe), .seq 2 (r.Z1.map c0),B r.over], .agg [cf r.outs, .seq 2 (r.Z7.map c0)],h9]
 |(_,some e)=> .tuple [.agg [cy,cy,cy,cy,B false], .agg [cy,cy],dt (-1) (cr a b (some e))]
def bn(x:nw):cD:=⟨x.1,x.2.1,x.2.2.1,x.2.2.2.1,x.2.2.2.2,[],[]⟩
def IP(env:b8)(l b e:Addr)(c:aq)(d now:Int)(E:AT env l b e c d now)(x:nw)(q:x.1.length<=100)(p:x.2.1.length<=4096)(n:x.2.2.1.length<=4096)(i: ∀m∈x.2.2.1,cU m.2.length 8)(o:cU x.2.2.2.1.length 24)(ts:List Nat)
 (h:b7 prog env 133 [Sg [109,105,99,114,111,46,83,116,101,112],aG c, .agg (hP x),I d] h9)
 (f:ip prog env 195 [1000,1001,1002,1003,1004,1005] (fun _=>false) (fun g=>[.loc 1000 (g 1000) 0 0, .seq 1 (ts.map aB)]) (RY c d now (bn x)) (RY c d now (bn x)) (fun _=>B true))
 (a:ip prog env 196 [1000,1001,1002,1003,1004,1005] ph (fun g=>[.loc 1000 (g 1000) 0 0, .seq 1 (ts.map aB)]) (RY c d now (bn x)) (RY c d now (lP c d now (bn x) ts).1) (fun _=>cr b e (lP c d now (bn x) ts).2)):
 b7 prog env 138 [aG c, .agg (hP x), .seq 1 (ts.map aB),I d,I now] (wE b e (lP c d now (bn x) ts)):=by
 have f1:=ay env c E.hs;have f2:=nM env x (by omega) p n i o;have f3:=sr env now;rw[Ni E.hn]at f3;unfold hP at h |-;unfold aG at f1 h |-;unfold aA at f1;unfold RY lf at f;obtain⟨A,V,M,T,O⟩:=x;unfold bn at f a |-;simp only at*;generalize lP c d now _ ts=X at*;refine qf func138 call138 ntmps138 results138 ?_;repeat refine jJ h ?_
 refine Ul [(8,9001),(11,9002),(14,9003)] f2 ?_
 iterate 9 (first|refine m9 ?_|refine Se f1 ?_)
 show fp _ _ _ _ _ _;refine TI 33 9004 0 5 3 1 ?_;refine TI 33 9005 0 6 50 2 ?_;repeat refine jJ f3 ?_
 refine Ul [(1000,33),(1001,9001),(1002,9002),(1003,9003),(1004,9004),(1005,9005)] f ?_;repeat refine m9 ?_
 rcases X with⟨r,_|⟨k,j⟩⟩
 ·unfold cr RY lf at a;simp only at a;unfold wE;have F:=ph.eq_1;repeat refine st ?_
  refine iL [(1000,33),(1001,9001),(1002,9002),(1003,9003),(1004,9004),(1005,9005)] a ?_;exact ek
 unfold cr RY lf at a;simp only at a;unfold wE cr;simp only;have f5:=i7 env [109,105,99,114,111,46,83,116,101,112] (j.headD (-1)) (gc j.tail (bx (if k=2 then b else e)));have F:=ph.eq_1;repeat refine st ?_
 refine iL [(1000,33),(1001,9001),(1002,9002),(1003,9003),(1004,9004),(1005,9005)] a ?_;exact hH f5
end
end Go.Proofs.YtfhkmjbjafeckaaGreatDoor
