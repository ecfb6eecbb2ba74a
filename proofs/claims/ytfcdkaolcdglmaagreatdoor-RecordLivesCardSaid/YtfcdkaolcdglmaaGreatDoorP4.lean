/- Calls by contract; regions, in whatever order. No program is named here. Regions: in the order of the text, and in whatever order. No program is named here. Regions whose order is open: every order ends as that of the text does. No program is named here. Walking without memory: the rules. No program is named here. Walking without memory: how each operation is met. No program is named here. Walking without memory: loops, by the slots and rows that live on. No program is named here. Walking without memory: calls, guards and the end of a drawn region, as scripts use them. No program is named here. Walking without memory: weaker arguments and weaker results. No program is named here. -/
import Derived.Test.YtfcdkaolcdglmaaGreatDoorP3
import Derived.Sort.LoopGhostIn
import Derived.OrdersIn
import Derived.RangeFuncCalls
set_option linter.unusedSimpArgs false
set_option linter.defProp false
namespace Go.Proofs.YtfcdkaolcdglmaaGreatDoor
open Go.RowKit
section
def Mw(S:Nat->Nat->Prop)(w:World)(base:Nat)(v:Value)(e:TypeId)(sz:Nat)(es:List (List AV)):Prop:=
 ∃l,w.ownsRow base e sz v es.length l/\0<sz/\D0 S w sz l es/\ ∀g,v.ownBlock=some g-> ∀o,¬S g o
def RR(S:Nat->Nat->Prop)(w:World)(base:Nat)(v:Value):AV->Prop
 | .own e b a=>Mw S w base v e b a
 |c=>RV S w v c
structure zE(env:b7)(S:Nat->Nat->Prop)(w:World):Prop where
 inv:env.inv w
 low: ∀b o,S b o->b<w.heap.size
 env: ∀g c,env g=some c-> ∃u,w.cell? ⟨g,0,none⟩=some u/\u.oneCell'=true/\S g 0/\RV S w u c
structure cy(P:Program)(env:b7)(f:FuncId)(cs:List AV)(res:AV):Prop where
 enter: ∀(args:Array Value)(w:World),(callFunc f args).run P w= .ok (.enter f args) w
 calls: ∀(w:World)(S:Nat->Nat->Prop)(vs:List Value),zE env S w->vs.length=cs.length->(∀(i:Nat)(v:Value)(c:AV),vs[i]? =some v->cs[i]? =some c->RV S w v c)->
  Calls P f vs.toArray w fun e w'=> ∃v,e= .returned v/\Below w.heap.size w w'/\ ∃S',(∀b o,S b o->S' b o)/\(∀b o,S' b o->S b o\/w.heap.size<=b)/\(∀b o,S' b o->b<w'.heap.size)/\RR S' w' w.heap.size v res
def Ub(d:Option Nat)(a:AV):Rd Out:=match a with
 | .own e f b=>match d with
   |some d=> .look d fun _ v=> .ret ⟨.row d (v+1),[.renew d ⟨f,b,e,true⟩]⟩
   |none=> .ret ⟨.any,[]⟩
 |c=> .ret ⟨c,[]⟩
def kk:List AV->Rd (List AV×List Nat)
 |[]=> .ret ([],[])
 |c::a=>(fz c).bind fun x=>(kk a).bind fun y=> .ret (x.1::y.1,x.2++y.2)
def seen(lend:Bool)(l:List Nat):List CT:=match lend with
 |true=>[]
 |false=>g4 l
def eB(lend:Bool)(d:Option Nat)(args:List AV)(a:AV):Rd Out:=(kk args).bind fun q=>(Ub d a).bind fun r=> .ret ⟨r.val,seen lend q.2++r.Z2⟩
structure UM(P:Program)(env:b7)(f:FuncId)(cs:List AV)(res:AV):Prop where
 enter: ∀(args:Array Value)(w:World),(callFunc f args).run P w= .ok (.enter f args) w
 calls: ∀(w:World)(S:Nat->Nat->Prop)(vs:List Value),zE env S w->vs.length=cs.length->(∀(i:Nat)(v:Value)(c:AV),vs[i]? =some v->cs[i]? =some c->RV S w v c)->
  Calls P f vs.toArray w fun e w'=> ∃v,e= .returned v/\Below w.heap.size w w'/\ ∃S',(∀b o,S' b o->w.heap.size<=b/\b<w'.heap.size)/\RR S' w' w.heap.size v res
def Mx(lend:Bool)(P:Program)(env:b7)(f:FuncId)(cs:List AV)(a:AV):Prop:=match lend with
 |true=>UM P env f cs a
 |false=>cy P env f cs a
def Mx.enter{lend:Bool}{P:Program}{env:b7}{f:FuncId}{cs:List AV}{a:AV}(h:Mx lend P env f cs a): ∀(args:Array Value)(w:World),(callFunc f args).run P w= .ok (.enter f args) w:=by
 cases lend
 ·exact cy.enter h
 exact UM.enter h
def RR.wider{S S':Nat->Nat->Prop}{w:World}{base:Nat}{v:Value}{c:AV}(a: ∀b o,S b o->S' b o)(d: ∀b o,base<=b->S' b o->S b o)(h:RR S w base v c):RR S' w base v c:=by
 cases c with
 | own e r q=>
   obtain⟨l,k,f,m,n⟩:=h;exact⟨l,k,f,m.mono fun b o i=>⟨a b o i, .rfl⟩,fun g j o p=>n g j o (d g o (bZ k j).1 p)⟩
 |_=>exact RV.mono (fun b o i=>⟨a b o i, .rfl⟩) h
def bI(a:List (List Value)):List (List AV):=a.map (·.map .lit)
structure K'(P:Program)(f:FuncId)(rest:List Value)(e:TypeId)(sz:Nat)(ls ls':List (List Value)):Prop where
 enter: ∀(args:Array Value)(w:World),(callFunc f args).run P w= .ok (.enter f args) w
 len:ls'.length=ls.length
 ZQ: ∀l∈ls',l.length=sz/\ ∀u∈l,u.oneCell'=true
 calls: ∀(w:World)(base:Nat)(v:Value),w.ownsRow base e sz v ls.length ls.flatten->
  Calls P f (v::rest).toArray w fun ex w'=>ex= .returned (.tuple #[])/\w.grownBy w' v.ownBlock/\w'.ownsRow base e sz v ls.length ls'.flatten
def fW{f:Type}{sz:Nat} : ∀(d:List (List f)),(∀l∈d,l.length=sz)-> ∀(i j:Nat)(l:List f)(u:f),d[i]? =some l->l[j]? =some u->d.flatten[i*sz+j]? =some u
 |[],_,i,j,l,u,h,_=>by simp at h
 | e::b,c,0,j,l,u,h,a=>by
   have h:e=l:=by simpa using h
   subst h;have m:j<e.length:=(OG.1 a).1;simp only[Ro,Qp,PR];rw[Oq m,a]
 | e::b,c,i+1,j,l,u,h,a=>by
   have h:b[i]? =some l:=by simpa using h
   have k:e.length=sz:=c e (by simp);have o:=fW b (fun l n=>c l (by simp[n])) i j l u h a;have g:(i+1)*sz+j-sz=i*sz+j:=by rw[P7,Q7];omega
   have p:sz<=(i+1)*sz+j:=by rw[P7,Q7];omega
   simp only[Ro];rw[Og (by omega),k,g];exact o
def eA{g:Type}{sz:Nat} : ∀(a:List (List g)),(∀l∈a,l.length=sz)->a.flatten.length=a.length*sz
 |[],_=>by simp
 | e::c,b=>by
   have:=eA c (fun l f=>b l (by simp[f]));have d:e.length=sz:=b e (by simp);simp only[Ro,ON,OU];rw[this,d,P7,Q7,SQ]
def BV{b:List (List Value)}{i j:Nat}{c:AV}(h:bt (bI b) i j=some c): ∃l u,b[i]? =some l/\l[j]? =some u/\c= .lit u:=by
 unfold bt bI at h;rw[OS]at h;cases d:b[i]? with
 |none=>rw[d]at h;cases h
 | some l=>
   rw[d]at h;simp only[O0,Oo,OS]at h;cases a:l[j]? with
   |none=>rw[a]at h;cases h
   |some u=>rw[a]at h;cases h;exact⟨l,u,rfl,a,rfl⟩
def Vt(P:Program)(env:b7)(f:FuncId)(cs:List AV)(d:List Nat)(rows:Nat->Option Row)(vsv:Nat->Nat)(b:Out):Prop:=
 (∀(args:Array Value)(w:World),(callFunc f args).run P w= .ok (.enter f args) w)/\
 ∀(x:rk)(s:St)(a:Act)(w:World)(m:k9)(g:List Value),x.env=env->dk x s a w m->(∀r∈d,s.rows r=rows r/\s.vs r=vsv r/\s.esc r=false)->g.length=cs.length->(∀(i:Nat)(v:Value)(c:AV),g[i]? =some v->cs[i]? =some c->RL w m s v c)->
  Calls P f g.toArray w fun e j=> ∃v h,e= .returned v/\dk x (dd b.Z2 s) a j h/\RL j h (dd b.Z2 s) v b.val
def bH(env:b7)(f:Nat->AV)(o:Oper):Option (FuncId×List AV):=match o.op with
 | .call { callee:= .value (.func g),args, .. } =>some (g,args.toList.map (gt env f))
 | .call { callee:= .value (.tmp t),args, .. } =>match f t with
   | .lit (.func (.func g) ⟨[]⟩ ⟨[]⟩)=>some (g,args.toList.map (gt env f))
   | .clo g a=>some (g,args.toList.map (gt env f)++a)
   |_=>none
 |_=>none
def Tv(P:Program)(env:b7)(o:Oper)(s:St)(a:Out)(h:ff):Prop:=
 match bH env s.f o with
 | some (f,args)=>(∃b q e,(kk (args)).run s=some q/\Mx b P env f q.1 e/\(eB b o.dst (args) e).run s=some a/\h=rQ (eB b o.dst (args) e) s a)\/
   (∃r row d i g,args= .row r (s.vs r)::d.map .lit/\s.rows r=some row/\row.sz≠0/\row.pure=true/\s.esc r=false/\row.es=bI i/\K' P f d row.e row.sz i g/\a=⟨.any,[.set r { row with es:=bI g }]⟩/\h=⟨[r],[r],[r],[]⟩)\/
   ∃c,Vt P env f (args) c s.rows s.vs a/\(∀r∈c,s.esc r=false)/\h=⟨c,c,o3 a.Z2,Es a.Z2⟩
 |none=>(aY P env s.f o).run s=some a/\h=rQ (aY P env s.f o) s a
def qj{s s':St}(a:s'.rows=s.rows)(b:s'.vs=s.vs): ∀cs:List AV,(kk cs).run s'=(kk cs).run s
 |[]=>rfl
 | c::cs=>by
   simp only[kk,Rd.run_bind,tG a b,qj a b cs];rfl
def w9{x:rk}{a:Act}{w:World} : ∀ {cs:List AV}{vs:List Value}{s:St}{m:k9}{y:List AV×List Nat},(kk cs).run s=some y->dk x s a w m->vs.length=cs.length->(∀(i:Nat)(v:Value)(c:AV),vs[i]? =some v->cs[i]? =some c->RL w m s v c)->
 ∃S',dk x (dd (g4 y.2) s) a w ⟨S',m.ρ⟩/\(∀b o,m.S b o->S' b o)/\y.1.length=cs.length/\ ∀(i:Nat)(v:Value)(c:AV),vs[i]? =some v->y.1[i]? =some c->RV S' w v c
 | [],vs,s,m,y,h,f,g,j=>by
   simp only[kk,Rd.run,OH]at h;subst h;exact⟨m.S,f,fun _ _ h=>h,rfl,fun i v c _ D=>by simp at D⟩
 |c::cs,[],s,m,y,h,f,g,j=>by simp at g
 | c::cs,v::vs,s,m,y,h,f,g,j=>by
   simp only[kk]at h;obtain⟨q,B,h⟩:=fd h;obtain⟨I,C,h⟩:=fd h;simp only[Rd.run,OH]at h;subst h;obtain⟨J,G,t,H⟩:=ou B f (j 0 v c rfl rfl);obtain⟨z,A,_⟩:=cd q.2 s;have l:(kk cs).run (dd (g4 q.2) s)=some I:=by rw[<-C];exact qj z A cs
   obtain⟨u,E,r,p3,p4⟩:=w9 l G (by simpa using g) (fun i p k e d=>(j (i+1) p k (by simpa using e) (by simpa using d)).shown q.2 t);refine⟨u,by simp only[g4,Oa,gs];exact E,fun b o n=>r b o (t b o n),by simp[p3],fun i p k e d=> ?_⟩;cases i with
   | zero=>
     simp only[PK,OH]at e d;subst e d;exact H.mono fun b o n=>⟨r b o n, .rfl⟩
   |succ i=>exact p4 i p k (by simpa using e) (by simpa using d)
section
variable {P:Program} {x:rk} {s:St} {a:Act} {w:World} {m:k9} {o:Oper} {out:Out}
theorem dk.envOk(h:dk x s a w m):zE x.env m.S w:=
 ⟨x.env.up _ _ h.ZU h.bel,h.low,fun g c i=>by
  obtain⟨u,d,e,b,f⟩:=h.env g c i
  exact⟨u,(h.bel.cell (p:=⟨g,0,none⟩) (h.ZV g 0 b)).trans d,e,h.ZR _ _ b,h.old f⟩⟩
theorem dk.called(h:dk x s a w m){w':World}{S':Nat->Nat->Prop}(d:Below w.heap.size w w')(e: ∀b o,m.S b o->S' b o)(f: ∀b o,S' b o->m.S b o\/w.heap.size<=b)(i: ∀b o,S' b o->b<w'.heap.size):dk x s a w' ⟨S',m.ρ⟩:=
 h.move rfl (d.mono h.bel.size) (fun b o c=>⟨e b o c,d.stay (h.low b o c)⟩) (fun b o c=>by
  rcases f b o c with k|k
  ·exact .inl k
  ·exact .inr ⟨k,i b o c⟩) (fun r row n g l=>by
  exact d.block g ((h.rows r row n).blk l).2) (fun b j=>d.block b (h.fxlt j))
theorem CO(h:dk x s a w m){base:Nat}(p:x.w.heap.size<=base)(R:x.fw.heap.size<=base)(y: ∀r row,s.rows r=some row-> ∀g,(m.ρ r).ownBlock=some g->g<base){d:Option Nat}{t:AV}{v:Value}(q:(Ub d t).run s=some out)(L:RR m.S w base v t):
 ∃m',dk x (dd out.Z2 s) a w m'/\RL w m' (dd out.Z2 s) v out.val:=by
 cases t with
 | own e S N=>
   cases d with
   | none=>
     simp only[Ub,Rd.run,OH]at q;subst q;exact⟨m,h, .val (.any _)⟩
   | some d=>
     simp only[Ub,Rd.run,OH]at q;subst q;obtain⟨l,B,z,D,K⟩:=L
     have E:=h.renew d ⟨S,N,e,true⟩ false v m.S (Oy _ _) (fun b o n=>⟨n, .rfl⟩) (fun b o n=> .inl n) (fun k A W I g H=>⟨rfl,fun n=>by
      have:=y k A I g H;have:=(bZ B n).1
      omega,fun o n=>n⟩)
      (.inl ⟨z,D.ZQ,⟨l,by simp only[aE];exact dG B p,D.one,fun i j c O=>by
       obtain⟨u,T,U⟩:=D.cell i j c O
       exact⟨u,T,by simpa using U⟩⟩,(fun Q=>by simp[St.renew,aE]at Q),(fun g f o _=>by
        simp only[aE]at f;exact K g f o),(fun _ g f o=>by
        simp only[aE]at f
        exact K g f o)⟩) (fun b G=>⟨rfl,fun _ n=>n,fun e=>by
        have:=(bZ B e).1;have:=(h.fix b G).1
        omega⟩)
     have C:v.oneCell'=true:=by
      rcases B.2 with⟨J,_⟩|⟨g,V,M,J,_⟩<;>rw[J]<;>rfl
     exact⟨_,E, .row d (s.vs d+1) C (by simp[dd,CT.app,St.renew,aE]) fun _ row q=>by simp[aE]⟩
 | _=>
   simp only[Ub,Rd.run,OH]at q;subst q;exact⟨m,h, .val L⟩
theorem x8{f:FuncId}{args:Array Operand}{b:Array TypeId}{t:TypeId} :(resolve a.eval { callee:= .value (.func f),args,argTypes:=b } t).run P w= .ok { target:= .fn (.func f) #[],args:=args.map a.eval } w:=by
 simp[resolve,Act.eval,Deferred.ofValue]
theorem qQ{g t:Nat}{args:Array Operand}{c:Array TypeId}{d:TypeId}{cap:Array Value}(b:a.tmps.getD t undef= .func (.func g) #[] cap):(resolve a.eval { callee:= .value (.tmp t),args,argTypes:=c } d).run P w= .ok { target:= .fn (.func g) cap,args:=args.map a.eval } w:=by
 have e:a.eval (.tmp t)= .func (.func g) #[] cap:=b;simp only[resolve,e,Deferred.ofValue];simp
theorem ym(f:dk x s a w m)(args:List Operand)(i:Nat)(v:Value)(c:AV)(b:(args.map a.eval)[i]? =some v)(d:(args.map (gt x.env s.f))[i]? =some c):RL w m s v c:=by
 rw[OS]at b d;cases e:args[i]? with
 |none=>rw[e]at b;cases b
 | some y=>
   rw[e]at b d;cases b;cases d;exact ao f y
theorem pz{f:FuncId}{cs:List AV}(j:dk x s a w m)(h:bH x.env s.f o=some (f,cs))(q: ∀(u:Array Value)(w:World),(callFunc f u).run P w= .ok (.enter f u) w):
 ∃vs:List Value,vs.length=cs.length/\(∀(i:Nat)(v:Value)(c:AV),vs[i]? =some v->cs[i]? =some c->RL w m s v c)/\(execOp a.eval o).run P w= .ok (.enter f vs.toArray) w:=by
 unfold bH at h;split at h
 ·rename_i C b B l;cases h;refine⟨b.toList.map a.eval,by simp,ym j _,?_⟩;unfold execOp;simp only[l,Oc,x8,OX,invoke];rw[show (b.toList.map a.eval).toArray=b.map a.eval by rw[<-Sa,PP]];simpa using q (b.map a.eval) w
 ·rename_i t b B l;split at h
  ·rename_i g r;cases h;have e:=j.slot t;rw[r]at e;have e:a.tmps.getD t undef= .func (.func f) #[] #[]:=e.lit_;refine⟨b.toList.map a.eval,by simp,ym j _,?_⟩;unfold execOp;simp only[l,Oc,qQ e,OX,invoke];rw[show (b.toList.map a.eval).toArray=b.map a.eval by rw[<-Sa,PP]];simpa using q (b.map a.eval) w
  ·rename_i g y r;cases h;have e:=j.slot t;rw[r]at e;obtain⟨n,e,z,A⟩:=e.clo_;refine⟨b.toList.map a.eval++n,by simp[z],fun i v c k d=> ?_,?_⟩
   ·rw[List.getElem?_append]at k d;simp only[O4]at k d;split at k
    ·rename_i p;rw[OL p]at d;exact ym j _ i v c k d
    rename_i p;rw[OK p]at d;exact A _ v c k d
   unfold execOp;simp only[l,Oc,qQ e,OX,invoke];rw[show (b.toList.map a.eval++n).toArray=b.map a.eval++n.toArray by apply Array.toList_inj.1;simp];exact q (b.map a.eval++n.toArray) w
  cases h
 cases h
theorem CV{f:FuncId}{args:List AV}{r:Nat}{row:Row}{rest:List Value}{h d:List (List Value)}(A:dk x s a w m)(hd: ∀t,o.dst=some t->t<x.nt)(hc:bH x.env s.f o=some (f,args))
 (e1:args= .row r (s.vs r)::rest.map .lit)(N:s.rows r=some row)(hrz:row.sz≠0)(e3:row.pure=true)(e4:s.esc r=false)(Z:row.es=bI h)(M:K' P f rest row.e row.sz h d){K:Act->World->Prop}{Q:Exit->Act->World->Prop}
 (hK: ∀a' w' m',dk x ((⟨.any,[.set r { row with es:=bI d }]⟩:Out).app o.dst s) a' w' m'->K a' w'):o.wp P a w K Q:=by
 obtain⟨Y,n,T,H⟩:=pz (P:=P) A hc M.enter;unfold Oper.wp;rw[H];show Calls P f _ w _
 have E:Y=m.ρ r::rest:=by
  subst e1
  match Y,n with
  | u::Y,n=>
    simp only[OU,O4,Nat.add_right_cancel_iff]at n;refine List.cons_eq_cons.2 ⟨(T 0 u _ rfl rfl).row_.2 rfl row N,?_⟩;apply PM;intro i;cases B:Y[i]? with
    |none=>exact(OT (by rw[<-n];exact List.getElem?_eq_none_iff.1 B)).symm
    | some v=>
      have S:i<rest.length:=by rw[<-n];exact(OG.1 B).1
      have:=T (i+1) v (.lit rest[i]) (by simpa using B) (by simp[S]);rw[this.lit_,OE S]
 rw[E];have k:=(A.rows r row N).cells hrz;obtain⟨xs,X,k2,k3⟩:=k.own;have hn:row.es.length=h.length:=by rw[Z];simp[bI]
 have J: ∀l∈h,l.length=row.sz:=fun l z=>by
  obtain⟨i,B,rfl⟩:=Pe z;have:=k.len i ((h[i]).map .lit) (by rw[Z];simp[bI,B]);simpa using this
 have hx:xs=h.flatten:=by
  apply PM;intro p;have hfl:=eA h J;have hxl:xs.length=h.length*row.sz:=by rw[<-hn];exact X.1
  by_cases hp:p<h.length*row.sz
  ·have B:p/row.sz<h.length:=RH (by rw[QU];exact hp);have hj:p%row.sz<row.sz:=Rt _ k.pos;have hpq:p/row.sz*row.sz+p%row.sz=p:=R8 p row.sz;have z:=J _ (PV B);have R:(h[p/row.sz])[p%row.sz]? =some ((h[p/row.sz])[p%row.sz]'(by omega)):=OE _;have U:=fW h J _ _ _ _ (OE B) R
   obtain⟨u,V,h3⟩:=k3 (p/row.sz) (p%row.sz) (.lit ((h[p/row.sz])[p%row.sz]'(by omega))) (by
    rw[Z];unfold bt bI;rw[OS,OE B]
    simp only[O0,Oo,OS,R])
   rw[hpq]at U V;rw[OL e3]at h3;have:u=(h[p/row.sz])[p%row.sz]'(by omega):=by cases h3;rfl
   rw[U,V,this]
  rw[OT (by omega),OT (by omega)]
 rw[hx,hn]at X;refine(M.calls w x.w.heap.size (m.ρ r) X).mono ?_;rintro ex w' ⟨rfl,C,ho⟩;show K (a.put o.dst (.tuple #[])) w'
 have hb:Below x.w.heap.size w w':=⟨C.os,C.tape,C.output,C.size,fun q W=>C.block q (PX W A.bel.size) fun e=>by
  have:=(bZ X e.symm).1
  omega⟩
 have L: ∀g,(m.ρ r).ownBlock=some g-> ∀o,¬m.S g o:=k.fresh e4;have G: ∀b o,m.S b o->k0 w w' b o:=fun b o hh=> .block (C.block b (A.low b o hh) fun e=>L b e.symm o hh)
 have hS2:dk x (s.setRow r { row with es:=bI d }) a w' m:=by
  refine A.reset r row _ N rfl hb G (fun q D hne W gq O=> ?_) ?_ fun b hf=>C.block b (A.fxlt hf) fun e=>A.Z3 r row N b e.symm hf
  ·exact C.block gq ((A.rows q D W).blk O).2 fun e=>A.inj r q row D N W (Py hne) gq e.symm O
  have hel: ∀(i:Nat)(e:List AV),(bI d)[i]? =some e->e.length=row.sz:=fun i e y=>by
   unfold bI at y;rw[OS]at y;cases z:d[i]? with
   |none=>rw[z]at y;cases y
   | some l=>
     rw[z]at y;cases y;simpa using (M.ZQ l (OM z)).1
  have hll:(bI d).length=h.length:=by unfold bI;rw[O4];exact M.len
  refine .inl ⟨k.pos,hel,⟨d.flatten,by show w'.ownsRow _ _ _ _ (bI d).length _;rw[hll];exact ho,?_,?_⟩,fun y=>(by simp only[St.setRow]at y;rw[e4]at y;cases y),?_,fun _ g I o=>L g I o⟩
  ·intro u hu;obtain⟨l,z,n⟩:=TP.1 hu;exact(M.ZQ l z).2 u n
  ·intro i j c hcc;obtain⟨l,u,U,V,rfl⟩:=BV hcc;refine⟨u,fW d (fun l z=>(M.ZQ l z).1) i j l u U V,?_⟩;show if row.pure=true then _ else _
   rw[OL e3];exact .lit u
  exact fun g I o _=>L g I o
 exact hK _ _ m (hS2.put o.dst hd (.val (.any _)))
theorem wo{ft:ff}(i:dk x s a w m)(H: ∀t,o.dst=some t->t<x.nt)(h:Tv P x.env o s out ft){K:Act->World->Prop}{Q:Exit->Act->World->Prop}
 (D: ∀X w' m',dk x (out.app o.dst s) X w' m'->K X w'):o.wp P a w K Q:=by
 unfold Tv at h;cases G:bH x.env s.f o with
 | none=>
   rw[G]at h;obtain⟨nx,w',m',v,C,n,l,h4⟩:=Db (P:=P) i h.1;have E:=l.put o.dst H h4;unfold Oper.wp;rw[C];rcases n with rfl|⟨rfl,rfl⟩
   ·exact D _ _ _ E
   exact D _ _ _ E
 | some fa=>
   obtain⟨f,args⟩:=fa;rw[G]at h;rcases h with⟨J,q,B,C,n,l,_⟩|⟨r,row,rest,ls,ls',e1,e2,T,e3,e4,e5,hT,rfl,_⟩|⟨ids,Y,he,_⟩
   rotate_left
   ·exact CV i H G e1 e2 T e3 e4 e5 hT D
   ·obtain⟨L,j,A,d⟩:=pz (P:=P) i G Y.1;unfold Oper.wp;rw[d];show Calls P f _ w _;refine(Y.2 x s a w m L rfl i (fun r N=>⟨rfl,rfl,he r N⟩) j A).mono ?_;rintro e w' ⟨v,m',rfl,C,n⟩;exact D _ _ _ (C.put o.dst H n)
   obtain⟨L,j,A,d⟩:=pz (P:=P) i G n.enter;obtain⟨W,R,q2,Z,q4⟩:=w9 (vs:=L) C i j A;unfold eB at l;obtain⟨q',I,l⟩:=fd l;obtain⟨r,N,l⟩:=fd l;rw[C]at I;cases I;simp only[Rd.run,OH]at l;subst l;unfold Oper.wp;rw[d];show Calls P f _ w _;cases J with
   | false=>
     have c:=cy.calls n w W L R.envOk (by rw[Z];exact j) q4;refine c.mono ?_;rintro e w' ⟨v,rfl,M,S,O,p2,p3,p4⟩;show K (a.put o.dst v) w';have p:=R.called M O p2 p3;obtain⟨er,ev,_⟩:=cd q.2 s
     have V:(Ub o.dst B).run (dd (g4 q.2) s)=some r:=by
      rw[<-N];cases B with
      |own e sz es=>cases o.dst<;>simp only[Ub,Rd.run,ev]
      |_=>rfl
     obtain⟨m',u,y⟩:=CO p (base:=w.heap.size) i.bel.size i.ZX (fun r row z g U=>by
      exact((R.rows r row z).blk U).2) V p4
     have E:=u.put o.dst H y;refine D _ _ m' ?_;unfold Out.app;simp only[seen,gs];exact E
   | true=>
     have c:=UM.calls n w W L R.envOk (by rw[Z];exact j) q4;refine c.mono ?_;rintro e w' ⟨v,rfl,M,S,O,p4⟩;show K (a.put o.dst v) w';have p:=i.called M (S':=fun b o=>m.S b o\/S b o) (fun _ _ h=> .inl h) (fun b o h=>h.elim .inl fun k=> .inr (O b o k).1) (fun b o h=>h.elim (fun k=>PX (i.low b o k) M.size) fun k=>(O b o k).2);have p5:RR (fun b o=>m.S b o\/S b o) w' w.heap.size v B:=p4.wider (fun _ _ h=> .inr h) fun b o hbo h=>h.elim (fun k=>by have:=i.low b o k;omega) fun k=>k
     obtain⟨m',u,y⟩:=CO p (base:=w.heap.size) i.bel.size i.ZX (fun r row z g U=>by
      exact((i.rows r row z).blk U).2) N p5
     have E:=u.put o.dst H y;refine D _ _ m' ?_;unfold Out.app;simp only[seen,QE];exact E
end
/-! Results that lean on no memory -/
def be:AV->Bool
 | .any | .lit _=>true
 | .agg cs | .tuple cs=>flats cs
 | .iface _ c=>be c
 | .own _ _ es=>flatss es
 |_=>false
where
 flats:List AV->Bool
  |[]=>true
  |c::cs=>be c&&flats cs
 flatss:List (List AV)->Bool
  |[]=>true
  |e::es=>flats e&&flatss es
def ow: ∀ {cs:List AV},be.flats cs=true-> ∀(i:Nat)(c:AV),cs[i]? =some c->be c=true
 |[],_,i,c,a=>by simp at a
 | d::cs,h,i,c,a=>by
   simp only[be.flats,OJ]at h;cases i with
   |zero=>simp at a;subst a;exact h.1
   |succ i=>exact ow h.2 i c (by simpa using a)
def wb: ∀ {es:List (List AV)},be.flatss es=true-> ∀(i:Nat)(e:List AV),es[i]? =some e->be.flats e=true
 |[],_,i,c,a=>by simp at a
 | d::es,h,i,c,a=>by
   simp only[be.flatss,OJ]at h;cases i with
   |zero=>simp at a;subst a;exact h.1
   |succ i=>exact wb h.2 i c (by simpa using a)
def cA{a:Type}{f:a->List AV}(h: ∀x,be.flats (f x)=true): ∀l:List a,be.flatss (l.map f)=true
 |[]=>by simp[be.flatss]
 |x::l=>by simp only[PE,be.flatss,h x,cA h l,Bool.and_self]
def RV.flat{S S':Nat->Nat->Prop}{w w':World}{v:Value}{c:AV}(h:RV S w v c)(b:be c=true):RV S' w' v c:=by
 induction h with
 |any v=>exact .any v
 |lit v=>exact .lit v
 |agg g e h j k d=>exact .agg g e h j fun i v c f a=>d i v c f a (ow (by simpa only[be]using b) i c a)
 |tuple g e h k d=>exact .tuple g e h fun i v c f a=>d i v c f a (ow (by simpa only[be]using b) i c a)
 |iface t v c h d=>exact .iface t v c (d (by simpa only[be]using b))
 |seq=>simp[be]at b
 |ref=>simp[be]at b
 |clo=>simp[be]at b
 |fmap=>simp[be]at b
 |full=>simp[be]at b
 |news=>simp[be]at b
def cy.lend{P:Program}{env:b7}{f:FuncId}{cs:List AV}{a:AV}(h:cy P env f cs a)(m:be a=true):UM P env f cs a:=by
 refine⟨h.enter,fun w S A b x z=>(h.calls w S A b x z).mono ?_⟩;rintro e B ⟨v,rfl,t,o,_,_,_,n⟩;refine⟨v,rfl,t,fun _ _=>False,fun _ _ h=>h.elim,?_⟩;cases a with
 | own e C q=>
   obtain⟨l,y,g,b,_⟩:=n;refine⟨l,y,g,⟨b.len,b.one,b.ZQ,fun i j c d=> ?_⟩,fun _ _ _ h=>h⟩;obtain⟨u,r,s⟩:=b.cell i j c d;refine⟨u,r,s.flat ?_⟩;unfold bt at d;cases k:q[i]? with
   |none=>rw[k]at d;cases d
   | some p=>
     rw[k]at d;exact ow (wb (by simpa only[be]using m) i p k) j c d
 |_=>exact RV.flat (show RV o B v _ from n) m
end
section
inductive Gd where
 |always
 |on (t:Nat) (want:Bool)
 |bad
def kp(ops:Array Oper)(o:Oper):Gd:=match o.guard with
 |none=> .always
 | some (j,a)=>match (ops[j]?).bind (·.dst) with
   |some t=> .on t a
   |none=> .bad
def zR:Value->Option Bool
 | .bool b=>some b
 |_=>none
def DQ(v:Value)(a:Bool):Bool:=match v with
 | .bool b=>b==a
 |_=>false
def Im(v:Value)(a:Bool):(zR v==some a)=DQ v a:=by
 unfold DQ zR;cases v<;>(try rfl)
def KK(P:Program)(env:b7)(g:Gd)(o:Oper)(s s':St)(c:ff):Prop:=match g with
 | .always=> ∃a,Tv P env o s a c/\s'=a.app o.dst s
 | .on t b=> ∃v,s.f t= .lit v/\if DQ v b=true then ∃a,Tv P env o s a c/\s'=a.app o.dst s else s'=s.put o.dst (.lit undef)/\c=eU
 | .bad=>False
/-! Where code is walked: in a function's frame, or in a round of a range over a function -/
def UX:Option Nat->Fence
 |none=> .wide
 |some l=>Fence.wide.inRound l
section
variable {P:Program} {ro:Option Nat}
theorem Hu:(UX ro).round=ro:=by cases ro<;>rfl
theorem LB(f:FuncId):(UX ro).fn f:=by cases ro<;>exact trivial
theorem Hv:(UX ro).depth=none:=by cases ro<;>rfl
theorem Hw{n:Nat}{f:FuncId}{args:Array Value}{w:World}{R:Ending->World->Prop}(h:Calls P f args w R):CallsIn (UX ro) n P f args w R:=by
 cases ro with
 |none=>exact TV.2 h
 |some l=>exact CallsIn.inRound l (TV.2 h)
theorem Jx{n:Nat}{row:String}{args:Array Value}{w:World}{R:Value->World->Prop}(h:Rows P row args w R):RowsIn (UX ro) n P row args w R:=fun c b _=>by
 obtain⟨v,e,d,a⟩:=h c b;refine⟨v,e,d,?_⟩;cases ro with
 |none=>exact stepsIn_wide.2 a
 |some l=>exact stepsIn_wide.2 a
theorem Mi{o:Oper}{a:Act}{w:World}{K:Act->World->Prop}{Q:Exit->Act->World->Prop}(d: ∀c,o.op≠ .defer c)(h:o.wp P a w K Q):o.wpIn (UX ro) 3 P a w K Q:=by
 unfold Oper.wpIn;refine⟨fun f _=>LB f,?_⟩
 have e:o.semAt (UX ro).round a.eval=execOp a.eval o:=by
  rw[Hu];exact Oper.semAt_eq ro a.eval o d
 rw[e];unfold Oper.wp at h;have b: ∀ {p:Prop},((UX ro).depth.isSome=true->p):=fun {p} h=>by rw[Hv]at h;cases h
 generalize (execOp a.eval o).run P w=r at h;cases r with
 | ok x g=>
   cases x<;>simp only[Oper.upon,Oper.uponIn]at h |- <;>
    first
     |exact h
     |exact⟨b,Hw h⟩
     |exact⟨b,Jx h⟩
 |halt x g=>cases x<;>simp only[Oper.upon,Oper.uponIn]at h |- <;>exact h
end
def Tv.plain{P:Program}{env:b7}{o:Oper}{s:St}{a:Out}{d:ff}(h:Tv P env o s a d)(c:Call):o.op≠ .defer c:=fun b=>by
 unfold Tv bH at h;rw[b]at h;unfold aY at h;rw[b]at h;simp[Rd.run]at h
section
variable {P:Program} {x:rk} {s s':St} {a:Act} {w:World} {m:k9} {o:Oper} {ops:Array Oper} {Q:Exit->Act->World->Prop} {ro:Option Nat}
theorem qJ{i:Nat}{I:ff}(hi:ops[i]? =some o)(r:dk x s a w m)(B: ∀t,o.dst=some t->t<x.nt)(h:KK P x.env (kp ops o) o s s' I){K:Act->World->Prop}
 (z: ∀G w' m',dk x s' G w' m'->K G w'):wpOpIn (UX ro) 3 P ops Q i K a w:=by
 unfold wpOpIn;rw[hi];simp only
 have C: ∀t c,kp ops o= .on t c-> ∀v,s.f t= .lit v->Region.wanted o (yielded ops a.tmps)=DQ v c:=fun t c d v A=>by
  unfold kp at d;cases e:o.guard with
  |none=>rw[e]at d;cases d
  | some H=>
    obtain⟨j,E⟩:=H;rw[e]at d;simp only at d;cases l:(ops[j]?).bind (·.dst) with
    |none=>rw[l]at d;cases d
    | some L=>
      rw[l]at d;cases d;have q:=r.slot t;rw[A]at q;have k:=q.lit_;unfold Region.wanted;rw[e]
      have J:yielded ops a.tmps j=zR v:=by
       unfold yielded;rw[l];rw[PO]at k;cases y:a.tmps[t]? with
       | none=>
         rw[y]at k;have k:undef=v:=k;subst k;simp[y,undef,zR]
       | some u=>
         rw[y]at k;have k:u=v:=k;subst k;simp only[Oo,y];cases u<;>rfl
      simp only[J];exact Im v c
 have p:kp ops o= .always->Region.wanted o (yielded ops a.tmps)=true:=fun d=>by
  unfold kp at d;cases e:o.guard with
  |none=>simp[Region.wanted,e]
  | some H=>
    rw[e]at d;simp only at d;split at d<;>cases d
 cases d:kp ops o with
 | always=>
   rw[d]at h;obtain⟨D,n,rfl⟩:=h;rw[OL (p d)];exact Mi n.plain (wo r B n z)
 |bad=>rw[d]at h;exact h.elim
 | on t c=>
   rw[d]at h;obtain⟨b,A,h⟩:=h;rw[C t c d b A];by_cases g:DQ b c=true
   ·rw[OL g]at h;obtain⟨D,n,rfl⟩:=h;rw[OL g];exact Mi n.plain (wo r B n z)
   rw[OK g]at h;obtain⟨rfl,_⟩:=h;rw[OK g];exact⟨fun f _=>LB f,z _ _ _ (r.put o.dst B (.val (.lit _)))⟩
end
/-! Operations change places -/
def mE{ops:Array Oper}{o:Oper}{t:Nat}(h:t∉o.looksAt ops): ∀y∈o.op.operands,y≠ .tmp t:=fun y a e=>by
 subst e;exact h (PN _ (List.mem_filterMap.2 ⟨.tmp t,by simpa using a,rfl⟩))
def xn{env:b7}{f f':Nat->AV}(o:Oper)(h: ∀y∈o.op.operands,gt env f' y=gt env f y):bH env f' o=bH env f o:=by
 obtain⟨d,j,m,k,after,guard⟩:=o;cases j with
 | call c=>
   obtain⟨a,args,l⟩:=c;cases a with
   | value y=>
     have b:args.toList.map (gt env f')=args.toList.map (gt env f):=Po fun z i=>h z (by simp[Op.operands,Call.operands];exact .inr (by simpa using i));cases y with
     | tmp t=>
       have e:f' t=f t:=h (.tmp t) (by simp[Op.operands,Call.operands]);simp only[bH,e,b]
     |func g=>simp only[bH,b]
     |_=>rfl
   |_=>rfl
 |_=>rfl
def Tv.frame{P:Program}{env:b7}{o:Oper}{s g:St}{z:Out}{B:ff}(h:Tv P env o s z B)(K: ∀y∈o.op.operands,gt env g.f y=gt env s.f y)
 (p: ∀r∈B.rd,g.rows r=s.rows r/\g.vs r=s.vs r)(t: ∀r∈B.re,g.esc r=s.esc r):Tv P env o g z B:=by
 unfold Tv at h |-;rw[xn (env:=env) (f:=s.f) (f':=g.f) o K];cases J:bH env s.f o with
 | none=>
   rw[J]at h;obtain⟨T,U⟩:=h;have X:aY P env g.f o=aY P env s.f o:=Dc o K;simp only[X];subst U;have:=Rd.frame (aY P env s.f o) s g p t;exact⟨this.1.trans T,by simp only[rQ,this.2]⟩
 | some S=>
   obtain⟨f,args⟩:=S;rw[J]at h;rcases h with⟨c,q,i,k1,k2,k3,k4⟩|⟨r,row,A,ls,G,L,M,C,N,O,Q,W,R,rfl⟩|⟨E,I,u,rfl⟩
   rotate_left
   rotate_left
   ·refine .inr (.inr ⟨E,?_,fun r b=>(t r b).trans (u r b),rfl⟩);exact⟨I.1,fun x s' a w m vs hx V b Y Z=>I.2 x s' a w m vs hx V (fun r e=>⟨(b r e).1.trans (p r e).1,(b r e).2.1.trans (p r e).2,(b r e).2.2⟩) Y Z⟩
   rotate_left
   ·have b:=p r (by simp);have D:=t r (by simp);refine .inr (.inl ⟨r,row,A,ls,G,?_,b.1.trans M,C,N,D.trans O,Q,W,R,rfl⟩);rw[b.2, <-L]
   subst k4;have d:=Rd.frame (eB c o.dst args i) s g p t
   have v: ∀r∈((kk args).log s).1,r∈((eB c o.dst args i).log s).1/\True:=fun r b=>⟨by
    unfold eB;generalize kk args=H at b |-
    induction H with
    |ret a=>simp[Rd.log]at b
    |fail=>simp[Rd.log]at b
    | look q k n=>
      simp only[Rd.log,O7]at b;simp only[Rd.bind,Rd.log,O7];rcases b with b|b
      ·exact .inl b
      exact .inr (n _ _ b)
    | esc q k n=>
      simp only[Rd.log]at b;simp only[Rd.bind,Rd.log]
      exact n _ b,trivial⟩
   have l: ∀r∈((kk args).log s).2,r∈((eB c o.dst args i).log s).2:=fun r b=>by
    unfold eB;generalize kk args=H at b |-
    induction H with
    |ret a=>simp[Rd.log]at b
    |fail=>simp[Rd.log]at b
    | look q k n=>
      simp only[Rd.log]at b;simp only[Rd.bind,Rd.log];exact n _ _ b
    | esc q k n=>
      simp only[Rd.log,O7]at b;simp only[Rd.bind,Rd.log,O7];rcases b with b|b
      ·exact .inl b
      exact .inr (n _ b)
   have j:=Rd.frame (kk args) s g (fun r b=>p r (v r b).1) (fun r b=>t r (l r b));exact .inl ⟨c,q,i,j.1.trans k1,k2,d.1.trans k3,by simp only[rQ,d.2]⟩
def ff.apart_spec{f g:ff}(h:f.apart g=true):
 (∀r∈f.wr,r∉g.rd/\r∉g.re/\r∉g.wr/\r∉g.we)/\(∀r∈g.wr,r∉f.rd/\r∉f.re/\r∉f.wr/\r∉f.we)/\(∀r∈f.we,r∉g.re)/\(∀r∈g.we,r∉f.re):=by
 simp only[ff.apart,OJ]at h;obtain⟨⟨⟨b,c⟩,d⟩,e⟩:=h;refine⟨fun r a=>⟨fun q=>eK b a ?_,fun q=>eK b a ?_,fun q=>eK b a ?_,fun q=>eK b a ?_⟩,fun r a=>⟨fun q=>eK c a ?_,fun q=>eK c a ?_,fun q=>eK c a ?_,fun q=>eK c a ?_⟩,fun r a q=>eK d a q,fun r a q=>eK e a q⟩<;>simp[q]
def Tv.foot{P:Program}{env:b7}{o:Oper}{s:St}{a:Out}{b:ff}(h:Tv P env o s a b):b.wr=o3 a.Z2/\b.we=Es a.Z2:=by
 unfold Tv at h;cases c:bH env s.f o with
 |none=>rw[c]at h;obtain⟨_,rfl⟩:=h;exact⟨rfl,rfl⟩
 | some j=>
   rw[c]at h;rcases h with⟨d,q,i,_,_,_,rfl⟩|⟨r,row,e,k,g,_,_,_,_,_,_,_,rfl,rfl⟩|⟨f,_,_,rfl⟩
   ·exact⟨rfl,rfl⟩
   ·exact⟨rfl,rfl⟩
   exact⟨rfl,rfl⟩
structure VG(s s':St)(d:Option Nat)(ft:ff):Prop where
 ex: ∃l c,s'=(dd l s).put d c/\o3 l=ft.wr/\Es l=ft.we
def VG.f{s s':St}{d:Option Nat}{a:ff}(h:VG s s' d a)(t:Nat)(b:d≠some t):s'.f t=s.f t:=by
 obtain⟨l,c,rfl,_,_⟩:=h.ex;rw[Ni _ _ _ _ b,N3]
def VG.rows{s s':St}{d:Option Nat}{a:ff}(h:VG s s' d a)(r:Nat)(e:r∉a.wr):s'.rows r=s.rows r/\s'.vs r=s.vs r:=by
 obtain⟨l,c,rfl,b,_⟩:=h.ex;obtain⟨f,g,_⟩:=BD (dd l s) d c;rw[f,g];exact IL l s r (by rw[b];exact e)
def VG.esc{s s':St}{d:Option Nat}{a:ff}(h:VG s s' d a)(r:Nat)(g:r∉a.wr)(b:r∉a.we):s'.esc r=s.esc r:=by
 obtain⟨l,c,rfl,e,f⟩:=h.ex;obtain⟨_,_,p3⟩:=BD (dd l s) d c;rw[p3];exact K3 l s r (by rw[e];exact g) (by rw[f];exact b)
def KK.did{P:Program}{env:b7}{g:Gd}{o:Oper}{s s':St}{c:ff}(h:KK P env g o s s' c):VG s s' o.dst c:=by
 have d:(∃a,Tv P env o s a c/\s'=a.app o.dst s)->VG s s' o.dst c:=fun⟨a,e,i⟩=>⟨a.Z2,a.val,i,(Tv.foot e).1.symm,(Tv.foot e).2.symm⟩;cases g with
 |always=>exact d h
 | on t f=>
   obtain⟨b,_,h⟩:=h;split at h
   ·exact d h
   obtain⟨rfl,rfl⟩:=h;exact⟨[], .lit undef,rfl,rfl,rfl⟩
 |bad=>exact h.elim
def KK.swap{P:Program}{env:b7}{ops:Array Oper}{g n:Oper}{s u I:St}{o x:ff}(p:KK P env (kp ops n) n s u x)(hi:KK P env (kp ops g) g u I o)
 (M:g.apart ops n=true)(O:o.apart x=true): ∃H,KK P env (kp ops g) g s H o/\KK P env (kp ops n) n H I x:=by
 obtain⟨a1,a2,a3⟩:=Oper.apart_spec M;obtain⟨f1,f2,f3,f4⟩:=ff.apart_spec O;have J:=p.did;have di:=hi.did
 have V: ∀y∈g.op.operands,gt env s.f y=gt env u.f y:=fun y T=>by
  cases y with
  |tmp t=>exact(J.f t (fun e=>mE (ops:=ops) (a3 t e) _ T rfl)).symm
  |_=>rfl
 have gi: ∀t d,kp ops g= .on t d->s.f t=u.f t:=fun t d f=>by
  refine(J.f t fun e=>a3 t e ?_).symm;unfold kp at f;cases i:g.guard with
  |none=>rw[i]at f;cases f
  | some U=>
    obtain⟨q,C⟩:=U;rw[i]at f;simp only at f;cases j:(ops[q]?).bind (·.dst) with
    |none=>rw[j]at f;cases f
    | some t'=>
      rw[j]at f;cases f;simp[Oper.looksAt,i,j]
 have gj: ∀(s':St),VG s s' g.dst o-> ∀t d,kp ops n= .on t d->s'.f t=s.f t:=fun s' d' t d f=>by
  refine d'.f t fun e=>a1 t e ?_;unfold kp at f;cases i:n.guard with
  |none=>rw[i]at f;cases f
  | some U=>
    obtain⟨q,C⟩:=U;rw[i]at f;simp only at f;cases j:(ops[q]?).bind (·.dst) with
    |none=>rw[j]at f;cases f
    | some t'=>
      rw[j]at f;cases f;simp[Oper.looksAt,i,j]
 have first: ∃(l:List CT) (c:AV),I=(dd l u).put g.dst c/\o3 l=o.wr/\Es l=o.we/\KK P env (kp ops g) g s ((dd l s).put g.dst c) o:=by
  have D:(∃a,Tv P env g u a o/\I=a.app g.dst u)-> ∃(l:List CT) (c:AV),I=(dd l u).put g.dst c/\o3 l=o.wr/\Es l=o.we/\ ∃a,Tv P env g s a o/\(dd l s).put g.dst c=a.app g.dst s:=fun⟨a,z,L⟩=>by
   refine⟨a.Z2,a.val,L,(Tv.foot z).1.symm,(Tv.foot z).2.symm,a,z.frame V (fun r m=> ?_) (fun r m=> ?_),rfl⟩
   ·have:=J.rows r (fun q=>(f2 r q).1 m);exact⟨this.1.symm,this.2.symm⟩
   exact(J.esc r (fun q=>(f2 r q).2.1 m) (fun q=>f4 r q m)).symm
  cases f:kp ops g with
  | always=>
    rw[f]at hi;obtain⟨l,c,X,Y,Z,q4⟩:=D hi;exact⟨l,c,X,Y,Z,q4⟩
  | on t d=>
    rw[f]at hi;obtain⟨b,N,hi⟩:=hi;have E:s.f t= .lit b:=by rw[gi t d f];exact N
    by_cases h:DQ b d=true
    ·rw[OL h]at hi;obtain⟨l,c,X,Y,Z,q4⟩:=D hi;exact⟨l,c,X,Y,Z,b,E,by rw[OL h];exact q4⟩
    rw[OK h]at hi;obtain⟨rfl,rfl⟩:=hi;exact⟨[], .lit undef,rfl,rfl,rfl,b,E,by rw[OK h];exact⟨rfl,rfl⟩⟩
  |bad=>rw[f]at hi;exact hi.elim
 obtain⟨l,c,rfl,B,G,S⟩:=first;refine⟨_,S,?_⟩;have v:VG s ((dd l s).put g.dst c) g.dst o:=⟨l,c,rfl,B,G⟩
 have W: ∀y∈n.op.operands,gt env ((dd l s).put g.dst c).f y=gt env s.f y:=fun y T=>by
  cases y with
  |tmp t=>exact v.f t (fun e=>mE (ops:=ops) (a1 t e) _ T rfl)
  |_=>rfl
 have w: ∀(k:List CT)(K:AV),o3 k=x.wr->Es k=x.we->(dd l ((dd k s).put n.dst K)).put g.dst c=(dd k ((dd l s).put g.dst c)).put n.dst K:=fun k K Q R=>by
  have A:dd l (dd k s)=dd k (dd l s):=by
   refine(IM k l s ?_ ?_)
   ·refine OP.2 fun r m=> ?_;rw[Q]at m;have:=f2 r m;simp[B,G,this.2.2.1,this.2.2.2]
   refine OP.2 fun r m=> ?_;rw[B]at m;have:=f1 r m;simp[R,this.2.2.2]
  rw[BE,BE,A,VE];exact fun t ht e=>a2 t e ht
 have D:(∃a,Tv P env n s a x/\u=a.app n.dst s)-> ∃a,Tv P env n ((dd l s).put g.dst c) a x/\(dd l u).put g.dst c=a.app n.dst ((dd l s).put g.dst c):=fun⟨a,z,L⟩=>by
  refine⟨a,z.frame W (fun r m=>v.rows r (fun q=>(f1 r q).1 m)) (fun r m=>v.esc r (fun q=>(f1 r q).2.1 m) (fun q=>f3 r q m)),?_⟩;rw[L];exact w a.Z2 a.val (Tv.foot z).1.symm (Tv.foot z).2.symm
 cases f:kp ops n with
 | always=>
   rw[f]at p;exact D p
 | on t d=>
   rw[f]at p;obtain⟨b,N,p⟩:=p;refine⟨b,by rw[gj _ v t d f];exact N,?_⟩;by_cases h:DQ b d=true
   ·rw[OL h]at p |-;exact D p
   rw[OK h]at p |-;obtain⟨rfl,rfl⟩:=p;exact⟨w [] (.lit undef) rfl rfl,rfl⟩
 |bad=>rw[f]at p;exact p.elim
end
section
inductive Trace(P:Program)(env:b7)(ops:Array Oper)(F:Nat->ff):List Nat->St->St->Prop
 |nil (s:St):Trace P env ops F [] s s
 |cons {i:Nat} {is:List Nat} {o:Oper} {s s1 s2:St} (hi:ops[i]? =some o) (h:KK P env (kp ops o) o s s1 (F i)) (ht:Trace P env ops F is s1 s2):Trace P env ops F (i::is) s s2
def Va(ops:Array Oper)(F:Nat->ff)(i j:Nat):Prop:= ∀a b,ops[i]? =some a->ops[j]? =some b->a.apart ops b=true/\(F i).apart (F j)=true
section
variable {P:Program} {env:b7} {ops:Array Oper} {F:Nat->ff}
theorem Trace.front{i:Nat} : ∀ {c d:List Nat}{s s':St},Trace P env ops F (c++i::d) s s'->(∀j∈c,Va ops F i j)-> ∃o q,ops[i]? =some o/\KK P env (kp ops o) o s q (F i)/\Trace P env ops F (c++d) q s'
 | [],d,s,s',h,_=>by
   cases h with
   |cons b h g=>exact⟨_,_,b,h,g⟩
 | j::c,d,s,s',h,a=>by
   cases h with
   | cons n f g=>
     obtain⟨p,x,b,e,l⟩:=g.front (fun k r=>a k (by simp[r]));obtain⟨v,w⟩:=a j (by simp) p _ b n;obtain⟨m,t,u⟩:=f.swap e v w;exact⟨p,m,b,t, .cons n u l⟩
/-! Which operations are ahead of which -/
inductive Vu(ops:Array Oper):Nat->Nat->Prop
 |one {i:Nat} {o:Oper} {e:Edge} (hi:ops[i]? =some o) (he:e∈o.after) (hb:Region.binds .any e=true):Vu ops e.on i
 |trans {i j k:Nat} (h1:Vu ops i j) (h2:Vu ops j k):Vu ops i k
theorem wa(acc:Array Nat)(j:Nat): ∀(l:List Edge)(s:Nat),(l.foldl (fun s e=>if Region.binds .any e then s||| 2^e.on||| acc.getD e.on 0 else s) s).testBit j=true->
 s.testBit j=true\/ ∃e∈l,Region.binds .any e=true/\(e.on=j\/(acc.getD e.on 0).testBit j=true)
 |[],s,h=> .inl h
 | e::l,s,h=>by
   rw[Sl]at h;rcases wa acc j l _ h with h|⟨b,c,d,f⟩
   ·split at h
    ·rename_i a;rw[SS,SS]at h;simp only[PS]at h;rcases h with(h|h)|h
     ·exact .inl h
     ·rw[RZ]at h;exact .inr ⟨e,by simp,a, .inl (by simpa using h)⟩
     exact .inr ⟨e,by simp,a, .inr h⟩
    exact .inl h
   exact .inr ⟨b,by simp[c],d,f⟩
theorem Dz(i j:Nat)(h:((Region.before ops).getD i 0).testBit j=true):Vu ops j i:=by
 have f: ∀n,n<=ops.size->(((ops.toList.take n).foldl (init:=(#[]:Array Nat)) fun acc o=>acc.push (o.after.foldl (fun s e=>if Region.binds .any e then s||| 2^e.on||| acc.getD e.on 0 else s) 0)).size=n)/\
  ∀i j,(((ops.toList.take n).foldl (init:=(#[]:Array Nat)) fun acc o=>acc.push (o.after.foldl (fun s e=>if Region.binds .any e then s||| 2^e.on||| acc.getD e.on 0 else s) 0)).getD i 0).testBit j=true->Vu ops j i:=by
  intro n
  induction n with
  | zero=>
    intro _;refine⟨rfl,fun i j h=> ?_⟩;simp at h
  | succ n p=>
    intro q;obtain⟨a,b⟩:=p (by omega);have m:n<ops.toList.length:=by rw[P2];omega
    rw[PG m,TI];simp only[Sl,List.foldl_nil];generalize (ops.toList.take n).foldl (init:=(#[]:Array Nat)) (fun acc o=>acc.push (o.after.foldl (fun s e=>if Region.binds .any e then s||| 2^e.on||| acc.getD e.on 0 else s) 0))=acc at a b |-;refine⟨by simp[a],fun i j h=> ?_⟩;have d:ops[n]? =some ops.toList[n]:=by simp
    rcases RF i n with c|c|c
    ·refine b i j ?_;rw[PO,Qk,OK (by omega), <-PO]at h;exact h
    ·subst c;rw[PO,Qk,OL a.symm]at h;simp only[Pk]at h;rw[<-Sy]at h;rcases wa acc j _ 0 h with h|⟨e,l,k,h⟩
     ·simp at h
     have g:Vu ops e.on i:= .one d (by simpa using l) k;rcases h with rfl|h
     ·exact g
     exact .trans (b _ _ h) g
    rw[PO,Qh (by simp;omega)]at h;simp at h
 have:=(f ops.size (OO _)).2 i j;rw[PI (by simp)]at this;refine this ?_;unfold Region.before at h;rw[<-Sy]at h;exact h
def yu(ops:Array Oper)(a:List ff):Bool:=
 (List.range ops.size).all fun i=>match ops[i]? with
  | some b=>(b.after.all fun e=> !Region.binds .any e||decide (e.on<i))&&
    (List.range i).all fun j=>((Region.before ops).getD i 0).testBit j||(match ops[j]? with
     |some c=>b.apart ops c&&(a.getD i eU).apart (a.getD j eU)
     |none=>true)
  |none=>true
theorem xr{ro:Option Nat}{x:rk}{Q:Exit->Act->World->Prop}{s':St}(hd: ∀(i:Nat)(o:Oper),ops[i]? =some o-> ∀t,o.dst=some t->t<x.nt)
 (G: ∀(i:Nat)(o:Oper),ops[i]? =some o-> ∀e∈o.after,Region.binds .any e=true->e.on<i)
 (V: ∀i j,j<i->Vu ops j i\/Va ops F i j)(hQ: ∀a w m,dk x s' a w m->Q .normal a w):
 ∀(f:List Nat)(b:Array Bool)(s:St)(a:Act)(w:World)(m:k9),b.size=ops.size->(∀i,i∈f↔i<ops.size/\b.getD i false=false)->f.Pairwise (· < ·)->
  (∀(i:Nat)(o:Oper),ops[i]? =some o->b.getD i false=true-> ∀e∈o.after,Region.binds .any e=true->b.getD e.on false=true)->
  Trace P x.env ops F f s s'->dk x s a w m->wpAnyIn (UX ro) 3 P .any ops Q f.length b a w:=by
 intro f;generalize Y:f.length=n
 induction n generalizing f with
 | zero=>
   intro b s a w m R d _ _ ht T;have:f=[]:=Ox Y;subst this;cases ht;refine⟨?_,hQ a w m T⟩;refine Q2.2 fun i J=> ?_;rw[mem_ready]at J;obtain⟨C,o,A,_⟩:=J;have y:i<ops.size:=(Od.1 A).1
   have W:b.getD i false=false:=by
    rw[PO]at C |-;rw[P5 (by omega)]at C |-;exact C
   exact absurd ((d i).2 ⟨y,W⟩) (by simp)
 | succ n ih=>
   intro b s a w m R d c p ht T;refine⟨fun z=> ?_,fun i J=> ?_⟩
   ·
    cases f with
    |nil=>simp at Y
    | cons k rest=>
      obtain⟨L,q⟩:=(d k).1 (by simp)
      have:k∈Region.ready .any ops b:=by
       rw[mem_ready];refine⟨?_,ops[k],P5 L,fun e E D=> ?_⟩
       ·rw[PO]at q |-;rw[P5 (by omega)]at q |-;exact q
       have y:=G k _ (P5 L) e E D;rcases hq:b.getD e.on false with _|_
       ·have r:=(d e.on).2 ⟨by omega,hq⟩;rcases O7.1 r with h|h
        ·omega
        have:=(Ps.1 c).1 e.on h;omega
       rfl
      rw[z]at this;cases this
   rw[mem_ready]at J;obtain⟨C,oi,l,B⟩:=J;have y:i<ops.size:=(Od.1 l).1
   have W:b.getD i false=false:=by
    rw[PO]at C |-;rw[P5 (by omega)]at C |-;exact C
   have r:i∈f:=(d i).2 ⟨y,W⟩;obtain⟨S,l2,rfl⟩:=List.append_of_mem r
   have I: ∀j,Vu ops j i->b.getD j false=true:=by
    intro j H
    have gen: ∀j k,Vu ops j k->(k=i\/b.getD k false=true)->b.getD j false=true:=by
     intro j k h
     induction h with
     | one u E D=>
       rintro(rfl|q)
       ·rw[l]at u;cases u;exact B _ E D
       exact p _ _ u q _ E D
     |trans _ _ ih1 ih2=>exact fun u=>ih1 (.inr (ih2 u))
    exact gen j i H (.inl rfl)
   have v: ∀j∈S,Va ops F i j:=fun j H=>by
    have K:b.getD j false=false:=((d j).1 (by simp[H])).2
    have X:j<i:=by
     rw[Qs]at c;exact c.2.2 j H i (by simp)
    rcases V i j X with h|h
    ·rw[I j h]at K;cases K
    exact h
   obtain⟨o,s1,A,hst,ht2⟩:=ht.front v;rw[l]at A;cases A;refine qJ l T (hd i oi l) hst fun a' w' m' U=> ?_;refine ih (S++l2) (by simp at Y |-;omega) (b.setIfInBounds i true) s1 a' w' m' (by simpa using R) (fun k=> ?_) ?_ (fun k o A u e E D=> ?_) ht2 U
   ·have hr:=d k;have M:(S++i::l2).Nodup:=c.imp (fun h=>TX h)
    have Z:i∉S++l2:=by
     rw[QJ]at M;obtain⟨_,N,O⟩:=M;simp only[Of,TA];exact⟨fun h=>O i h i (by simp) rfl,(QZ.1 N).1⟩
    by_cases g:i=k
    ·subst g;refine⟨fun h=>absurd h Z,fun h=> ?_⟩;have h2:=h.2;rw[PO,Array.getElem?_setIfInBounds_self_of_lt (by omega)]at h2;simp at h2
    rw[getD_set_ne false g, <-hr];simp only[Of,O7];constructor
    ·rintro(h|h)
     ·exact .inl h
     exact .inr (.inr h)
    rintro(h|h|h)
    ·exact .inl h
    ·exact absurd h.symm g
    exact .inr h
   ·rw[Qs]at c |-;exact⟨c.1,(Ps.1 c.2.1).2,fun j H k u=>c.2.2 j H k (by simp[u])⟩
   by_cases g:i=k
   ·subst g;rw[l]at A;cases A;exact getD_set_true (B e E D)
   rw[getD_set_ne false g]at u;exact getD_set_true (p k o A u e E D)
end
/-! The region's laws -/
section
variable {P:Program} {x:rk} {ops:Array Oper} {Q:Exit->Act->World->Prop} {s s':St} {a:Act} {w:World} {m:k9}
theorem Cf{d:List ff}(h:yu ops d=true):(∀(i:Nat)(o:Oper),ops[i]? =some o-> ∀e∈o.after,Region.binds .any e=true->e.on<i)/\ ∀i j,j<i->Vu ops j i\/Va ops (fun i=>d.getD i eU) i j:=by
 have h:=OP.1 h;constructor
 ·intro i o k e n l;have b:i<ops.size:=(Od.1 k).1;have:=h i (by simpa using b);rw[k]at this;simp only[OJ]at this;have:=(RI.1 this.1) e n;simpa[l]using this
 intro i j g;by_cases b:i<ops.size
 ·have:=h i (by simpa using b);rw[P5 b]at this;simp only[OJ]at this;have:=(OP.1 this.2) j (by simpa using g);simp only[PS]at this;rcases this with h1|h1
  ·exact .inl (Dz i j h1)
  refine .inr fun p q c f=> ?_;rw[P5 b]at c;cases c;rw[f]at h1;simpa using h1
 refine .inr fun p q c f=> ?_;rw[Qh (by omega)]at c;cases c
theorem zw{ro:Option Nat}{r:Nat}{b:List ff}(q:P.follows .mixedOrders=true)(n:(ops.all fun o=>o.dst.all (· <x.nt))=true)(e:yu ops b=true)(f:Trace P x.env ops (fun i=>b.getD i eU) (List.range ops.size) s s')(l:dk x s a w m)
 (k: ∀a w m,dk x s' a w m->Q .normal a w):(Code.region r ops true).wpIn (UX ro) 3 P Q a w:=by
 obtain⟨g,j⟩:=Cf e;refine wpIn_region_any q ?_
 have:=xr (ro:=ro) (P:=P) (x:=x) (ops:=ops) (F:=fun i=>b.getD i eU) (Q:=Q) (s':=s') (fun i o d t f=>by
  have:=(RI.1 n) o (S7 d);rw[f]at this;simpa using this) g j k (List.range ops.size) (Array.replicate ops.size false) s a w.drew m (by simp) (fun i=>by
  simp only[Oh];constructor
  ·exact fun h=>⟨h,by simp[h]⟩
  ·exact fun h=>h.1) (List.pairwise_lt_range) (fun i o d p=>by
  have c:i<ops.size:=(Od.1 d).1
  simp[c]at p) f (l.drew 1)
 rw[SU]at this;exact this
theorem zu{ro:Option Nat}{i:Nat}{F:Nat->ff}(g:(ops.all fun o=>o.dst.all (· <x.nt))=true)(b:Trace P x.env ops F (List.range ops.size) s s')(e:dk x s a w m)
 (d: ∀a w m,dk x s' a w m->Q .normal a w):(Code.region i ops false).wpIn (UX ro) 3 P Q a w:=by
 refine wpIn_region ?_;generalize List.range ops.size=l at b
 induction b generalizing a w m with
 |nil s=>exact d a w m e
 | cons f h b j=>
   rw[wpOpsIn_cons];refine qJ f e (fun t b=> ?_) h fun k p n c=>j c d;have:=(RI.1 g) _ (S7 f);rw[b]at this;simpa using this
end
end
section
def gu(P:Program)(env:b7)(nt:Nat)(c:Code)(Q:Exit->St->Prop)(s:St):Prop:=
 ∀(g:Option Nat)(x:rk),x.env=env->x.nt=nt-> ∀a w m,dk x s a w m->c.wpIn (UX g) 3 P (fun e d h=> ∃b f,Q e b/\dk x b d h f) a w
def bR(K:St->Prop)(Q:Exit->St->Prop):Exit->St->Prop
 | .normal,s=>K s
 |e,s=>Q e s
def bf(b:Nat)(Q:Exit->St->Prop):Exit->St->Prop
 | .exit a,s=>if a=b then Q .normal s else Q (.exit a) s
 |e,s=>Q e s
section
variable {P:Program} {env:b7} {nt:Nat} {Q:Exit->St->Prop} {s:St}
theorem CK{c:Code}{b:Exit->St->Prop}(h:gu P env nt c Q s)(k: ∀e s,Q e s->b e s):gu P env nt c b s:=
 fun n x i j a w m g=>Ql (h n x i j a w m g) fun _ _ _ ⟨o,l,d,f⟩=>⟨o,l,k _ _ d,f⟩
theorem oK(h:Q .normal s):gu P env nt .skip Q s:=fun _ _ _ _ _ _ m a=>wpIn_skip ⟨s,m,h,a⟩
theorem xM{l:Nat}(h:Q .normal s):gu P env nt (.label l) Q s:=fun _ _ _ _ _ _ m a=>wpIn_label ⟨s,m,h,a⟩
theorem aO(h:Q .ret s):gu P env nt .ret Q s:=fun _ _ _ _ _ _ m a=>wpIn_ret ⟨s,m,h,a⟩
theorem oX{a:Nat}(h:Q (.exit a) s):gu P env nt (.exit a) Q s:=fun _ _ _ _ _ _ m b=>wpIn_exit ⟨s,m,h,b⟩
theorem oS{c d:Code}(h:gu P env nt c (bR (gu P env nt d Q) Q) s):gu P env nt (.seq c d) Q s:=fun k x g i a w m n=>by
 refine wpIn_seq (Ql (h k x g i a w m n) ?_);rintro e l p ⟨o,j,b,f⟩;cases e with
 |normal=>exact b k x g i l p j f
 |_=>exact⟨o,j,b,f⟩
theorem uh{y:Operand}{c d:Code}{b:Bool}(n:gt env s.f y= .lit (.bool b))(k:b=true->gu P env nt c Q s)(l:b=false->gu P env nt d Q s):gu P env nt (.cond y c d) Q s:=fun j x g h a w m e=>by
 have i:=ao e y;rw[g,n]at i;exact wpIn_cond_split i.lit_ (fun f=>k f j x g h a w m e) (fun f=>l f j x g h a w m e)
theorem oB{g:Nat}{c:Code}(h:gu P env nt c (bf g Q) s):gu P env nt (.block g c) Q s:=fun o x l n a w m k=>by
 refine wpIn_block (Ql (h o x l n a w m k) ?_);rintro e p q ⟨f,j,b,i⟩;cases e with
 | exit d=>
   show if d=g then _ else _
   have b:if d=g then Q .normal f else Q (.exit d) f:=b
   split
   ·rename_i hid;rw[OL hid]at b;exact⟨f,j,b,i⟩
   rename_i hid;rw[OK hid]at b;exact⟨f,j,b,i⟩
 |_=>exact⟨f,j,b,i⟩
theorem CL{c:Code}{s':St}(e:UZ s s')(h:gu P env nt c Q s'):gu P env nt c Q s:=fun g x d f a w m b=>h g x d f a w m (b.less e)
theorem K0{D:Type}{c:Code}(S:D->(Nat->Nat)->(Nat->Bool)->St)(b:D->(Nat->Nat)->(Nat->Bool)->Prop)(h:D->Nat)(i:D)(q:b i s.vs s.esc)(u:UZ s (S i s.vs s.esc))
 (round: ∀d vs esc,b d vs esc->gu P env nt c (bR (fun g=> ∃f,b f g.vs g.esc/\UZ g (S f g.vs g.esc)/\h f<h d) Q) (S d vs esc)):gu P env nt (.loop c) Q s:=fun B x r v a w m j=>by
 refine wpIn_loop_ghost (fun n a w=> ∃d vs esc m,b d vs esc/\h d=n/\dk x (S d vs esc) a w m) (h i) ⟨i,s.vs,s.esc,m,q,rfl,j.less u⟩ ?_;rintro n a w ⟨d,vs,esc,m,t,rfl,j⟩;refine Ql (round d vs esc t B x r v a w m j) ?_;rintro e C E ⟨k,p,l,o⟩;cases e with
 | normal=>
   obtain⟨f,y,z,A⟩:=l;exact⟨h f,A,f,k.vs,k.esc,p,y,rfl,o.less z⟩
 |_=>exact⟨k,p,l,o⟩
end
/-! Regions -/
structure Ty where
 o:Oper
 g:Gd
def UD(ops:Array Oper):List Ty:=ops.toList.map fun o=>⟨o,kp ops o⟩
def jn(P:Program)(env:b7):List Ty->St->(St->List ff->Prop)->Prop
 |[],s,K=>K s []
 |q::a,s,K=> ∃d c,KK P env q.g q.o s d c/\jn P env a d fun e b=>K e (c::b)
section
variable {P:Program} {env:b7} {nt:Nat} {Q:Exit->St->Prop} {s:St} {ops:Array Oper}
theorem nW: ∀ {c:List Ty}{s:St}{K:St->List ff->Prop},jn P env c s K-> ∃s' a,a.length=c.length/\K s' a/\
 ∀(k:Nat)(F:Nat->ff),(∀j,j<c.length->F (k+j)=a.getD j eU)->(∀(j:Nat)(q:Ty),c[j]? =some q->ops[k+j]? =some q.o/\q.g=kp ops q.o)->Trace P env ops F (List.range' k c.length) s s'
 |[],s,K,h=>⟨s,[],rfl,h,fun k F _ _=> .nil s⟩
 | q::l,s,K,h=>by
   obtain⟨u,e,m,n⟩:=h;obtain⟨s',a,o,p,r⟩:=nW n;refine⟨s',e::a,by simp[o],p,fun k F f i=> ?_⟩;have b:=i 0 q rfl;have d:F k=e:=f 0 (by simp);refine .cons (by simpa using b.1) (by rw[d, <-b.2];exact m) (r (k+1) F (fun j g=> ?_) fun j t g=> ?_)
   ·have:=f (j+1) (by simp;omega);rw[show k+1+j=k+(j+1) by omega,this];simp
   have:=i (j+1) t (by simpa using g);rw[show k+1+j=k+(j+1) by omega];exact this
theorem El{ops:Array Oper}(j:Nat)(q:Ty)(h:(UD ops)[j]? =some q):ops[0+j]? =some q.o/\q.g=kp ops q.o:=by
 unfold UD at h;rw[OS]at h;cases a:ops.toList[j]? with
 |none=>rw[a]at h;cases h
 | some o=>
   rw[a]at h;cases h;rw[PR];exact⟨by simpa using a,rfl⟩
theorem rL{t:Nat}{e:List Ty}(r:UD ops=e)(g:(ops.all fun o=>o.dst.all (· <nt))=true)(h:jn P env e s fun s' _=>Q .normal s'):gu P env nt (.region t ops false) Q s:=fun y x k p a w m f=>by
 subst r;subst k;subst p;obtain⟨s',b,_,u,v⟩:=nW (ops:=ops) h;have d:=v 0 (fun i=>b.getD i eU) (fun j _=>by rw[PR]) (fun j q l=>El j q l);have n:(UD ops).length=ops.size:=by simp[UD]
 rw[n, <-List.range_eq_range']at d;exact zu g d f fun a w m c=>⟨s',m,u,c⟩
theorem rM{u:Nat}{e:List Ty}(t:UD ops=e)(p:P.follows .mixedOrders=true)(g:(ops.all fun o=>o.dst.all (· <nt))=true)(h:jn P env e s fun s' b=>yu ops b=true/\Q .normal s'):gu P env nt (.region u ops true) Q s:=fun A x k r a w m f=>by
 subst t;subst k;subst r;obtain⟨s',b,_,⟨v,z⟩,y⟩:=nW (ops:=ops) h;have d:=y 0 (fun i=>b.getD i eU) (fun j _=>by rw[PR]) (fun j q l=>El j q l);have n:(UD ops).length=ops.size:=by simp[UD]
 rw[n, <-List.range_eq_range']at d;exact zw p g v d f fun a w m c=>⟨s',m,z,c⟩
/-! One operation -/
theorem oZ{K:St->List ff->Prop}(h:K s []):jn P env [] s K:=h
def Vv(q:Rd Out)(s:St)(d:Option Nat)(c:St)(b:ff):Prop:= ∃a,q.run s=some a/\a.app d s=c/\rQ q s a=b
theorem M6{o:Oper}{rest:List Ty}{d:St}{a:ff}{K:St->List ff->Prop}(i:bH env s.f o=none)(h:Vv (aY P env s.f o) s o.dst d a)(k:jn P env rest d fun j b=>K j (a::b)):jn P env (⟨o, .always⟩::rest) s K:=by
 obtain⟨c,e,f,g⟩:=h;refine⟨d,a,⟨c,?_,f.symm⟩,k⟩;unfold Tv;rw[i];exact⟨e,g.symm⟩
theorem Fe{o:Oper}{t:Nat}{a b:Bool}{rest:List Ty}{K:St->List ff->Prop}(e:s.f t= .lit (.bool b))(g:b=a->jn P env (⟨o, .always⟩::rest) s K)(h:b= !a->jn P env rest (s.put o.dst (.lit undef)) fun l d=>K l (eU::d)):jn P env (⟨o, .on t a⟩::rest) s K:=by
 by_cases c:b=a
 ·obtain⟨k,f,i,j⟩:=g c;exact⟨k,f,⟨_,e,by rw[OL (by simp[DQ,c])];exact i⟩,j⟩
 exact⟨_,eU,⟨_,e,by rw[OK (by simpa[DQ]using c)];exact⟨rfl,rfl⟩⟩,h (by cases b<;>cases a<;>simp_all)⟩
theorem IQ{o:Oper}{t:Nat}{a:Bool}{v:Value}{rest:List Ty}{K:St->List ff->Prop}(c:s.f t= .lit v)(d:DQ v a=false)(k:jn P env rest (s.put o.dst (.lit undef)) fun e b=>K e (eU::b)):jn P env (⟨o, .on t a⟩::rest) s K:=
 ⟨_,eU,⟨_,c,by rw[OK (by rw[d];simp)];exact⟨rfl,rfl⟩⟩,k⟩
theorem xQ{lend:Bool}{o:Oper}{f:FuncId}{args:List AV}{rest:List Ty}{g:St}{c:ff}{cs:List AV}{l:List Nat}{a:AV}{K:St->List ff->Prop}(p:bH env s.f o=some (f,args))(n:(kk args).run s=some (cs,l))(b:Mx lend P env f cs a)
 (h:Vv (eB lend o.dst args a) s o.dst g c)(k:jn P env rest g fun q d=>K q (c::d)):jn P env (⟨o, .always⟩::rest) s K:=by
 obtain⟨e,i,j,m⟩:=h;refine⟨g,c,⟨e,?_,j.symm⟩,k⟩;unfold Tv;rw[p];exact .inl ⟨lend,(cs,l),a,n,b,i,m.symm⟩
theorem xP{o:Oper}{f:FuncId}{args:List AV}{rest:List Ty}{e:St}{row:Row}{rs:List Value}{d a:List (List Value)}{K:St->List ff->Prop}(r:Nat)(p:bH env s.f o=some (f,args))(n:args= .row r (s.vs r)::rs.map .lit)
 (g:s.rows r=some row)(i:s.esc r=false)(m:K' P f rs row.e row.sz d a)(j:row.es=bI d)(h:row.pure=true)(c:row.sz≠0)(l:((s.setRow r { row with es:=bI a }).put o.dst .any)=e)(k:jn P env rest e fun q b=>K q (⟨[r],[r],[r],[]⟩::b)):jn P env (⟨o, .always⟩::rest) s K:=by
 refine⟨e,_,⟨⟨.any,[.set r { row with es:=bI a }]⟩,?_,l.symm⟩,k⟩;unfold Tv;rw[p];exact .inr (.inl ⟨r,row,rs,d,a,n,g,c,h,i,j,m,rfl,rfl⟩)
theorem qC{o:Oper}{f:FuncId}{args:List AV}{rest:List Ty}{d:St}{cs:List AV}{a:List Nat}{b:Out}{K:St->List ff->Prop}(i:bH env s.f o=some (f,args))(h:args=cs)(g:Vt P env f cs a s.rows s.vs b)
 (j: ∀r∈a,s.esc r=false)(e:b.app o.dst s=d)(k:jn P env rest d fun l c=>K l (⟨a,a,o3 b.Z2,Es b.Z2⟩::c)):jn P env (⟨o, .always⟩::rest) s K:=by
 subst h;refine⟨d,_,⟨b,?_,e.symm⟩,k⟩;unfold Tv;rw[i];exact .inr (.inr ⟨a,g,j,rfl⟩)
end
/-! A function -/
def St.init(cs:List AV):St:=⟨fun t=>cs.getD t .any,fun _=>none,fun _=>0,fun _=>false⟩
def gM(P:Program)(f:Nat->AV):ResultVar->Rd AV
 | .tmp t=>(fz (f t)).bind fun y=> .ret y.1
 | .cell a t=>(match f a with
   | .loc r b i off=>Rd.row r b fun row=>eV P t row.es[i]? off
   |_=> .fail).bind fun o=>(fz o.val).bind fun y=> .ret y.1
def jB(P:Program)(f:Nat->AV):List ResultVar->Rd (List AV)
 |[]=> .ret []
 |r::b=>(gM P f r).bind fun c=>(jB P f b).bind fun a=> .ret (c::a)
def au(P:Program)(f:Nat->AV):List ResultVar->Rd AV
 | [.tmp t]=>match f t with
   | .row r a=>Rd.row r a fun row=> .esc r fun b=>if row.pure then(if b then .ret (.seq row.sz row.es) else .ret (.own row.e row.sz row.es)) else .fail
   |c=>(fz c).bind fun y=> .ret y.1
 |[r]=>gM P f r
 |e=>(jB P f e).bind fun d=> .ret (.tuple d)
def Nr(P:Program)(rs:List ResultVar)(a:AV):Exit->St->Prop
 | .normal,s | .ret,s=>(au P s.f rs).run s=some a
 |_,_=>False
section
variable {P:Program} {x:rk} {s:St} {a:Act} {w:World} {m:k9}
def n8(tmps:Array Value):ResultVar->Sem Value
 | .tmp t=>pure (tmps.getD t undef)
 | .cell a t=>do loadVar t (<-asAddr (tmps.getD a undef))
theorem vq{r:ResultVar}{c:AV}(h:(gM P s.f r).run s=some c)(C:dk x s a w m): ∃v l S',(n8 a.tmps r).run P w= .ok v w/\dk x (dd (g4 l) s) a w ⟨S',m.ρ⟩/\(∀b o,m.S b o->S' b o)/\RV S' w v c:=by
 cases r with
 | tmp t=>
   simp only[gM]at h;obtain⟨y,f,E⟩:=fd h;simp only[Rd.run,OH]at E;subst E;obtain⟨S',A,B,J⟩:=ou f C (C.slot t);exact⟨_,y.2,S',rfl,A,B,J⟩
 | cell p t=>
   simp only[gM]at h;obtain⟨o,f,h⟩:=fd h;obtain⟨y,E,h⟩:=fd h;simp only[Rd.run,OH]at h;subst h;have L:=C.slot p;split at f
   ·rename_i r X i off e;rw[e]at L;obtain⟨row,q,D,I,f⟩:=dl f;obtain⟨g,N,R⟩:=L.loc_.2 D row q;obtain⟨M,S,T,U⟩:=((C.rows r row q).cells I).own;cases H:row.es[i]? with
    | none=>
      rw[H]at f;unfold eV at f;cases K:eg P t with
      |none=>rw[K]at f;simp[Rd.run]at f
      |some d=>rw[K]at f;obtain⟨k,n,z⟩:=d;cases k<;>simp[Rd.run]at f
    | some Y=>
      rw[H]at f
      obtain⟨v,V,W,p3⟩:=l6 (P:=P) (t:=t) (w:=w) (m:=m) (s:=s) (b:=g) (p:=i*row.sz) (fun j=>M.getD (i*row.sz+j) undef) (fun j c O=>by
       have G:bt row.es i j=some c:=by unfold bt;rw[H];exact O
       obtain⟨u,A,B⟩:=U i j c G;have Q:M.getD (i*row.sz+j) undef=u:=by simp[List.getD,A]
       rw[Q];refine⟨iU S N _ u A,T u (OM A),?_⟩;split at B
       ·exact .val B
       exact B) f
      obtain⟨S',A,B,J⟩:=ou E C W;refine⟨v,y.2,S',?_,A,B,J⟩;simp only[n8,R,asAddr,Oc,PF,OX];simpa[Instr.loadAt,Instr.sureAddr]using V
   simp[Rd.run]at f
theorem zt{s s':St}(b:s'.rows=s.rows)(c:s'.vs=s.vs)(f:Nat->AV)(r:ResultVar):(gM P f r).run s'=(gM P f r).run s:=by
 cases r with
 | tmp t=>
   simp only[gM,Rd.run_bind,tG b c];rfl
 | cell p t=>
   simp only[gM,Rd.run_bind,tG b c]
   congr 1
   split
   ·simp only[Rd.row,Rd.run,b,c];split
    ·split
     ·rename_i row _ _;unfold eV;split<;>(try split)<;>rfl
     rfl
    rfl
   rfl
theorem qR{s s':St}(b:s'.rows=s.rows)(c:s'.vs=s.vs)(f:Nat->AV): ∀rs:List ResultVar,(jB P f rs).run s'=(jB P f rs).run s
 |[]=>rfl
 | r::rs=>by
   simp only[jB,Rd.run_bind,zt b c,qR b c f rs];rfl
theorem vr: ∀ {rs:List ResultVar}{s:St}{m:k9}{cs:List AV},(jB P s.f rs).run s=some cs->dk x s a w m-> ∃vs l S',(rs.mapM (n8 a.tmps)).run P w= .ok vs w/\dk x (dd (g4 l) s) a w ⟨S',m.ρ⟩/\(∀b o,m.S b o->S' b o)/\vs.length=cs.length/\rs.length=cs.length/\ ∀(i:Nat)(v:Value)(c:AV),vs[i]? =some v->cs[i]? =some c->RV S' w v c
 | [],s,m,cs,h,g=>by
   simp only[jB,Rd.run,OH]at h;subst h;exact⟨[],[],m.S,by simp,g,fun _ _ h=>h,rfl,rfl,fun i v c d _=>by simp at d⟩
 | r::rs,s,m,cs,h,g=>by
   simp only[jB]at h;obtain⟨c,z,h⟩:=fd h;obtain⟨e,A,h⟩:=fd h;simp only[Rd.run,OH]at h;subst h;obtain⟨v,l,L,C,D,p3,p4⟩:=vq z g;obtain⟨t,u,y⟩:=cd l s;have f:(jB P (dd (g4 l) s).f rs).run (dd (g4 l) s)=some e:=by rw[y, <-A];exact qR t u _ rs
   obtain⟨vs,B,p,E,G,n,H,I,J⟩:=vr f D;refine⟨v::vs,l++B,p,?_,by simp only[g4,Oa,gs];exact G,fun b o j=>n b o (p3 b o j),by simp[H],by simp[I],fun i K q d k=> ?_⟩
   ·simp[Rs,C,E]
   ·cases i with
    | zero=>
      simp only[PK,OH]at d k;subst d k;exact p4.mono fun b o j=>⟨n b o j, .rfl⟩
    |succ i=>exact J i K q (by simpa using d) (by simpa using k)
theorem iF{fn:Func}(tmps:Array Value):results fn tmps=(do let vs <-fn.results.mapM (n8 tmps);pure (if h:vs.size=1 then vs[0] else .tuple vs)):=by
 unfold results
 congr 1
theorem ux{fn:Func}{n:AV}(h:(au P s.f fn.results.toList).run s=some n)(q:dk x s a w m): ∃v S',(results fn a.tmps).run P w= .ok v w/\(∀b o,x.S b o->S' b o)/\(∀b o,S' b o->x.S b o\/x.w.heap.size<=b)/\(∀b o,S' b o->b<w.heap.size)/\RR S' w x.w.heap.size v n:=by
 have rr: ∀ {S':Nat->Nat->Prop}{v:Value}{c:AV},RV S' w v c->RR S' w x.w.heap.size v c:=fun {S' v c} z=>by
  cases c with
  |own=>cases z
  |_=>exact z
 have one: ∀ {r:ResultVar}{v:Value},fn.results.toList=[r]->(n8 a.tmps r).run P w= .ok v w->(results fn a.tmps).run P w= .ok v w:=fun {r v} H z=>by
  have U:fn.results= #[r]:=by rw[<-PP (xs:=fn.results),H]
  rw[iF,U];simp[z]
 have p: ∀ {r:ResultVar},fn.results.toList=[r]->(gM P s.f r).run s=some n-> ∃v S',(results fn a.tmps).run P w= .ok v w/\(∀b o,x.S b o->S' b o)/\(∀b o,S' b o->x.S b o\/x.w.heap.size<=b)/\(∀b o,S' b o->b<w.heap.size)/\RR S' w x.w.heap.size v n:=fun {r} H L=>by
  obtain⟨v,l,S',J,A,p3,p4⟩:=vq L q;exact⟨v,S',one H J,A.ZR,A.sub,A.low,rr p4⟩
 generalize f:fn.results.toList=Q at h;unfold au at h;split at h
 ·rename_i t;split at h
  ·rename_i r ver e;obtain⟨row,d,E,C,h⟩:=dl h;have D:=q.slot t;rw[e]at D;have z:=D.row_.2 E row d;simp only[Rd.run]at h;split at h
   ·rename_i N;split at h
    ·rename_i y;simp only[Rd.run,OH]at h;subst h;obtain⟨S',K,q2,Z⟩:=q.show r row d C N;exact⟨_,S',one f (v:=a.tmps.getD t undef) rfl,K.ZR,K.sub,K.low,by rw[z];exact Z⟩
    rename_i y;simp only[Rd.run,OH]at h;subst h;have k:=(q.rows r row d).cells C;obtain⟨xs,O,X,Y⟩:=k.own;refine⟨_,m.S,one f (v:=a.tmps.getD t undef) rfl,q.ZR,q.sub,q.low,?_⟩;rw[z]
    exact⟨xs,O,k.pos,⟨O.1,X,k.len,fun i j c V=>by
     obtain⟨u,u1,R⟩:=Y i j c V;rw[OL N]at R
     exact⟨u,u1,R⟩⟩,fun g W o=>k.fresh (by simpa using y) g W o⟩
   simp[Rd.run]at h
  exact p f (by simpa only[gM]using h)
 ·exact p f h
 obtain⟨S,T,h⟩:=fd h;simp only[Rd.run,OH]at h;subst h;obtain⟨G,l,S',J,A,p3,p4,p5,p6⟩:=vr T q;rename_i M B
 have I:G.length≠1:=fun L=>by
  have:Q.length=1:=by omega
  match Q,this with
  |[r],_=>exact B r rfl
 refine⟨.tuple G.toArray,S',?_,A.ZR,A.sub,A.low, .tuple G S p4 p6⟩;rw[iF]
 have:(fn.results.mapM (n8 a.tmps)).run P w= .ok G.toArray w:=by
  rw[Array.mapM_eq_mapM_toList,f];simp[J]
 simp[this,I]
theorem ir{env:b7}{f:FuncId}{fn:Func}{c:Code}{cs:List AV}{d:AV}(B:P.funcs[f]? =some fn)(A:fn.body=some c)(b: ∀(args:Array Value)(w:World),(callFunc f args).run P w= .ok (.enter f args) w)(H:cs.length<=fn.ntmps)
 (h:gu P env fn.ntmps c (Nr P fn.results.toList d) (St.init cs)):cy P env f cs d:=by
 refine⟨b,fun w S u k G D=> ?_⟩;refine calls_of_wp B A ?_
 have z:dk ⟨w,S,env,fn.ntmps,w,⟨S,fun _=>undef⟩,St.init cs,fun _=>False,[]⟩ (St.init cs) { tmps:=u.toArray++Array.replicate (fn.ntmps-u.toArray.size) undef,defers:=[] } w ⟨S,fun _=>undef⟩:=by
  refine⟨Oy _ _,k.low,fun _ _ h=>h,fun _ _ h=> .inl h,k.env,k.low,k.inv,rfl,by simp;omega,fun t=> ?_,(fun r row g=>by cases g),(fun r J row j g=>by cases g),(fun _ _ C=>⟨C, .rfl⟩),(fun _=>OO _),(fun r j _ g=>by cases g),OO _,(fun _ h=>h.elim),(fun r row g=>by cases g)⟩;show RL w _ _ _ (cs.getD t .any);by_cases y:t<cs.length
  ·refine .val (D t _ _ ?_ ?_)
   ·rw[PO,Qy (by simp;omega)];simp[show t<u.length by omega]
   simp[List.getD,y]
  have:cs.getD t .any= .any:=by simp[List.getD,OT (Sb y)]
  rw[this];exact .val (.any _)
 refine wpIn_wide.1 (Ql (h none _ rfl rfl _ w _ z) ?_);rintro e E K ⟨l,I,o,i⟩;cases e with
 | normal=>
   obtain⟨v,n,p,q,p3,p4,p5⟩:=ux (fn:=fn) (show (au P l.f fn.results.toList).run l=some d from o) i;exact⟨i.ZT,v,p,v,rfl,i.bel,n,q,p3,p4,p5⟩
 | ret=>
   obtain⟨v,n,p,q,p3,p4,p5⟩:=ux (fn:=fn) (show (au P l.f fn.results.toList).run l=some d from o) i;exact⟨i.ZT,v,p,v,rfl,i.bel,n,q,p3,p4,p5⟩
 |_=>exact o.elim
end
end
section
section
variable {P:Program} {env:b7} {f:Nat->AV} {d:Option Nat} {ty:TypeId} {ps:String} {af:Array Edge} {g:Option (Nat×Bool)}
theorem FT{y:Operand} :aY P env f ⟨d, .move y,ty,ps,af,g⟩=val (gt env f y):=rfl
theorem wv{y:Operand} :aY P env f ⟨d, .assign y,ty,ps,af,g⟩=val (gt env f y):=rfl
def EN(c y z:AV):Rd Out:=match c with
 | .lit (.bool true)=>val y
 | .lit (.bool false)=>val z
 |_=> .fail
theorem FR{c y z:Operand} :aY P env f ⟨d, .pick c y z,ty,ps,af,g⟩=EN (gt env f c) (gt env f y) (gt env f z):=rfl
def yn(P:Program)(d:Option Nat)(t:TypeId):Rd Out:=match eg P t with
 |some q=>if q.zero.length=q.size/\q.zero.all (·.oneCell') then mA d t (q.zero.map .lit) else .fail
 |none=> .fail
theorem CB{t:TypeId} :aY P env f ⟨d, .alloc t,ty,ps,af,g⟩=yn P d t:=rfl
theorem LG{t:TypeId}{y:Operand} :aY P env f ⟨d, .box t y,ty,ps,af,g⟩=iH (gt env f y).asCells (mA d t):=rfl
def yg(P:Program)(t:TypeId)(ps:List (Nat×AV)):Rd Out:=match eg P t with
 |some ⟨.struct b _,n,z⟩=>if z.length=n/\z.all (·.oneCell') then iH (mM b (z.map .lit) ps) fun a=>val (.agg a) else .fail
 |_=> .fail
theorem Bw{t:TypeId}{a:Array (Nat×Operand)} :aY P env f ⟨d, .build t a,ty,ps,af,g⟩=yg P t (a.toList.map fun p=>(p.1,gt env f p.2)):=rfl
def yA(P:Program)(d:Option Nat)(t:TypeId)(n:Nat)(ps:List (Nat×AV)):Rd Out:=match eg P t,d with
 |some ⟨.slice e a _ b,_,_⟩,some d=>if b.length=a/\0<a/\b.all (·.oneCell')/\n*a<=16777216 then
  (eI ps).bind fun q=>iH (jD a (List.replicate n (b.map .lit)) q.1) fun c=>
   .look d fun _ v=> .ret ⟨.row d (v+1),g4 q.2++[.renew d ⟨a,c,e,true⟩]⟩ else .fail
 |_,_=> .fail
theorem mO{t:TypeId}{n:Nat}{a:Array (Nat×Operand)} :aY P env f ⟨d, .buildSlice t n a,ty,ps,af,g⟩=yA P d t n (a.toList.map fun p=>(p.1,gt env f p.2)):=rfl
def ER(P:Program)(t:TypeId)(a:AV):Rd Out:=match a with
 | .ref _ c i off=>eV P t c[i]? off
 | .loc r b i off=>Rd.row r b fun row=>eV P t row.es[i]? off
 |_=> .fail
theorem FV{t:TypeId}{y:Operand} :aY P env f ⟨d, .load t y,ty,ps,af,g⟩=ER P t (gt env f y):=rfl
theorem Bp{t:TypeId}{y z:Operand} :aY P env f ⟨d, .store t y z,ty,ps,af,g⟩=pQ P t (gt env f y) (gt env f z):=rfl
theorem Bz{a:BinOp}{t u:TypeId}{y z:Operand} :aY P env f ⟨d, .binOp a t y z u,ty,ps,af,g⟩=vI P a t (cO y) (cO z) (gt env f y) (gt env f z):=rfl
def N9(a:UnOp)(y:AV):Rd Out:=match a,y with
 | .not, .lit (.bool b)=>val (.lit (.bool (!b)))
 | .neg, .lit (.int k n)=>val (.lit (.int k (k.wrap (0-n))))
 | .xor, .lit (.int k n)=>val (.lit (.int k (N8 k n)))
 |_,_=> .fail
theorem FQ{a:UnOp}{t:TypeId}{y:Operand} :aY P env f ⟨d, .unOp a t y,ty,ps,af,g⟩=N9 a (gt env f y):=rfl
theorem tQ{s t:TypeId}{y:Operand} :aY P env f ⟨d, .convert s t y,ty,ps,af,g⟩=vH P s t (gt env f y):=rfl
def yV(P:Program)(t:TypeId)(y:AV):Rd Out:=match eg P t with
 |some ⟨.iface,_,_⟩=> .fail
 |some _=>(fz y).bind fun y=> .ret ⟨.iface t y.1,g4 y.2⟩
 |none=> .fail
theorem Bt{t:TypeId}{y:Operand} :aY P env f ⟨d, .makeInterface t y,ty,ps,af,g⟩=yV P t (gt env f y):=rfl
theorem FU{t:TypeId}{l c:Operand} :aY P env f ⟨d, .makeSlice t l c,ty,ps,af,g⟩=vE P d t (gt env f l) (gt env f c):=rfl
theorem FW{t:TypeId}{y mx:Operand}{lo hi:Option Operand} :aY P env f ⟨d, .slice t y lo hi (some mx),ty,ps,af,g⟩=vG P t (gt env f y) (lo.map (gt env f)) (hi.map (gt env f)) (gt env f mx):=rfl
theorem Bq{t:TypeId}{y:Operand}{lo hi:Option Operand} :aY P env f ⟨d, .slice t y lo hi none,ty,ps,af,g⟩=pR P t (gt env f y) (lo.map (gt env f)) (hi.map (gt env f)):=rfl
theorem oM{t:TypeId}{y:Operand}{i:Nat} :aY P env f ⟨d, .fieldAddr t y i,ty,ps,af,g⟩=gA P t (gt env f y) i:=rfl
theorem Bu{t:TypeId}{y:Operand}{i:Nat} :aY P env f ⟨d, .field t y i,ty,ps,af,g⟩=iH (pT P t (gt env f y) i) val:=rfl
theorem oJ{t:TypeId}{y i:Operand} :aY P env f ⟨d, .indexAddr t y i,ty,ps,af,g⟩=fv P t (gt env f y) (gt env f i):=rfl
theorem Br{t:TypeId}{y i:Operand} :aY P env f ⟨d, .index t y i,ty,ps,af,g⟩=iH (pS P t (gt env f y) (gt env f i)) val:=rfl
def Nc(y:AV)(i:Nat):Rd Out:=match y with
 | .tuple a=>iH a[i]? val
 |_=> .fail
theorem tP{y:Operand}{i:Nat} :aY P env f ⟨d, .extract y i,ty,ps,af,g⟩=Nc (gt env f y) i:=rfl
theorem LF{y:Operand}{t:TypeId} :aY P env f ⟨d, .call ⟨.builtin .len, #[y], #[t]⟩,ty,ps,af,g⟩=zM P t (gt env f y):=rfl
theorem LD{y z:Operand}{a:Array TypeId} :aY P env f ⟨d, .call ⟨.builtin .min, #[y,z],a⟩,ty,ps,af,g⟩=Dd (gt env f y) (gt env f z):=rfl
theorem LE{y z:Operand}{a:Array TypeId} :aY P env f ⟨d, .call ⟨.builtin .max, #[y,z],a⟩,ty,ps,af,g⟩=De (gt env f y) (gt env f z):=rfl
theorem tO{t:TypeId} :aY P env f ⟨d, .makeMap t none,ty,ps,af,g⟩=ja P d t:=rfl
theorem Bv{y:Operand}{t:TypeId} :aY P env f ⟨d, .call ⟨.builtin .clear, #[y], #[t]⟩,ty,ps,af,g⟩=mP P t (gt env f y):=rfl
def zH(g:FuncId)(first:Bool)(cs a:List AV):Rd Out:=if first/\ !cs.isEmpty then val (.clo g cs) else if first then val (.lit (.func (.func g) #[] #[])) else mL g cs.isEmpty a
theorem qp{fn:FuncId}{first captured:Array Operand} :aY P env f ⟨d, .makeFunc (.func fn) first captured,ty,ps,af,g⟩=zH fn first.isEmpty (captured.toList.map (gt env f)) (first.toList.map (gt env f)):=by
 show (if first.isEmpty/\ !captured.isEmpty then val (.clo fn (captured.toList.map (gt env f))) else if first.isEmpty then val (.lit (.func (.func fn) #[] #[])) else mL fn captured.isEmpty (first.toList.map (gt env f)))=_;unfold zH
 have:(captured.toList.map (gt env f)).isEmpty=captured.isEmpty:=by
  rcases captured with⟨l⟩;cases l<;>rfl
 rw[this]
theorem wt{t:TypeId}{y k:Operand}{a:Bool} :aY P env f ⟨d, .lookup t y k a,ty,ps,af,g⟩=lS P t (gt env f y) (gt env f k) a:=rfl
theorem qo{t:TypeId}{y k:Operand} :aY P env f ⟨d, .mapEntry t y k,ty,ps,af,g⟩=iJ P t (gt env f y) (gt env f k):=rfl
theorem mN{t:TypeId}{y n v:Operand} :aY P env f ⟨d, .entryStore t y n v,ty,ps,af,g⟩=eS (gt env f y) (gt env f n) (gt env f v):=rfl
theorem oI{t:TypeId}{y k v:Operand} :aY P env f ⟨d, .mapUpdate t y k v,ty,ps,af,g⟩=fq P t (gt env f y) (gt env f k) (gt env f v):=rfl
theorem wu{y k:Operand}{t a:TypeId} :aY P env f ⟨d, .call ⟨.builtin .delete, #[y,k], #[t,a]⟩,ty,ps,af,g⟩=jm P t (gt env f y) (gt env f k):=rfl
theorem ww{y z:Operand}{t:TypeId} :aY P env f ⟨d, .call ⟨.builtin .append, #[y,z], #[t,t]⟩,ty,ps,af,g⟩=jo P d t (gt env f y) (gt env f z):=by
 show (if t=t then _ else _)=_;rw[OL rfl]
theorem Kv{t:Nat} :gt env f (.tmp t)=f t:=rfl
theorem Kx{k:IntKind}{n:Int} :gt env f (.const (.int k n))= .lit (.int k n):=rfl
theorem FK{b:Bool} :gt env f (.const (.bool b))= .lit (.bool b):=rfl
theorem Kw{s:ByteArray} :gt env f (.const (.string s))= .lit (.string s):=rfl
theorem FH{n c:Nat} :gt env f (.const (.slice none n c))= .lit (.slice none n c):=rfl
theorem FI:gt env f (.const (.pointer none))= .lit (.pointer none):=rfl
theorem FJ:gt env f (.const .nilIface)= .lit .nilIface:=rfl
end
def Ue:Rd Out->St->List Nat->List Nat->Option (Out×List Nat×List Nat)
 | .ret o,_,l,e=>some (o,l,e)
 | .fail,_,_,_=>none
 | .look r k,s,l,e=>Ue (k (s.rows r) (s.vs r)) s (l++[r]) e
 | .esc r k,s,l,e=>Ue (k (s.esc r)) s l (e++[r])
def GR: ∀(q:Rd Out)(s:St)(l e:List Nat)(o:Out)(b a:List Nat),Ue q s l e=some (o,b,a)->q.run s=some o/\b=l++(q.log s).1/\a=e++(q.log s).2:=by
 intro q s
 induction q with
 |ret o=>intro l e i b a h;simp only[Ue,OH,RU]at h;obtain⟨rfl,rfl,rfl⟩:=h;simp[Rd.run,Rd.log]
 |fail=>intro l e i b a h;simp[Ue]at h
 | look r k g=>
   intro l e i b a h;obtain⟨c,d,f⟩:=g _ _ _ _ _ _ _ h;exact⟨c,by rw[d];simp[Rd.log],by rw[f];simp[Rd.log]⟩
 | esc r k g=>
   intro l e i b a h;obtain⟨c,d,f⟩:=g _ _ _ _ _ _ h;exact⟨c,by rw[d];simp[Rd.log],by rw[f];simp[Rd.log]⟩
def DS(q:Option (Out×List Nat×List Nat))(s:St)(d:Option Nat)(b:St)(a:ff):Prop:=match q with
 |some (o,l,e)=>o.app d s=b/\(⟨l,e,o3 o.Z2,Es o.Z2⟩:ff)=a
 |none=>False
def uW{q:Rd Out}{s:St}{d:Option Nat}{f:St}{a:ff}(h:DS (Ue q s [] []) s d f a):Vv q s d f a:=by
 unfold DS at h;split at h
 ·rename_i o l e i;obtain⟨g,b,c⟩:=GR q s [] [] o l e i;refine⟨o,g,h.1,?_⟩;rw[<-h.2];simp only[QE]at b c;simp[rQ,b,c]
 exact h.elim
section
variable {P:Program} {env:b7} {s:St}
theorem oO{o:Oper}{rest:List Ty}{c:St}{b:ff}{K:St->List ff->Prop}(d:bH env s.f o=none)(h:DS (Ue (aY P env s.f o) s [] []) s o.dst c b)(k:jn P env rest c fun e a=>K e (b::a)):jn P env (⟨o, .always⟩::rest) s K:=
 M6 d (uW h) k
end
end
section
def nJ:List (Nat×AV)->Nat->AV
 |[],_=> .any
 |p::l,t=>if t=p.1 then p.2 else nJ l t
def an:List (Nat×Row)->Nat->Option Row
 |[],_=>none
 |p::l,t=>if t=p.1 then some p.2 else an l t
def head(F:List (Nat×AV))(R:List (Nat×Row))(vs:Nat->Nat)(esc:Nat->Bool):St:=⟨nJ F,an R,vs,esc⟩
def dK(s:St):List (Nat×AV)->Prop
 |[]=>True
 |p::l=>s.f p.1=p.2/\dK s l
def cn(s:St):List (Nat×Row)->Prop
 |[]=>True
 |p::l=>s.rows p.1=some p.2/\cn s l
def dQ{s:St}{F:List (Nat×AV)}{R:List (Nat×Row)}(b:dK s F)(c:cn s R):UZ s (head F R s.vs s.esc):=by
 refine⟨fun t=> ?_,fun r=> ?_,rfl,rfl⟩
 ·show nJ F t=s.f t\/nJ F t= .any
  induction F with
  |nil=>exact .inr rfl
  | cons p l a=>
    simp only[nJ];split
    ·rename_i e;subst e;exact .inl b.1.symm
    exact a b.2
 ·show an R r=s.rows r\/an R r=none
  induction R with
  |nil=>exact .inr rfl
  | cons p l a=>
    simp only[an];split
    ·rename_i e;subst e;exact .inl c.1.symm
    exact a c.2
section
variable {P:Program} {env:b7} {nt:Nat} {Q:Exit->St->Prop} {s:St}
theorem pE{c:Code}(F:List (Nat×AV))(R:List (Nat×Row))(a:dK s F)(b:cn s R)(h:gu P env nt c Q (head F R s.vs s.esc)):gu P env nt c Q s:=CL (dQ a b) h
theorem aN{D:Type}{c:Code}(F:D->(Nat->Nat)->List (Nat×AV))(R:D->(Nat->Nat)->List (Nat×Row))(a:D->(Nat->Nat)->(Nat->Bool)->Prop)(h:D->Nat)(g:D)
 (j:a g s.vs s.esc)(k:dK s (F g s.vs))(l:cn s (R g s.vs))
 (round: ∀d vs esc,a d vs esc->gu P env nt c (bR (fun b=> ∃f,a f b.vs b.esc/\dK b (F f b.vs)/\cn b (R f b.vs)/\h f<h d) Q) (head (F d vs) (R d vs) vs esc)):gu P env nt (.loop c) Q s:=by
 refine K0 (fun d vs esc=>head (F d vs) (R d vs) vs esc) a h g j (dQ k l) fun d vs esc m=> ?_;refine CK (round d vs esc m) fun e b i=> ?_;cases e with
 | normal=>
   obtain⟨f,n,o,p,q⟩:=i;exact⟨f,n,dQ o p,q⟩
 |_=>exact i
end
section
variable {P:Program} {env:b7} {nt:Nat} {Q:Exit->St->Prop} {s:St}
theorem MW{y:Operand}{c d:Code}{b:Bool}(f:gt env s.f y= .lit (.bool b))(e:b=true)(h:gu P env nt c Q s):gu P env nt (.cond y c d) Q s:=uh f (fun _=>h) (fun a=>by rw[e]at a;cases a)
theorem NZ{y:Operand}{c d:Code}{b:Bool}(f:gt env s.f y= .lit (.bool b))(e:b=false)(h:gu P env nt d Q s):gu P env nt (.cond y c d) Q s:=uh f (fun a=>by rw[e]at a;cases a) (fun _=>h)
end
def Ns:((0:Nat):Int)=0:=rfl
def mc{a b:Nat}(h:a<b):(a:Int)< (b:Int):=by omega
def aD{k n:Nat}(h:k<n)(a:n<=9223372036854775807):IntKind.i64.wrap ((k:Int)+1)=((k+1:Nat):Int):=by rw[Qz _ (by omega)];rfl
def bB{n:Int}(a: -9223372036854775808<=n)(b:n<9223372036854775808):IntKind.i64.wrap n=n:=Qz _ (by omega)
end
section
def Is{c:Type}(a b:c):Prop:=a=b
def iR{b:Type}{a:b} :Is a a:=rfl
def Tz(q:Rd (List AV×List Nat))(s:St)(cs:List AV):Prop:=match q.run s with
 |some (a,_)=>Is a cs
 |none=>False
section
variable {P:Program} {env:b7} {s:St}
theorem oC{o:Oper}{f:FuncId}{args:List AV}{rest:List Ty}{g:St}{e:ff}{cs:List AV}{b:AV}{K:St->List ff->Prop}(j:bH env s.f o=some (f,args))(a:cy P env f cs b)(c:Tz (kk args) s cs)
 (h:DS (Ue (eB false o.dst args b) s [] []) s o.dst g e)(k:jn P env rest g fun n d=>K n (e::d)):jn P env (⟨o, .always⟩::rest) s K:=by
 unfold Tz at c;split at c
 ·rename_i i l m;subst c;exact xQ (lend:=false) j m a (uW h) k
 exact c.elim
theorem oL{o:Oper}{f:FuncId}{args:List AV}{rest:List Ty}{g:St}{e:ff}{cs:List AV}{b:AV}{K:St->List ff->Prop}(j:bH env s.f o=some (f,args))(a:UM P env f cs b)(c:Tz (kk args) s cs)
 (h:DS (Ue (eB true o.dst args b) s [] []) s o.dst g e)(k:jn P env rest g fun n d=>K n (e::d)):jn P env (⟨o, .always⟩::rest) s K:=by
 unfold Tz at c;split at c
 ·rename_i i l m;subst c;exact xQ (lend:=true) j m a (uW h) k
 exact c.elim
theorem kR{env:b7}{o:Oper}{f:Nat->AV}{t g:Nat}{a:Array Operand}{d:Array TypeId}(c:o.op= .call { callee:= .value (.tmp t),args:=a,argTypes:=d })(b:Is (f t) (.lit (.func (.func g) #[] #[]))):bH env f o=some (g,a.toList.map (gt env f)):=by
 unfold bH;rw[c];simp only;rw[show f t= .lit (.func (.func g) #[] #[]) from b]
theorem cB{env:b7}{o:Oper}{f:Nat->AV}{t g:Nat}{a:Array Operand}{d:Array TypeId}{cs:List AV}(c:o.op= .call { callee:= .value (.tmp t),args:=a,argTypes:=d })(b:Is (f t) (.clo g cs)):bH env f o=some (g,a.toList.map (gt env f)++cs):=by
 unfold bH;rw[c];simp only;rw[show f t= .clo g cs from b]
theorem K4{o:Oper}{t:Nat}{a:Bool}{rest:List Ty}{K:St->List ff->Prop}(b:Is (s.f t) (.lit (.bool a)))(k:jn P env (⟨o, .always⟩::rest) s K):jn P env (⟨o, .on t a⟩::rest) s K:=
 Fe b (fun _=>k) (fun h=>by cases a<;>cases h)
theorem K5{o:Oper}{t:Nat}{a:Bool}{v:Value}{rest:List Ty}{K:St->List ff->Prop}(c:Is (s.f t) (.lit v))(d:Is (DQ v a) false)(k:jn P env rest (s.put o.dst (.lit undef)) fun e b=>K e (eU::b)):jn P env (⟨o, .on t a⟩::rest) s K:=
 IQ c d k
end
section
variable {P:Program} {env:b7} {nt:Nat} {Q:Exit->St->Prop} {s:St}
theorem oY{y:Operand}{c d:Code}(a:Is (gt env s.f y) (.lit (.bool true)))(h:gu P env nt c Q s):gu P env nt (.cond y c d) Q s:=MW a rfl h
theorem oN{y:Operand}{c d:Code}(a:Is (gt env s.f y) (.lit (.bool false)))(h:gu P env nt d Q s):gu P env nt (.cond y c d) Q s:=NZ a rfl h
end
def Kk(l:List UInt8):bL ⟨l.toArray⟩=l:=rfl
end
section
def Tu(a c:AV):Prop:= ∀S w v,RV S w v a->RV S w v c
def Tu.refl(c:AV):Tu c c:=fun _ _ _ h=>h
def Tu.any(c:AV):Tu c .any:=fun _ _ _ _=> .any _
def Tu.nil(sz:Nat):Tu (.lit (.slice none 0 0)) (.seq sz []):=fun S w v h=>by
 cases h;exact .seq none 0 0 sz [] 0 0 (fun _ _=> .nilIface) rfl (OO _) (fun h=>by omega) (fun i e b=>by simp at b) (fun i j c a=>by simp[bt]at a) (fun i j c a=>by simp[bt]at a)
def JT(a cs:List AV):Prop:=a.length=cs.length/\ ∀(i:Nat)(b c:AV),a[i]? =some b->cs[i]? =some c->Tu b c
def JT.nil:JT [] []:=⟨rfl,fun i a c h _=>by simp at h⟩
def JT.cons{g c:AV}{d cs:List AV}(h:Tu g c)(j:JT d cs):JT (g::d) (c::cs):=⟨by simp[j.1],fun i a b e f=>by
 cases i with
 | zero=>
   simp only[PK,OH]at e f;subst e f;exact h
 |succ i=>exact j.2 i a b (by simpa using e) (by simpa using f)⟩
def JT.refl: ∀cs:List AV,JT cs cs
 |[]=> .nil
 |c::cs=> .cons (.refl c) (.refl cs)
def Tu.agg{a cs:List AV}(d:JT a cs):Tu (.agg a) (.agg cs):=fun S w v h=>by
 cases h with
 | agg l _ j f g=>
   refine .agg l cs (by rw[j,d.1]) f fun i u c k b=> ?_
   have e:i<a.length:=by
    have:=(OG.1 b).1;rw[d.1];exact this
   exact d.2 i _ _ (OE e) b _ _ _ (g i u _ k (OE e))
def Tu.tuple{a cs:List AV}(d:JT a cs):Tu (.tuple a) (.tuple cs):=fun S w v h=>by
 cases h with
 | tuple k _ g f=>
   refine .tuple k cs (by rw[g,d.1]) fun i u c j b=> ?_
   have e:i<a.length:=by
    have:=(OG.1 b).1;rw[d.1];exact this
   exact d.2 i _ _ (OE e) b _ _ _ (f i u _ j (OE e))
def i8(b c:AV):Prop:= ∀S w a v,RR S w a v b->RR S w a v c
def i8.refl(c:AV):i8 c c:=fun _ _ _ _ h=>h
def i8.of{d c:AV}(h:Tu d c)(g: ∀e sz es,d≠ .own e sz es)(i: ∀e sz es,c≠ .own e sz es):i8 d c:=fun S w f v j=>by
 have a:RV S w v d:=by
  cases d with
  |own e sz es=>exact(g e sz es rfl).elim
  |_=>exact j
 have b:=h S w v a;cases c with
 |own e sz es=>exact(i e sz es rfl).elim
 |_=>exact b
def i8.tuple{a cs:List AV}(b:JT a cs):i8 (.tuple a) (.tuple cs):= .of (.tuple b) (fun _ _ _ h=>by cases h) (fun _ _ _ h=>by cases h)
section
variable {P:Program} {env:b7} {f:FuncId} {cs cs':List AV} {res res':AV}
theorem cy.args(h:cy P env f cs res)(b:JT cs' cs):cy P env f cs' res:=by
 refine⟨h.enter,fun w S l g j k=>h.calls w S l g (by rw[j,b.1]) fun i v c d a=> ?_⟩
 have e:i<cs'.length:=by
  have:=(OG.1 a).1;rw[b.1];exact this
 exact b.2 i _ _ (OE e) a _ _ _ (k i v _ d (OE e))
def Me(P:Program)(rs:List ResultVar)(res:AV):Exit->St->Prop
 | .normal,s | .ret,s=> ∃res',(au P s.f rs).run s=some res'/\i8 res' res
 |_,_=>False
theorem mS{fn:Func}{c:Code}(x:P.funcs[f]? =some fn)(u:fn.body=some c)(a: ∀(args:Array Value)(w:World),(callFunc f args).run P w= .ok (.enter f args) w)(C:cs.length<=fn.ntmps)
 (h:gu P env fn.ntmps c (Me P fn.results.toList res) (St.init cs)):cy P env f cs res:=by
 refine⟨a,fun w S p j B z=> ?_⟩;refine calls_of_wp x u ?_
 have s:dk ⟨w,S,env,fn.ntmps,w,⟨S,fun _=>undef⟩,St.init cs,fun _=>False,[]⟩ (St.init cs) { tmps:=p.toArray++Array.replicate (fn.ntmps-p.toArray.size) undef,defers:=[] } w ⟨S,fun _=>undef⟩:=by
  refine⟨Oy _ _,j.low,fun _ _ h=>h,fun _ _ h=> .inl h,j.env,j.low,j.inv,rfl,by simp;omega,fun t=> ?_,(fun r row d=>by cases d),(fun r E row i d=>by cases d),(fun _ _ y=>⟨y, .rfl⟩),(fun _=>OO _),(fun r i _ d=>by cases d),OO _,(fun _ h=>h.elim),(fun r row d=>by cases d)⟩;show RL w _ _ _ (cs.getD t .any);by_cases q:t<cs.length
  ·refine .val (z t _ _ ?_ ?_)
   ·rw[PO,Qy (by simp;omega)];simp[show t<p.length by omega]
   simp[List.getD,q]
  have:cs.getD t .any= .any:=by simp[List.getD,OT (Sb q)]
  rw[this];exact .val (.any _)
 refine wpIn_wide.1 (Ql (h none _ rfl rfl _ w _ s) ?_);rintro e A G ⟨k,D,b,g⟩;cases e with
 | normal=>
   obtain⟨res',b,m⟩:=(show ∃res',(au P k.f fn.results.toList).run k=some res'/\i8 res' res from b);obtain⟨v,l,n,o,p3,p4,p5⟩:=ux (fn:=fn) b g;exact⟨g.ZT,v,n,v,rfl,g.bel,l,o,p3,p4,m _ _ _ _ p5⟩
 | ret=>
   obtain⟨res',b,m⟩:=(show ∃res',(au P k.f fn.results.toList).run k=some res'/\i8 res' res from b);obtain⟨v,l,n,o,p3,p4,p5⟩:=ux (fn:=fn) b g;exact⟨g.ZT,v,n,v,rfl,g.bel,l,o,p3,p4,m _ _ _ _ p5⟩
 |_=>exact b.elim
end
section
variable {P:Program} {env:b7} {nt:Nat} {s:St}
end
/-! The rules that ask what evaluation shows. -/
section
variable {P:Program} {env:b7} {nt:Nat} {Q:Exit->St->Prop} {s:St}
theorem gR{o:Oper}{t:Nat}{want:Bool}{rest:List Ty}{K:St->List ff->Prop}(k:jn P env (⟨o, .always⟩::rest) s K)(hb:Is (s.f t) (.lit (.bool want)):=by simp only[go_sem,reduceIte, ↓reduceIte,Nat.reduceEqDiff,reduceCtorEq];exact iR):jn P env (⟨o, .on t want⟩::rest) s K:=K4 hb k
theorem gO{o:Oper}{t:Nat}{want:Bool}{v:Value}{rest:List Ty}{K:St->List ff->Prop}(k:jn P env rest (s.put o.dst (.lit undef)) fun s2 fts=>K s2 (eU::fts))(hb:Is (s.f t) (.lit v):=by simp only[go_sem,reduceIte, ↓reduceIte,Nat.reduceEqDiff,reduceCtorEq];exact iR)(hn:Is (DQ v want) false:=by exact iR):jn P env (⟨o, .on t want⟩::rest) s K:=K5 hb hn k
theorem ki{ops:Array Oper}{fts:List ff}{p:Prop}(k:p)(h:yu ops fts=true:=by kernel_rfl):yu ops fts=true/\p:=⟨h,k⟩
theorem gT{ops:Array Oper}{id:Nat}(h:jn P env (UD ops) s fun s' _=>Q .normal s')(hd:(ops.all fun o=>o.dst.all (· <nt))=true:=by kernel_rfl):gu P env nt (.region id ops false) Q s:=rL rfl hd h
theorem gD{ops:Array Oper}{id:Nat}(hm:P.follows .mixedOrders=true)(h:jn P env (UD ops) s fun s' fts=>yu ops fts=true/\Q .normal s')(hd:(ops.all fun o=>o.dst.all (· <nt))=true:=by kernel_rfl):gu P env nt (.region id ops true) Q s:=rM rfl hm hd h
end
end
end Go.Proofs.YtfcdkaolcdglmaaGreatDoor
