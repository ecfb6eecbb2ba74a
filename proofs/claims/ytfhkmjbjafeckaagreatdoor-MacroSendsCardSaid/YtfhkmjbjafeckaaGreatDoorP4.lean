/- Calls by contract; regions, in whatever order. No program is named here. Regions: in the order of the text, and in whatever order. No program is named here. Regions whose order is open: every order ends as that of the text does. No program is named here. Walking without memory: the rules. No program is named here. Walking without memory: how each operation is met. No program is named here. Walking without memory: loops, by the slots and rows that live on. No program is named here. Walking without memory: calls, guards and the end of a drawn region, as scripts use them. No program is named here. Walking without memory: weaker arguments and weaker results. No program is named here. -/
import Derived.Test.YtfhkmjbjafeckaaGreatDoorP3
import Derived.Sort.LoopGhostIn
import Derived.OrdersIn
import Derived.RangeFuncCalls
set_option linter.unusedSimpArgs false
set_option linter.defProp false
namespace Go.Proofs.YtfhkmjbjafeckaaGreatDoor
open Go.RowKit
section
def L5(S:Nat->Nat->Prop)(w:World)(base:Nat)(v:Value)(e:TypeId)(sz:Nat)(es:List (List AV)):Prop:=
 ∃l,w.ownsRow base e sz v es.length l/\0<sz/\x6 S w sz l es/\ ∀g,v.ownBlock=some g-> ∀o,¬S g o
def RR(S:Nat->Nat->Prop)(w:World)(base:Nat)(v:Value):AV->Prop
 | .own e b a=>L5 S w base v e b a
 |c=>RV S w v c
structure tS(env:b8)(S:Nat->Nat->Prop)(w:World):Prop where
 inv:env.inv w
 low: ∀b o,S b o->b<w.heap.size
 env: ∀g c,env g=some c-> ∃u,w.cell? ⟨g,0,none⟩=some u/\u.oneCell'=true/\S g 0/\RV S w u c
structure b7(P:Program)(env:b8)(f:FuncId)(cs:List AV)(res:AV):Prop where
 enter: ∀(args:Array Value)(w:World),(callFunc f args).run P w= .ok (.enter f args) w
 calls: ∀(w:World)(S:Nat->Nat->Prop)(vs:List Value),tS env S w->vs.length=cs.length->(∀(i:Nat)(v:Value)(c:AV),vs[i]? =some v->cs[i]? =some c->RV S w v c)->
  Calls P f vs.toArray w fun e w'=> ∃v,e= .returned v/\Below w.heap.size w w'/\ ∃S',(∀b o,S b o->S' b o)/\(∀b o,S' b o->S b o\/w.heap.size<=b)/\(∀b o,S' b o->b<w'.heap.size)/\RR S' w' w.heap.size v res
def O'(d:Option Nat)(a:AV):Rd Out:=match a with
 | .own e f b=>match d with
   |some d=> .look d fun _ v=> .ret ⟨.row d (v+1),[.renew d ⟨f,b,e,true⟩]⟩
   |none=> .ret ⟨.any,[]⟩
 |c=> .ret ⟨c,[]⟩
def k0:List AV->Rd (List AV×List Nat)
 |[]=> .ret ([],[])
 |c::a=>(fz c).bind fun x=>(k0 a).bind fun y=> .ret (x.1::y.1,x.2++y.2)
def seen(lend:Bool)(l:List Nat):List u3:=match lend with
 |true=>[]
 |false=>ik l
def eF(lend:Bool)(d:Option Nat)(args:List AV)(a:AV):Rd Out:=(k0 args).bind fun q=>(O' d a).bind fun r=> .ret ⟨r.val,seen lend q.2++r.Z2⟩
structure Sd(P:Program)(env:b8)(f:FuncId)(cs:List AV)(res:AV):Prop where
 enter: ∀(args:Array Value)(w:World),(callFunc f args).run P w= .ok (.enter f args) w
 calls: ∀(w:World)(S:Nat->Nat->Prop)(vs:List Value),tS env S w->vs.length=cs.length->(∀(i:Nat)(v:Value)(c:AV),vs[i]? =some v->cs[i]? =some c->RV S w v c)->
  Calls P f vs.toArray w fun e w'=> ∃v,e= .returned v/\Below w.heap.size w w'/\ ∃S',(∀b o,S' b o->w.heap.size<=b/\b<w'.heap.size)/\RR S' w' w.heap.size v res
def Ln(lend:Bool)(P:Program)(env:b8)(f:FuncId)(cs:List AV)(a:AV):Prop:=match lend with
 |true=>Sd P env f cs a
 |false=>b7 P env f cs a
def Ln.enter{lend:Bool}{P:Program}{env:b8}{f:FuncId}{cs:List AV}{a:AV}(h:Ln lend P env f cs a): ∀(args:Array Value)(w:World),(callFunc f args).run P w= .ok (.enter f args) w:=by
 cases lend
 ·exact b7.enter h
 exact Sd.enter h
def RR.wider{S S':Nat->Nat->Prop}{w:World}{base:Nat}{v:Value}{c:AV}(a: ∀b o,S b o->S' b o)(d: ∀b o,base<=b->S' b o->S b o)(h:RR S w base v c):RR S' w base v c:=by
 cases c with
 | own e r q=>
   obtain⟨l,k,f,m,n⟩:=h;exact⟨l,k,f,m.mono fun b o i=>⟨a b o i, .rfl⟩,fun g j o p=>n g j o (d g o (bi k j).1 p)⟩
 |_=>exact RV.mono (fun b o i=>⟨a b o i, .rfl⟩) h
def bO(a:List (List Value)):List (List AV):=a.map (·.map .lit)
structure CT(P:Program)(f:FuncId)(rest:List Value)(e:TypeId)(sz:Nat)(ls ls':List (List Value)):Prop where
 enter: ∀(args:Array Value)(w:World),(callFunc f args).run P w= .ok (.enter f args) w
 len:ls'.length=ls.length
 ZS: ∀l∈ls',l.length=sz/\ ∀u∈l,u.oneCell'=true
 calls: ∀(w:World)(base:Nat)(v:Value),w.ownsRow base e sz v ls.length ls.flatten->
  Calls P f (v::rest).toArray w fun ex w'=>ex= .returned (.tuple #[])/\w.grownBy w' v.ownBlock/\w'.ownsRow base e sz v ls.length ls'.flatten
def fo{f:Type}{sz:Nat} : ∀(d:List (List f)),(∀l∈d,l.length=sz)-> ∀(i j:Nat)(l:List f)(u:f),d[i]? =some l->l[j]? =some u->d.flatten[i*sz+j]? =some u
 |[],_,i,j,l,u,h,_=>by simp at h
 | e::b,c,0,j,l,u,h,a=>by
   have h:e=l:=by simpa using h
   subst h;have m:j<e.length:=(Mr.1 a).1;simp only[QX,Pi,OM];rw[Nb m,a]
 | e::b,c,i+1,j,l,u,h,a=>by
   have h:b[i]? =some l:=by simpa using h
   have k:e.length=sz:=c e (by simp);have o:=fo b (fun l n=>c l (by simp[n])) i j l u h a;have g:(i+1)*sz+j-sz=i*sz+j:=by rw[OY,P7];omega
   have p:sz<=(i+1)*sz+j:=by rw[OY,P7];omega
   simp only[QX];rw[N3 (by omega),k,g];exact o
def eE{g:Type}{sz:Nat} : ∀(a:List (List g)),(∀l∈a,l.length=sz)->a.flatten.length=a.length*sz
 |[],_=>by simp
 | e::c,b=>by
   have:=eE c (fun l f=>b l (by simp[f]));have d:e.length=sz:=b e (by simp);simp only[QX,My,NN];rw[this,d,OY,P7,Rx]
def Bh{b:List (List Value)}{i j:Nat}{c:AV}(h:bs (bO b) i j=some c): ∃l u,b[i]? =some l/\l[j]? =some u/\c= .lit u:=by
 unfold bs bO at h;rw[NB]at h;cases d:b[i]? with
 |none=>rw[d]at h;cases h
 | some l=>
   rw[d]at h;simp only[NT,OD,NB]at h;cases a:l[j]? with
   |none=>rw[a]at h;cases h
   |some u=>rw[a]at h;cases h;exact⟨l,u,rfl,a,rfl⟩
def To(P:Program)(env:b8)(f:FuncId)(cs:List AV)(d:List Nat)(rows:Nat->Option Row)(vsv:Nat->Nat)(b:Out):Prop:=
 (∀(args:Array Value)(w:World),(callFunc f args).run P w= .ok (.enter f args) w)/\
 ∀(x:py)(s:St)(a:Act)(w:World)(m:ld)(g:List Value),x.env=env->dT x s a w m->(∀r∈d,s.rows r=rows r/\s.vs r=vsv r/\s.esc r=false)->g.length=cs.length->(∀(i:Nat)(v:Value)(c:AV),g[i]? =some v->cs[i]? =some c->RL w m s v c)->
  Calls P f g.toArray w fun e j=> ∃v h,e= .returned v/\dT x (dk b.Z2 s) a j h/\RL j h (dk b.Z2 s) v b.val
def bM(env:b8)(f:Nat->AV)(o:Oper):Option (FuncId×List AV):=match o.op with
 | .call { callee:= .value (.func g),args, .. } =>some (g,args.toList.map (gt env f))
 | .call { callee:= .value (.tmp t),args, .. } =>match f t with
   | .lit (.func (.func g) ⟨[]⟩ ⟨[]⟩)=>some (g,args.toList.map (gt env f))
   | .clo g a=>some (g,args.toList.map (gt env f)++a)
   |_=>none
 |_=>none
def MT(P:Program)(env:b8)(o:Oper)(s:St)(a:Out)(i:fy):Prop:=
 match bM env s.f o with
 | some (f,args)=>(∃c q g,(k0 (args)).run s=some q/\Ln c P env f q.1 g/\(eF c o.dst (args) g).run s=some a/\i=r7 (eF c o.dst (args) g) s a)\/
   (∃r b e j h,args= .row r (s.vs r)::e.map .lit/\s.rows r=some b/\b.sz≠0/\b.pure=true/\s.esc r=false/\b.es=bO j/\CT P f e b.e b.sz j h/\a=⟨.any,[.set r { b with es:=bO h }]⟩/\i=⟨[r],[r],[r],[]⟩)\/
   ∃d,To P env f (args) d s.rows s.vs a/\(∀r∈d,s.esc r=false)/\i=⟨d,d,nb a.Z2,zs a.Z2⟩
 |none=>(aX P env s.f o).run s=some a/\i=r7 (aX P env s.f o) s a
def qz{s s':St}(a:s'.rows=s.rows)(b:s'.vs=s.vs): ∀cs:List AV,(k0 cs).run s'=(k0 cs).run s
 |[]=>rfl
 | c::cs=>by
   simp only[k0,Rd.run_bind,tY a b,qz a b cs];rfl
def xQ{x:py}{a:Act}{w:World} : ∀ {cs:List AV}{vs:List Value}{s:St}{m:ld}{y:List AV×List Nat},(k0 cs).run s=some y->dT x s a w m->vs.length=cs.length->(∀(i:Nat)(v:Value)(c:AV),vs[i]? =some v->cs[i]? =some c->RL w m s v c)->
 ∃S',dT x (dk (ik y.2) s) a w ⟨S',m.ρ⟩/\(∀b o,m.S b o->S' b o)/\y.1.length=cs.length/\ ∀(i:Nat)(v:Value)(c:AV),vs[i]? =some v->y.1[i]? =some c->RV S' w v c
 | [],vs,s,m,y,h,f,g,j=>by
   simp only[k0,Rd.run,Ms]at h;subst h;exact⟨m.S,f,fun _ _ h=>h,rfl,fun i v c _ D=>by simp at D⟩
 |c::cs,[],s,m,y,h,f,g,j=>by simp at g
 | c::cs,v::vs,s,m,y,h,f,g,j=>by
   simp only[k0]at h;obtain⟨q,B,h⟩:=fq h;obtain⟨I,C,h⟩:=fq h;simp only[Rd.run,Ms]at h;subst h;obtain⟨J,G,t,H⟩:=ov B f (j 0 v c rfl rfl);obtain⟨z,A,_⟩:=cn q.2 s;have l:(k0 cs).run (dk (ik q.2) s)=some I:=by rw[<-C];exact qz z A cs
   obtain⟨u,E,r,p3,p4⟩:=xQ l G (by simpa using g) (fun i p k e d=>(j (i+1) p k (by simpa using e) (by simpa using d)).shown q.2 t);refine⟨u,by simp only[ik,NA,g4];exact E,fun b o n=>r b o (t b o n),by simp[p3],fun i p k e d=> ?_⟩;cases i with
   | zero=>
     simp only[Nr,Ms]at e d;subst e d;exact H.mono fun b o n=>⟨r b o n, .rfl⟩
   |succ i=>exact p4 i p k (by simpa using e) (by simpa using d)
section
variable {P:Program} {x:py} {s:St} {a:Act} {w:World} {m:ld} {o:Oper} {out:Out}
theorem dT.envOk(h:dT x s a w m):tS x.env m.S w:=
 ⟨x.env.up _ _ h.ZV h.Z3,h.low,fun g c i=>by
  obtain⟨u,d,e,b,f⟩:=h.env g c i
  exact⟨u,(h.Z3.cell (p:=⟨g,0,none⟩) (h.ZX g 0 b)).trans d,e,h.ZT _ _ b,h.old f⟩⟩
theorem dT.called(h:dT x s a w m){f:World}{S':Nat->Nat->Prop}(d:Below w.heap.size w f)(i: ∀b o,m.S b o->S' b o)(j: ∀b o,S' b o->m.S b o\/w.heap.size<=b)(l: ∀b o,S' b o->b<f.heap.size):dT x s a f ⟨S',m.ρ⟩:=
 h.move rfl (d.mono h.Z3.size) (fun b o c=>⟨i b o c,d.stay (h.low b o c)⟩) (fun b o c=>by
  rcases j b o c with k|k
  ·exact .inl k
  ·exact .inr ⟨k,l b o c⟩) (fun r e q g p=>by
  exact d.block g ((h.rows r e q).blk p).2) (fun b n=>d.block b (h.fxlt n))
theorem C9(h:dT x s a w m){base:Nat}(p:x.w.heap.size<=base)(R:x.fw.heap.size<=base)(y: ∀r row,s.rows r=some row-> ∀g,(m.ρ r).ownBlock=some g->g<base){d:Option Nat}{t:AV}{v:Value}(q:(O' d t).run s=some out)(L:RR m.S w base v t):
 ∃m',dT x (dk out.Z2 s) a w m'/\RL w m' (dk out.Z2 s) v out.val:=by
 cases t with
 | own e S N=>
   cases d with
   | none=>
     simp only[O',Rd.run,Ms]at q;subst q;exact⟨m,h, .val (.any _)⟩
   | some d=>
     simp only[O',Rd.run,Ms]at q;subst q;obtain⟨l,B,z,D,K⟩:=L
     have E:=h.renew d ⟨S,N,e,true⟩ false v m.S (O1 _ _) (fun b o n=>⟨n, .rfl⟩) (fun b o n=> .inl n) (fun k A W I g H=>⟨rfl,fun n=>by
      have:=y k A I g H;have:=(bi B n).1
      omega,fun o n=>n⟩)
      (.inl ⟨z,D.ZS,⟨l,by simp only[aw];exact HF B p,D.one,fun i j c O=>by
       obtain⟨u,T,U⟩:=D.cell i j c O
       exact⟨u,T,by simpa using U⟩⟩,(fun Q=>by simp[St.renew,aw]at Q),(fun g f o _=>by
        simp only[aw]at f;exact K g f o),(fun _ g f o=>by
        simp only[aw]at f
        exact K g f o)⟩) (fun b G=>⟨rfl,fun _ n=>n,fun e=>by
        have:=(bi B e).1;have:=(h.fix b G).1
        omega⟩)
     have C:v.oneCell'=true:=by
      rcases B.2 with⟨J,_⟩|⟨g,V,M,J,_⟩<;>rw[J]<;>rfl
     exact⟨_,E, .row d (s.vs d+1) C (by simp[dk,u3.app,St.renew,aw]) fun _ row q=>by simp[aw]⟩
 | _=>
   simp only[O',Rd.run,Ms]at q;subst q;exact⟨m,h, .val L⟩
theorem yH{f:FuncId}{args:Array Operand}{ts:Array TypeId}{t:TypeId} :(resolve a.eval { callee:= .value (.func f),args,argTypes:=ts } t).run P w= .ok { target:= .fn (.func f) #[],args:=args.map a.eval } w:=by
 simp[resolve,Act.eval,Deferred.ofValue]
theorem qZ{g t:Nat}{args:Array Operand}{ts:Array TypeId}{c:TypeId}{cap:Array Value}(b:a.tmps.getD t undef= .func (.func g) #[] cap):(resolve a.eval { callee:= .value (.tmp t),args,argTypes:=ts } c).run P w= .ok { target:= .fn (.func g) cap,args:=args.map a.eval } w:=by
 have e:a.eval (.tmp t)= .func (.func g) #[] cap:=b;simp only[resolve,e,Deferred.ofValue];simp
theorem zS(f:dT x s a w m)(args:List Operand)(i:Nat)(v:Value)(c:AV)(b:(args.map a.eval)[i]? =some v)(d:(args.map (gt x.env s.f))[i]? =some c):RL w m s v c:=by
 rw[NB]at b d;cases e:args[i]? with
 |none=>rw[e]at b;cases b
 | some y=>
   rw[e]at b d;cases b;cases d;exact ar f y
theorem qG{f:FuncId}{cs:List AV}(j:dT x s a w m)(h:bM x.env s.f o=some (f,cs))(q: ∀(u:Array Value)(w:World),(callFunc f u).run P w= .ok (.enter f u) w):
 ∃vs:List Value,vs.length=cs.length/\(∀(i:Nat)(v:Value)(c:AV),vs[i]? =some v->cs[i]? =some c->RL w m s v c)/\(execOp a.eval o).run P w= .ok (.enter f vs.toArray) w:=by
 unfold bM at h;split at h
 ·rename_i C b B l;cases h;refine⟨b.toList.map a.eval,by simp,zS j _,?_⟩;unfold execOp;simp only[l,NZ,yH,NP,invoke];rw[show (b.toList.map a.eval).toArray=b.map a.eval by rw[<-RJ,Ny]];simpa using q (b.map a.eval) w
 ·rename_i t b B l;split at h
  ·rename_i g r;cases h;have e:=j.slot t;rw[r]at e;have e:a.tmps.getD t undef= .func (.func f) #[] #[]:=e.lit_;refine⟨b.toList.map a.eval,by simp,zS j _,?_⟩;unfold execOp;simp only[l,NZ,qZ e,NP,invoke];rw[show (b.toList.map a.eval).toArray=b.map a.eval by rw[<-RJ,Ny]];simpa using q (b.map a.eval) w
  ·rename_i g y r;cases h;have e:=j.slot t;rw[r]at e;obtain⟨n,e,z,A⟩:=e.clo_;refine⟨b.toList.map a.eval++n,by simp[z],fun i v c k d=> ?_,?_⟩
   ·rw[List.getElem?_append]at k d;simp only[NQ]at k d;split at k
    ·rename_i p;rw[Mw p]at d;exact zS j _ i v c k d
    rename_i p;rw[Mt p]at d;exact A _ v c k d
   unfold execOp;simp only[l,NZ,qZ e,NP,invoke];rw[show (b.toList.map a.eval++n).toArray=b.map a.eval++n.toArray by apply Array.toList_inj.1;simp];exact q (b.map a.eval++n.toArray) w
  cases h
 cases h
theorem Ce{f:FuncId}{args:List AV}{r:Nat}{row:Row}{h:List Value}{n d:List (List Value)}(B:dT x s a w m)(hd: ∀t,o.dst=some t->t<x.nt)(hc:bM x.env s.f o=some (f,args))
 (e1:args= .row r (s.vs r)::h.map .lit)(R:s.rows r=some row)(hrz:row.sz≠0)(e3:row.pure=true)(e4:s.esc r=false)(e5:row.es=bO n)(O:CT P f h row.e row.sz n d){K:Act->World->Prop}{Q:Exit->Act->World->Prop}
 (hK: ∀a' G m',dT x ((⟨.any,[.set r { row with es:=bO d }]⟩:Out).app o.dst s) a' G m'->K a' G):o.wp P a w K Q:=by
 obtain⟨us,y,V,J⟩:=qG (P:=P) B hc O.enter;unfold Oper.wp;rw[J];show Calls P f _ w _
 have H:us=m.ρ r::h:=by
  subst e1
  match us,y with
  | u::us,y=>
    simp only[NN,NQ,Nat.add_right_cancel_iff]at y;refine List.cons_eq_cons.2 ⟨(V 0 u _ rfl rfl).row_.2 rfl row R,?_⟩;apply Nv;intro i;cases C:us[i]? with
    |none=>exact(NI (by rw[<-y];exact List.getElem?_eq_none_iff.1 C)).symm
    | some v=>
      have U:i<h.length:=by rw[<-y];exact(Mr.1 C).1
      have:=V (i+1) v (.lit h[i]) (by simpa using C) (by simp[U]);rw[this.lit_,Mq U]
 rw[H];have k:=(B.rows r row R).cells hrz;obtain⟨xs,Z,k2,k3⟩:=k.own;have hn:row.es.length=n.length:=by rw[e5];simp[bO]
 have M: ∀l∈n,l.length=row.sz:=fun l A=>by
  obtain⟨i,C,rfl⟩:=OX A;have:=k.len i ((n[i]).map .lit) (by rw[e5];simp[bO,C]);simpa using this
 have hx:xs=n.flatten:=by
  apply Nv;intro p;have hfl:=eE n M;have hxl:xs.length=n.length*row.sz:=by rw[<-hn];exact Z.1
  by_cases hp:p<n.length*row.sz
  ·have C:p/row.sz<n.length:=Pz (by rw[P3];exact hp);have hj:p%row.sz<row.sz:=Q4 _ k.pos;have hpq:p/row.sz*row.sz+p%row.sz=p:=Q9 p row.sz;have A:=M _ (Oq C);have T:(n[p/row.sz])[p%row.sz]? =some ((n[p/row.sz])[p%row.sz]'(by omega)):=Mq _;have W:=fo n M _ _ _ _ (Mq C) T
   obtain⟨u,X,h3⟩:=k3 (p/row.sz) (p%row.sz) (.lit ((n[p/row.sz])[p%row.sz]'(by omega))) (by
    rw[e5];unfold bs bO;rw[NB,Mq C]
    simp only[NT,OD,NB,T])
   rw[hpq]at W X;rw[Mw e3]at h3;have:u=(n[p/row.sz])[p%row.sz]'(by omega):=by cases h3;rfl
   rw[W,X,this]
  rw[NI (by omega),NI (by omega)]
 rw[hx,hn]at Z;refine(O.calls w x.w.heap.size (m.ρ r) Z).mono ?_;rintro ex G ⟨rfl,D,ho⟩;show K (a.put o.dst (.tuple #[])) G
 have hb:Below x.w.heap.size w G:=⟨D.os,D.tape,D.output,D.size,fun q Y=>D.block q (Oc Y B.Z3.size) fun e=>by
  have:=(bi Z e.symm).1
  omega⟩
 have N: ∀g,(m.ρ r).ownBlock=some g-> ∀o,¬m.S g o:=k.fresh e4;have I: ∀b o,m.S b o->k9 w G b o:=fun b o hh=> .block (D.block b (B.low b o hh) fun e=>N b e.symm o hh)
 have hS2:dT x (s.setRow r { row with es:=bO d }) a G m:=by
  refine B.reset r row _ R rfl hb I (fun q E hne Y gq S=> ?_) ?_ fun b hf=>D.block b (B.fxlt hf) fun e=>B.Z5 r row R b e.symm hf
  ·exact D.block gq ((B.rows q E Y).blk S).2 fun e=>B.inj r q row E R Y (Ot hne) gq e.symm S
  have hel: ∀(i:Nat)(e:List AV),(bO d)[i]? =some e->e.length=row.sz:=fun i e z=>by
   unfold bO at z;rw[NB]at z;cases A:d[i]? with
   |none=>rw[A]at z;cases z
   | some l=>
     rw[A]at z;cases z;simpa using (O.ZS l (Mv A)).1
  have hll:(bO d).length=n.length:=by unfold bO;rw[NQ];exact O.len
  refine .inl ⟨k.pos,hel,⟨d.flatten,by show G.ownsRow _ _ _ _ (bO d).length _;rw[hll];exact ho,?_,?_⟩,fun z=>(by simp only[St.setRow]at z;rw[e4]at z;cases z),?_,fun _ g L o=>N g L o⟩
  ·intro u hu;obtain⟨l,A,y⟩:=Rv.1 hu;exact(O.ZS l A).2 u y
  ·intro i j c hcc;obtain⟨l,u,W,X,rfl⟩:=Bh hcc;refine⟨u,fo d (fun l A=>(O.ZS l A).1) i j l u W X,?_⟩;show if row.pure=true then _ else _
   rw[Mw e3];exact .lit u
  exact fun g L o _=>N g L o
 exact hK _ _ m (hS2.put o.dst hd (.val (.any _)))
theorem xa{ft:fy}(i:dT x s a w m)(J: ∀t,o.dst=some t->t<x.nt)(h:MT P x.env o s out ft){K:Act->World->Prop}{Q:Exit->Act->World->Prop}
 (G: ∀Z p m',dT x (out.app o.dst s) Z p m'->K Z p):o.wp P a w K Q:=by
 unfold MT at h;cases I:bM x.env s.f o with
 | none=>
   rw[I]at h;obtain⟨nx,p,m',v,E,u,l,h4⟩:=Dy (P:=P) i h.1;have H:=l.put o.dst J h4;unfold Oper.wp;rw[E];rcases u with rfl|⟨rfl,rfl⟩
   ·exact G _ _ _ H
   exact G _ _ _ H
 | some fa=>
   obtain⟨f,args⟩:=fa;rw[I]at h;rcases h with⟨M,q,D,E,u,l,_⟩|⟨r,n,rest,ls,ls',e1,e2,V,e3,e4,e5,hT,rfl,_⟩|⟨ids,hA,he,_⟩
   rotate_left
   ·exact Ce i J I e1 e2 V e3 e4 e5 hT G
   ·obtain⟨N,j,C,d⟩:=qG (P:=P) i I hA.1;unfold Oper.wp;rw[d];show Calls P f _ w _;refine(hA.2 x s a w m N rfl i (fun r R=>⟨rfl,rfl,he r R⟩) j C).mono ?_;rintro e p ⟨v,m',rfl,E,u⟩;exact G _ _ _ (E.put o.dst J u)
   obtain⟨N,j,C,d⟩:=qG (P:=P) i I u.enter;obtain⟨Y,T,q2,q3,q4⟩:=xQ (vs:=N) E i j C;unfold eF at l;obtain⟨q',L,l⟩:=fq l;obtain⟨r,R,l⟩:=fq l;rw[E]at L;cases L;simp only[Rd.run,Ms]at l;subst l;unfold Oper.wp;rw[d];show Calls P f _ w _;cases M with
   | false=>
     have c:=b7.calls u w Y N T.envOk (by rw[q3];exact j) q4;refine c.mono ?_;rintro e p ⟨v,rfl,O,U,S,p2,p3,p4⟩;show K (a.put o.dst v) p;have y:=T.called O S p2 p3;obtain⟨er,ev,_⟩:=cn q.2 s
     have X:(O' o.dst D).run (dk (ik q.2) s)=some r:=by
      rw[<-R];cases D with
      |own e sz es=>cases o.dst<;>simp only[O',Rd.run,ev]
      |_=>rfl
     obtain⟨m',z,A⟩:=C9 y (base:=w.heap.size) i.Z3.size i.ZY (fun r n B g W=>by
      exact((T.rows r n B).blk W).2) X p4
     have H:=z.put o.dst J A;refine G _ _ m' ?_;unfold Out.app;simp only[seen,g4];exact H
   | true=>
     have c:=Sd.calls u w Y N T.envOk (by rw[q3];exact j) q4;refine c.mono ?_;rintro e p ⟨v,rfl,O,U,S,p4⟩;show K (a.put o.dst v) p;have y:=i.called O (S':=fun b o=>m.S b o\/U b o) (fun _ _ h=> .inl h) (fun b o h=>h.elim .inl fun k=> .inr (S b o k).1) (fun b o h=>h.elim (fun k=>Oc (i.low b o k) O.size) fun k=>(S b o k).2);have p5:RR (fun b o=>m.S b o\/U b o) p w.heap.size v D:=p4.wider (fun _ _ h=> .inr h) fun b o hbo h=>h.elim (fun k=>by have:=i.low b o k;omega) fun k=>k
     obtain⟨m',z,A⟩:=C9 y (base:=w.heap.size) i.Z3.size i.ZY (fun r n B g W=>by
      exact((i.rows r n B).blk W).2) R p5
     have H:=z.put o.dst J A;refine G _ _ m' ?_;unfold Out.app;simp only[seen,PX];exact H
end
/-! Results that lean on no memory -/
def bq:AV->Bool
 | .any | .lit _=>true
 | .agg cs | .tuple cs=>flats cs
 | .iface _ c=>bq c
 | .own _ _ es=>flatss es
 |_=>false
where
 flats:List AV->Bool
  |[]=>true
  |c::cs=>bq c&&flats cs
 flatss:List (List AV)->Bool
  |[]=>true
  |e::es=>flats e&&flatss es
def ow: ∀ {cs:List AV},bq.flats cs=true-> ∀(i:Nat)(c:AV),cs[i]? =some c->bq c=true
 |[],_,i,c,a=>by simp at a
 | d::cs,h,i,c,a=>by
   simp only[bq.flats,Mu]at h;cases i with
   |zero=>simp at a;subst a;exact h.1
   |succ i=>exact ow h.2 i c (by simpa using a)
def xV: ∀ {es:List (List AV)},bq.flatss es=true-> ∀(i:Nat)(e:List AV),es[i]? =some e->bq.flats e=true
 |[],_,i,c,a=>by simp at a
 | d::es,h,i,c,a=>by
   simp only[bq.flatss,Mu]at h;cases i with
   |zero=>simp at a;subst a;exact h.1
   |succ i=>exact xV h.2 i c (by simpa using a)
def al{a:Type}{f:a->List AV}(h: ∀x,bq.flats (f x)=true): ∀l:List a,bq.flatss (l.map f)=true
 |[]=>by simp[bq.flatss]
 |x::l=>by simp only[Nh,bq.flatss,h x,al h l,Bool.and_self]
def RV.flat{S S':Nat->Nat->Prop}{w l:World}{v:Value}{c:AV}(h:RV S w v c)(b:bq c=true):RV S' l v c:=by
 induction h with
 |any v=>exact .any v
 |lit v=>exact .lit v
 |agg g e h j k d=>exact .agg g e h j fun i v c f a=>d i v c f a (ow (by simpa only[bq]using b) i c a)
 |tuple g e h k d=>exact .tuple g e h fun i v c f a=>d i v c f a (ow (by simpa only[bq]using b) i c a)
 |iface t v c h d=>exact .iface t v c (d (by simpa only[bq]using b))
 |seq=>simp[bq]at b
 |ref=>simp[bq]at b
 |clo=>simp[bq]at b
 |fmap=>simp[bq]at b
 |full=>simp[bq]at b
 |news=>simp[bq]at b
def b7.lend{P:Program}{env:b8}{f:FuncId}{cs:List AV}{a:AV}(h:b7 P env f cs a)(m:bq a=true):Sd P env f cs a:=by
 refine⟨h.enter,fun w S A b x z=>(h.calls w S A b x z).mono ?_⟩;rintro e B ⟨v,rfl,t,o,_,_,_,n⟩;refine⟨v,rfl,t,fun _ _=>False,fun _ _ h=>h.elim,?_⟩;cases a with
 | own e C q=>
   obtain⟨l,y,g,b,_⟩:=n;refine⟨l,y,g,⟨b.len,b.one,b.ZS,fun i j c d=> ?_⟩,fun _ _ _ h=>h⟩;obtain⟨u,r,s⟩:=b.cell i j c d;refine⟨u,r,s.flat ?_⟩;unfold bs at d;cases k:q[i]? with
   |none=>rw[k]at d;cases d
   | some p=>
     rw[k]at d;exact ow (xV (by simpa only[bq]using m) i p k) j c d
 |_=>exact RV.flat (show RV o B v _ from n) m
end
section
inductive Gd where
 |always
 |on (t:Nat) (want:Bool)
 |bad
def km(ops:Array Oper)(o:Oper):Gd:=match o.guard with
 |none=> .always
 | some (j,a)=>match (ops[j]?).bind (·.dst) with
   |some t=> .on t a
   |none=> .bad
def zo:Value->Option Bool
 | .bool b=>some b
 |_=>none
def xT(v:Value)(a:Bool):Bool:=match v with
 | .bool b=>b==a
 |_=>false
def I7(v:Value)(a:Bool):(zo v==some a)=xT v a:=by
 unfold xT zo;cases v<;>(try rfl)
def CD(P:Program)(env:b8)(g:Gd)(o:Oper)(s s':St)(c:fy):Prop:=match g with
 | .always=> ∃a,MT P env o s a c/\s'=a.app o.dst s
 | .on t b=> ∃v,s.f t= .lit v/\if xT v b=true then ∃a,MT P env o s a c/\s'=a.app o.dst s else s'=s.put o.dst (.lit undef)/\c=eX
 | .bad=>False
/-! Where code is walked: in a function's frame, or in a round of a range over a function -/
def Sy:Option Nat->Fence
 |none=> .wide
 |some l=>Fence.wide.inRound l
section
variable {P:Program} {ro:Option Nat}
theorem Hm:(Sy ro).round=ro:=by cases ro<;>rfl
theorem KO(f:FuncId):(Sy ro).fn f:=by cases ro<;>exact trivial
theorem Hn:(Sy ro).depth=none:=by cases ro<;>rfl
theorem Ho{n:Nat}{f:FuncId}{args:Array Value}{w:World}{R:Ending->World->Prop}(h:Calls P f args w R):CallsIn (Sy ro) n P f args w R:=by
 cases ro with
 |none=>exact Ry.2 h
 |some l=>exact CallsIn.inRound l (Ry.2 h)
theorem J3{n:Nat}{row:String}{args:Array Value}{w:World}{R:Value->World->Prop}(h:Rows P row args w R):RowsIn (Sy ro) n P row args w R:=fun c b _=>by
 obtain⟨v,e,d,a⟩:=h c b;refine⟨v,e,d,?_⟩;cases ro with
 |none=>exact stepsIn_wide.2 a
 |some l=>exact stepsIn_wide.2 a
theorem Lb{o:Oper}{a:Act}{w:World}{K:Act->World->Prop}{Q:Exit->Act->World->Prop}(d: ∀c,o.op≠ .defer c)(h:o.wp P a w K Q):o.wpIn (Sy ro) 3 P a w K Q:=by
 unfold Oper.wpIn;refine⟨fun f _=>KO f,?_⟩
 have e:o.semAt (Sy ro).round a.eval=execOp a.eval o:=by
  rw[Hm];exact Oper.semAt_eq ro a.eval o d
 rw[e];unfold Oper.wp at h;have b: ∀ {p:Prop},((Sy ro).depth.isSome=true->p):=fun {p} h=>by rw[Hn]at h;cases h
 generalize (execOp a.eval o).run P w=r at h;cases r with
 | ok x g=>
   cases x<;>simp only[Oper.upon,Oper.uponIn]at h |- <;>
    first
     |exact h
     |exact⟨b,Ho h⟩
     |exact⟨b,J3 h⟩
 |halt x g=>cases x<;>simp only[Oper.upon,Oper.uponIn]at h |- <;>exact h
end
def MT.plain{P:Program}{env:b8}{o:Oper}{s:St}{a:Out}{d:fy}(h:MT P env o s a d)(c:Call):o.op≠ .defer c:=fun b=>by
 unfold MT bM at h;rw[b]at h;unfold aX at h;rw[b]at h;simp[Rd.run]at h
section
variable {P:Program} {x:py} {s s':St} {a:Act} {w:World} {m:ld} {o:Oper} {ops:Array Oper} {Q:Exit->Act->World->Prop} {ro:Option Nat}
theorem qS{i:Nat}{J:fy}(hi:ops[i]? =some o)(r:dT x s a w m)(B: ∀t,o.dst=some t->t<x.nt)(h:CD P x.env (km ops o) o s s' J){K:Act->World->Prop}
 (z: ∀G I m',dT x s' G I m'->K G I):wpOpIn (Sy ro) 3 P ops Q i K a w:=by
 unfold wpOpIn;rw[hi];simp only
 have C: ∀t c,km ops o= .on t c-> ∀v,s.f t= .lit v->Region.wanted o (yielded ops a.tmps)=xT v c:=fun t c d v A=>by
  unfold km at d;cases e:o.guard with
  |none=>rw[e]at d;cases d
  | some H=>
    obtain⟨j,E⟩:=H;rw[e]at d;simp only at d;cases l:(ops[j]?).bind (·.dst) with
    |none=>rw[l]at d;cases d
    | some M=>
      rw[l]at d;cases d;have q:=r.slot t;rw[A]at q;have k:=q.lit_;unfold Region.wanted;rw[e]
      have L:yielded ops a.tmps j=zo v:=by
       unfold yielded;rw[l];rw[Nw]at k;cases y:a.tmps[t]? with
       | none=>
         rw[y]at k;have k:undef=v:=k;subst k;simp[y,undef,zo]
       | some u=>
         rw[y]at k;have k:u=v:=k;subst k;simp only[OD,y];cases u<;>rfl
      simp only[L];exact I7 v c
 have p:km ops o= .always->Region.wanted o (yielded ops a.tmps)=true:=fun d=>by
  unfold km at d;cases e:o.guard with
  |none=>simp[Region.wanted,e]
  | some H=>
    rw[e]at d;simp only at d;split at d<;>cases d
 cases d:km ops o with
 | always=>
   rw[d]at h;obtain⟨D,n,rfl⟩:=h;rw[Mw (p d)];exact Lb n.plain (xa r B n z)
 |bad=>rw[d]at h;exact h.elim
 | on t c=>
   rw[d]at h;obtain⟨b,A,h⟩:=h;rw[C t c d b A];by_cases g:xT b c=true
   ·rw[Mw g]at h;obtain⟨D,n,rfl⟩:=h;rw[Mw g];exact Lb n.plain (xa r B n z)
   rw[Mt g]at h;obtain⟨rfl,_⟩:=h;rw[Mt g];exact⟨fun f _=>KO f,z _ _ _ (r.put o.dst B (.val (.lit _)))⟩
end
/-! Operations change places -/
def mN{ops:Array Oper}{o:Oper}{t:Nat}(h:t∉o.looksAt ops): ∀y∈o.op.operands,y≠ .tmp t:=fun y a e=>by
 subst e;exact h (Ns _ (List.mem_filterMap.2 ⟨.tmp t,by simpa using a,rfl⟩))
def y8{env:b8}{f f':Nat->AV}(o:Oper)(h: ∀y∈o.op.operands,gt env f' y=gt env f y):bM env f' o=bM env f o:=by
 obtain⟨i,k,n,l,b,guard⟩:=o;cases k with
 | call c=>
   obtain⟨a,args,m⟩:=c;cases a with
   | value y=>
     have d:args.toList.map (gt env f')=args.toList.map (gt env f):=O9 fun z j=>h z (by simp[Op.operands,Call.operands];exact .inr (by simpa using j));cases y with
     | tmp t=>
       have e:f' t=f t:=h (.tmp t) (by simp[Op.operands,Call.operands]);simp only[bM,e,d]
     |func g=>simp only[bM,d]
     |_=>rfl
   |_=>rfl
 |_=>rfl
def MT.frame{P:Program}{env:b8}{o:Oper}{s g:St}{z:Out}{B:fy}(h:MT P env o s z B)(L: ∀y∈o.op.operands,gt env g.f y=gt env s.f y)
 (p: ∀r∈B.rd,g.rows r=s.rows r/\g.vs r=s.vs r)(t: ∀r∈B.re,g.esc r=s.esc r):MT P env o g z B:=by
 unfold MT at h |-;rw[y8 (env:=env) (f:=s.f) (f':=g.f) o L];cases K:bM env s.f o with
 | none=>
   rw[K]at h;obtain⟨U,V⟩:=h;have Y:aX P env g.f o=aX P env s.f o:=Dz o L;simp only[Y];subst V;have:=Rd.frame (aX P env s.f o) s g p t;exact⟨this.1.trans U,by simp only[r7,this.2]⟩
 | some T=>
   obtain⟨f,args⟩:=T;rw[K]at h;rcases h with⟨c,q,i,k1,k2,k3,k4⟩|⟨r,I,A,ls,G,M,N,C,O,Q,R,X,S,rfl⟩|⟨E,J,u,rfl⟩
   rotate_left
   rotate_left
   ·refine .inr (.inr ⟨E,?_,fun r b=>(t r b).trans (u r b),rfl⟩);exact⟨J.1,fun x s' a w m vs hx W b Z hv=>J.2 x s' a w m vs hx W (fun r e=>⟨(b r e).1.trans (p r e).1,(b r e).2.1.trans (p r e).2,(b r e).2.2⟩) Z hv⟩
   rotate_left
   ·have b:=p r (by simp);have D:=t r (by simp);refine .inr (.inl ⟨r,I,A,ls,G,?_,b.1.trans N,C,O,D.trans Q,R,X,S,rfl⟩);rw[b.2, <-M]
   subst k4;have d:=Rd.frame (eF c o.dst args i) s g p t
   have v: ∀r∈((k0 args).log s).1,r∈((eF c o.dst args i).log s).1/\True:=fun r b=>⟨by
    unfold eF;generalize k0 args=H at b |-
    induction H with
    |ret a=>simp[Rd.log]at b
    |fail=>simp[Rd.log]at b
    | look q k n=>
      simp only[Rd.log,NV]at b;simp only[Rd.bind,Rd.log,NV];rcases b with b|b
      ·exact .inl b
      exact .inr (n _ _ b)
    | esc q k n=>
      simp only[Rd.log]at b;simp only[Rd.bind,Rd.log]
      exact n _ b,trivial⟩
   have l: ∀r∈((k0 args).log s).2,r∈((eF c o.dst args i).log s).2:=fun r b=>by
    unfold eF;generalize k0 args=H at b |-
    induction H with
    |ret a=>simp[Rd.log]at b
    |fail=>simp[Rd.log]at b
    | look q k n=>
      simp only[Rd.log]at b;simp only[Rd.bind,Rd.log];exact n _ _ b
    | esc q k n=>
      simp only[Rd.log,NV]at b;simp only[Rd.bind,Rd.log,NV];rcases b with b|b
      ·exact .inl b
      exact .inr (n _ b)
   have j:=Rd.frame (k0 args) s g (fun r b=>p r (v r b).1) (fun r b=>t r (l r b));exact .inl ⟨c,q,i,j.1.trans k1,k2,d.1.trans k3,by simp only[r7,d.2]⟩
def fy.apart_spec{f g:fy}(h:f.apart g=true):
 (∀r∈f.wr,r∉g.rd/\r∉g.re/\r∉g.wr/\r∉g.we)/\(∀r∈g.wr,r∉f.rd/\r∉f.re/\r∉f.wr/\r∉f.we)/\(∀r∈f.we,r∉g.re)/\(∀r∈g.we,r∉f.re):=by
 simp only[fy.apart,Mu]at h;obtain⟨⟨⟨b,c⟩,d⟩,e⟩:=h;refine⟨fun r a=>⟨fun q=>eN b a ?_,fun q=>eN b a ?_,fun q=>eN b a ?_,fun q=>eN b a ?_⟩,fun r a=>⟨fun q=>eN c a ?_,fun q=>eN c a ?_,fun q=>eN c a ?_,fun q=>eN c a ?_⟩,fun r a q=>eN d a q,fun r a q=>eN e a q⟩<;>simp[q]
def MT.foot{P:Program}{env:b8}{o:Oper}{s:St}{a:Out}{b:fy}(h:MT P env o s a b):b.wr=nb a.Z2/\b.we=zs a.Z2:=by
 unfold MT at h;cases c:bM env s.f o with
 |none=>rw[c]at h;obtain⟨_,rfl⟩:=h;exact⟨rfl,rfl⟩
 | some k=>
   rw[c]at h;rcases h with⟨d,q,i,_,_,_,rfl⟩|⟨r,j,e,l,g,_,_,_,_,_,_,_,rfl,rfl⟩|⟨f,_,_,rfl⟩
   ·exact⟨rfl,rfl⟩
   ·exact⟨rfl,rfl⟩
   exact⟨rfl,rfl⟩
structure Tz(s s':St)(d:Option Nat)(ft:fy):Prop where
 ex: ∃l c,s'=(dk l s).put d c/\nb l=ft.wr/\zs l=ft.we
def Tz.f{s s':St}{d:Option Nat}{a:fy}(h:Tz s s' d a)(t:Nat)(b:d≠some t):s'.f t=s.f t:=by
 obtain⟨l,c,rfl,_,_⟩:=h.ex;rw[M5 _ _ _ _ b,MV]
def Tz.rows{s s':St}{d:Option Nat}{a:fy}(h:Tz s s' d a)(r:Nat)(e:r∉a.wr):s'.rows r=s.rows r/\s'.vs r=s.vs r:=by
 obtain⟨l,c,rfl,b,_⟩:=h.ex;obtain⟨f,g,_⟩:=BZ (dk l s) d c;rw[f,g];exact IG l s r (by rw[b];exact e)
def Tz.esc{s s':St}{d:Option Nat}{a:fy}(h:Tz s s' d a)(r:Nat)(g:r∉a.wr)(b:r∉a.we):s'.esc r=s.esc r:=by
 obtain⟨l,c,rfl,e,f⟩:=h.ex;obtain⟨_,_,p3⟩:=BZ (dk l s) d c;rw[p3];exact Jq l s r (by rw[e];exact g) (by rw[f];exact b)
def CD.did{P:Program}{env:b8}{g:Gd}{o:Oper}{s s':St}{c:fy}(h:CD P env g o s s' c):Tz s s' o.dst c:=by
 have d:(∃a,MT P env o s a c/\s'=a.app o.dst s)->Tz s s' o.dst c:=fun⟨a,e,i⟩=>⟨a.Z2,a.val,i,(MT.foot e).1.symm,(MT.foot e).2.symm⟩;cases g with
 |always=>exact d h
 | on t f=>
   obtain⟨b,_,h⟩:=h;split at h
   ·exact d h
   obtain⟨rfl,rfl⟩:=h;exact⟨[], .lit undef,rfl,rfl,rfl⟩
 |bad=>exact h.elim
def CD.swap{P:Program}{env:b8}{ops:Array Oper}{g n:Oper}{s u I:St}{o x:fy}(p:CD P env (km ops n) n s u x)(hi:CD P env (km ops g) g u I o)
 (M:g.apart ops n=true)(O:o.apart x=true): ∃H,CD P env (km ops g) g s H o/\CD P env (km ops n) n H I x:=by
 obtain⟨a1,a2,a3⟩:=Oper.apart_spec M;obtain⟨f1,f2,f3,f4⟩:=fy.apart_spec O;have J:=p.did;have di:=hi.did
 have V: ∀y∈g.op.operands,gt env s.f y=gt env u.f y:=fun y T=>by
  cases y with
  |tmp t=>exact(J.f t (fun e=>mN (ops:=ops) (a3 t e) _ T rfl)).symm
  |_=>rfl
 have gi: ∀t d,km ops g= .on t d->s.f t=u.f t:=fun t d f=>by
  refine(J.f t fun e=>a3 t e ?_).symm;unfold km at f;cases i:g.guard with
  |none=>rw[i]at f;cases f
  | some U=>
    obtain⟨q,C⟩:=U;rw[i]at f;simp only at f;cases j:(ops[q]?).bind (·.dst) with
    |none=>rw[j]at f;cases f
    | some t'=>
      rw[j]at f;cases f;simp[Oper.looksAt,i,j]
 have gj: ∀(s':St),Tz s s' g.dst o-> ∀t d,km ops n= .on t d->s'.f t=s.f t:=fun s' d' t d f=>by
  refine d'.f t fun e=>a1 t e ?_;unfold km at f;cases i:n.guard with
  |none=>rw[i]at f;cases f
  | some U=>
    obtain⟨q,C⟩:=U;rw[i]at f;simp only at f;cases j:(ops[q]?).bind (·.dst) with
    |none=>rw[j]at f;cases f
    | some t'=>
      rw[j]at f;cases f;simp[Oper.looksAt,i,j]
 have first: ∃(l:List u3) (c:AV),I=(dk l u).put g.dst c/\nb l=o.wr/\zs l=o.we/\CD P env (km ops g) g s ((dk l s).put g.dst c) o:=by
  have D:(∃a,MT P env g u a o/\I=a.app g.dst u)-> ∃(l:List u3) (c:AV),I=(dk l u).put g.dst c/\nb l=o.wr/\zs l=o.we/\ ∃a,MT P env g s a o/\(dk l s).put g.dst c=a.app g.dst s:=fun⟨a,z,L⟩=>by
   refine⟨a.Z2,a.val,L,(MT.foot z).1.symm,(MT.foot z).2.symm,a,z.frame V (fun r m=> ?_) (fun r m=> ?_),rfl⟩
   ·have:=J.rows r (fun q=>(f2 r q).1 m);exact⟨this.1.symm,this.2.symm⟩
   exact(J.esc r (fun q=>(f2 r q).2.1 m) (fun q=>f4 r q m)).symm
  cases f:km ops g with
  | always=>
    rw[f]at hi;obtain⟨l,c,X,Y,Z,q4⟩:=D hi;exact⟨l,c,X,Y,Z,q4⟩
  | on t d=>
    rw[f]at hi;obtain⟨b,N,hi⟩:=hi;have E:s.f t= .lit b:=by rw[gi t d f];exact N
    by_cases h:xT b d=true
    ·rw[Mw h]at hi;obtain⟨l,c,X,Y,Z,q4⟩:=D hi;exact⟨l,c,X,Y,Z,b,E,by rw[Mw h];exact q4⟩
    rw[Mt h]at hi;obtain⟨rfl,rfl⟩:=hi;exact⟨[], .lit undef,rfl,rfl,rfl,b,E,by rw[Mt h];exact⟨rfl,rfl⟩⟩
  |bad=>rw[f]at hi;exact hi.elim
 obtain⟨l,c,rfl,B,G,S⟩:=first;refine⟨_,S,?_⟩;have v:Tz s ((dk l s).put g.dst c) g.dst o:=⟨l,c,rfl,B,G⟩
 have W: ∀y∈n.op.operands,gt env ((dk l s).put g.dst c).f y=gt env s.f y:=fun y T=>by
  cases y with
  |tmp t=>exact v.f t (fun e=>mN (ops:=ops) (a1 t e) _ T rfl)
  |_=>rfl
 have w: ∀(k:List u3)(K:AV),nb k=x.wr->zs k=x.we->(dk l ((dk k s).put n.dst K)).put g.dst c=(dk k ((dk l s).put g.dst c)).put n.dst K:=fun k K Q R=>by
  have A:dk l (dk k s)=dk k (dk l s):=by
   refine(IH k l s ?_ ?_)
   ·refine Mz.2 fun r m=> ?_;rw[Q]at m;have:=f2 r m;simp[B,G,this.2.2.1,this.2.2.2]
   refine Mz.2 fun r m=> ?_;rw[B]at m;have:=f1 r m;simp[R,this.2.2.2]
  rw[B5,B5,A,Tx];exact fun t ht e=>a2 t e ht
 have D:(∃a,MT P env n s a x/\u=a.app n.dst s)-> ∃a,MT P env n ((dk l s).put g.dst c) a x/\(dk l u).put g.dst c=a.app n.dst ((dk l s).put g.dst c):=fun⟨a,z,L⟩=>by
  refine⟨a,z.frame W (fun r m=>v.rows r (fun q=>(f1 r q).1 m)) (fun r m=>v.esc r (fun q=>(f1 r q).2.1 m) (fun q=>f3 r q m)),?_⟩;rw[L];exact w a.Z2 a.val (MT.foot z).1.symm (MT.foot z).2.symm
 cases f:km ops n with
 | always=>
   rw[f]at p;exact D p
 | on t d=>
   rw[f]at p;obtain⟨b,N,p⟩:=p;refine⟨b,by rw[gj _ v t d f];exact N,?_⟩;by_cases h:xT b d=true
   ·rw[Mw h]at p |-;exact D p
   rw[Mt h]at p |-;obtain⟨rfl,rfl⟩:=p;exact⟨w [] (.lit undef) rfl rfl,rfl⟩
 |bad=>rw[f]at p;exact p.elim
end
section
inductive Trace(P:Program)(env:b8)(ops:Array Oper)(F:Nat->fy):List Nat->St->St->Prop
 |nil (s:St):Trace P env ops F [] s s
 |cons {i:Nat} {is:List Nat} {o:Oper} {s s1 s2:St} (hi:ops[i]? =some o) (h:CD P env (km ops o) o s s1 (F i)) (ht:Trace P env ops F is s1 s2):Trace P env ops F (i::is) s s2
def S7(ops:Array Oper)(F:Nat->fy)(i j:Nat):Prop:= ∀a b,ops[i]? =some a->ops[j]? =some b->a.apart ops b=true/\(F i).apart (F j)=true
section
variable {P:Program} {env:b8} {ops:Array Oper} {F:Nat->fy}
theorem Trace.front{i:Nat} : ∀ {c d:List Nat}{s s':St},Trace P env ops F (c++i::d) s s'->(∀j∈c,S7 ops F i j)-> ∃o q,ops[i]? =some o/\CD P env (km ops o) o s q (F i)/\Trace P env ops F (c++d) q s'
 | [],d,s,s',h,_=>by
   cases h with
   |cons b h g=>exact⟨_,_,b,h,g⟩
 | j::c,d,s,s',h,a=>by
   cases h with
   | cons n f g=>
     obtain⟨p,x,b,e,l⟩:=g.front (fun k r=>a k (by simp[r]));obtain⟨v,w⟩:=a j (by simp) p _ b n;obtain⟨m,t,u⟩:=f.swap e v w;exact⟨p,m,b,t, .cons n u l⟩
/-! Which operations are ahead of which -/
inductive Tp(ops:Array Oper):Nat->Nat->Prop
 |one {i:Nat} {o:Oper} {e:Edge} (hi:ops[i]? =some o) (he:e∈o.after) (hb:Region.binds .any e=true):Tp ops e.on i
 |trans {i j k:Nat} (h1:Tp ops i j) (h2:Tp ops j k):Tp ops i k
theorem xU(acc:Array Nat)(j:Nat): ∀(l:List Edge)(s:Nat),(l.foldl (fun s e=>if Region.binds .any e then s||| 2^e.on||| acc.getD e.on 0 else s) s).testBit j=true->
 s.testBit j=true\/ ∃e∈l,Region.binds .any e=true/\(e.on=j\/(acc.getD e.on 0).testBit j=true)
 |[],s,h=> .inl h
 | e::l,s,h=>by
   rw[R6]at h;rcases xU acc j l _ h with h|⟨b,c,d,f⟩
   ·split at h
    ·rename_i a;rw[Qu,Qu]at h;simp only[OQ]at h;rcases h with(h|h)|h
     ·exact .inl h
     ·rw[QI]at h;exact .inr ⟨e,by simp,a, .inl (by simpa using h)⟩
     exact .inr ⟨e,by simp,a, .inr h⟩
    exact .inl h
   exact .inr ⟨b,by simp[c],d,f⟩
theorem ES(i j:Nat)(h:((Region.before ops).getD i 0).testBit j=true):Tp ops j i:=by
 have f: ∀n,n<=ops.size->(((ops.toList.take n).foldl (init:=(#[]:Array Nat)) fun acc o=>acc.push (o.after.foldl (fun s e=>if Region.binds .any e then s||| 2^e.on||| acc.getD e.on 0 else s) 0)).size=n)/\
  ∀i j,(((ops.toList.take n).foldl (init:=(#[]:Array Nat)) fun acc o=>acc.push (o.after.foldl (fun s e=>if Region.binds .any e then s||| 2^e.on||| acc.getD e.on 0 else s) 0)).getD i 0).testBit j=true->Tp ops j i:=by
  intro n
  induction n with
  | zero=>
    intro _;refine⟨rfl,fun i j h=> ?_⟩;simp at h
  | succ n p=>
    intro q;obtain⟨a,b⟩:=p (by omega);have m:n<ops.toList.length:=by rw[OK];omega
    rw[PK m,Ro];simp only[R6,List.foldl_nil];generalize (ops.toList.take n).foldl (init:=(#[]:Array Nat)) (fun acc o=>acc.push (o.after.foldl (fun s e=>if Region.binds .any e then s||| 2^e.on||| acc.getD e.on 0 else s) 0))=acc at a b |-;refine⟨by simp[a],fun i j h=> ?_⟩;have d:ops[n]? =some ops.toList[n]:=by simp
    rcases Px i n with c|c|c
    ·refine b i j ?_;rw[Nw,Pg,Mt (by omega), <-Nw]at h;exact h
    ·subst c;rw[Nw,Pg,Mw a.symm]at h;simp only[OH]at h;rw[<-Rh]at h;rcases xU acc j _ 0 h with h|⟨e,l,k,h⟩
     ·simp at h
     have g:Tp ops e.on i:= .one d (by simpa using l) k;rcases h with rfl|h
     ·exact g
     exact .trans (b _ _ h) g
    rw[Nw,P9 (by simp;omega)]at h;simp at h
 have:=(f ops.size (NC _)).2 i j;rw[Nq (by simp)]at this;refine this ?_;unfold Region.before at h;rw[<-Rh]at h;exact h
def zY(ops:Array Oper)(a:List fy):Bool:=
 (List.range ops.size).all fun i=>match ops[i]? with
  | some b=>(b.after.all fun e=> !Region.binds .any e||decide (e.on<i))&&
    (List.range i).all fun j=>((Region.before ops).getD i 0).testBit j||(match ops[j]? with
     |some c=>b.apart ops c&&(a.getD i eX).apart (a.getD j eX)
     |none=>true)
  |none=>true
theorem yb{ro:Option Nat}{x:py}{Q:Exit->Act->World->Prop}{s':St}(hd: ∀(i:Nat)(o:Oper),ops[i]? =some o-> ∀t,o.dst=some t->t<x.nt)
 (G: ∀(i:Nat)(o:Oper),ops[i]? =some o-> ∀e∈o.after,Region.binds .any e=true->e.on<i)
 (V: ∀i j,j<i->Tp ops j i\/S7 ops F i j)(hQ: ∀a w m,dT x s' a w m->Q .normal a w):
 ∀(f:List Nat)(b:Array Bool)(s:St)(a:Act)(w:World)(m:ld),b.size=ops.size->(∀i,i∈f↔i<ops.size/\b.getD i false=false)->f.Pairwise (· < ·)->
  (∀(i:Nat)(o:Oper),ops[i]? =some o->b.getD i false=true-> ∀e∈o.after,Region.binds .any e=true->b.getD e.on false=true)->
  Trace P x.env ops F f s s'->dT x s a w m->wpAnyIn (Sy ro) 3 P .any ops Q f.length b a w:=by
 intro f;generalize Y:f.length=n
 induction n generalizing f with
 | zero=>
   intro b s a w m R d _ _ ht T;have:f=[]:=Np Y;subst this;cases ht;refine⟨?_,hQ a w m T⟩;refine PO.2 fun i J=> ?_;rw[mem_ready]at J;obtain⟨C,o,A,_⟩:=J;have y:i<ops.size:=(N2.1 A).1
   have W:b.getD i false=false:=by
    rw[Nw]at C |-;rw[OO (by omega)]at C |-;exact C
   exact absurd ((d i).2 ⟨y,W⟩) (by simp)
 | succ n ih=>
   intro b s a w m R d c p ht T;refine⟨fun z=> ?_,fun i J=> ?_⟩
   ·
    cases f with
    |nil=>simp at Y
    | cons k rest=>
      obtain⟨L,q⟩:=(d k).1 (by simp)
      have:k∈Region.ready .any ops b:=by
       rw[mem_ready];refine⟨?_,ops[k],OO L,fun e E D=> ?_⟩
       ·rw[Nw]at q |-;rw[OO (by omega)]at q |-;exact q
       have y:=G k _ (OO L) e E D;rcases hq:b.getD e.on false with _|_
       ·have r:=(d e.on).2 ⟨by omega,hq⟩;rcases NV.1 r with h|h
        ·omega
        have:=(Od.1 c).1 e.on h;omega
       rfl
      rw[z]at this;cases this
   rw[mem_ready]at J;obtain⟨C,oi,l,B⟩:=J;have y:i<ops.size:=(N2.1 l).1
   have W:b.getD i false=false:=by
    rw[Nw]at C |-;rw[OO (by omega)]at C |-;exact C
   have r:i∈f:=(d i).2 ⟨y,W⟩;obtain⟨S,l2,rfl⟩:=List.append_of_mem r
   have I: ∀j,Tp ops j i->b.getD j false=true:=by
    intro j H
    have gen: ∀j k,Tp ops j k->(k=i\/b.getD k false=true)->b.getD j false=true:=by
     intro j k h
     induction h with
     | one u E D=>
       rintro(rfl|q)
       ·rw[l]at u;cases u;exact B _ E D
       exact p _ _ u q _ E D
     |trans _ _ ih1 ih2=>exact fun u=>ih1 (.inr (ih2 u))
    exact gen j i H (.inl rfl)
   have v: ∀j∈S,S7 ops F i j:=fun j H=>by
    have K:b.getD j false=false:=((d j).1 (by simp[H])).2
    have X:j<i:=by
     rw[Pk]at c;exact c.2.2 j H i (by simp)
    rcases V i j X with h|h
    ·rw[I j h]at K;cases K
    exact h
   obtain⟨o,s1,A,hst,ht2⟩:=ht.front v;rw[l]at A;cases A;refine qS l T (hd i oi l) hst fun a' w' m' U=> ?_;refine ih (S++l2) (by simp at Y |-;omega) (b.setIfInBounds i true) s1 a' w' m' (by simpa using R) (fun k=> ?_) ?_ (fun k o A u e E D=> ?_) ht2 U
   ·have hr:=d k;have M:(S++i::l2).Nodup:=c.imp (fun h=>Qv h)
    have Z:i∉S++l2:=by
     rw[Ov]at M;obtain⟨_,N,O⟩:=M;simp only[NY,Rj];exact⟨fun h=>O i h i (by simp) rfl,(PM.1 N).1⟩
    by_cases g:i=k
    ·subst g;refine⟨fun h=>absurd h Z,fun h=> ?_⟩;have h2:=h.2;rw[Nw,Array.getElem?_setIfInBounds_self_of_lt (by omega)]at h2;simp at h2
    rw[getD_set_ne false g, <-hr];simp only[NY,NV];constructor
    ·rintro(h|h)
     ·exact .inl h
     exact .inr (.inr h)
    rintro(h|h|h)
    ·exact .inl h
    ·exact absurd h.symm g
    exact .inr h
   ·rw[Pk]at c |-;exact⟨c.1,(Od.1 c.2.1).2,fun j H k u=>c.2.2 j H k (by simp[u])⟩
   by_cases g:i=k
   ·subst g;rw[l]at A;cases A;exact getD_set_true (B e E D)
   rw[getD_set_ne false g]at u;exact getD_set_true (p k o A u e E D)
end
/-! The region's laws -/
section
variable {P:Program} {x:py} {ops:Array Oper} {Q:Exit->Act->World->Prop} {s s':St} {a:Act} {w:World} {m:ld}
theorem DI{d:List fy}(h:zY ops d=true):(∀(i:Nat)(o:Oper),ops[i]? =some o-> ∀e∈o.after,Region.binds .any e=true->e.on<i)/\ ∀i j,j<i->Tp ops j i\/S7 ops (fun i=>d.getD i eX) i j:=by
 have h:=Mz.1 h;constructor
 ·intro i o k e n l;have b:i<ops.size:=(N2.1 k).1;have:=h i (by simpa using b);rw[k]at this;simp only[Mu]at this;have:=(QA.1 this.1) e n;simpa[l]using this
 intro i j g;by_cases b:i<ops.size
 ·have:=h i (by simpa using b);rw[OO b]at this;simp only[Mu]at this;have:=(Mz.1 this.2) j (by simpa using g);simp only[OQ]at this;rcases this with h1|h1
  ·exact .inl (ES i j h1)
  refine .inr fun p q c f=> ?_;rw[OO b]at c;cases c;rw[f]at h1;simpa using h1
 refine .inr fun p q c f=> ?_;rw[P9 (by omega)]at c;cases c
theorem AR{ro:Option Nat}{r:Nat}{b:List fy}(q:P.follows .mixedOrders=true)(n:(ops.all fun o=>o.dst.all (· <x.nt))=true)(e:zY ops b=true)(f:Trace P x.env ops (fun i=>b.getD i eX) (List.range ops.size) s s')(l:dT x s a w m)
 (k: ∀a w m,dT x s' a w m->Q .normal a w):(Code.region r ops true).wpIn (Sy ro) 3 P Q a w:=by
 obtain⟨g,j⟩:=DI e;refine wpIn_region_any q ?_
 have:=yb (ro:=ro) (P:=P) (x:=x) (ops:=ops) (F:=fun i=>b.getD i eX) (Q:=Q) (s':=s') (fun i o d t f=>by
  have:=(QA.1 n) o (QW d);rw[f]at this;simpa using this) g j k (List.range ops.size) (Array.replicate ops.size false) s a w.drew m (by simp) (fun i=>by
  simp only[NX];constructor
  ·exact fun h=>⟨h,by simp[h]⟩
  ·exact fun h=>h.1) (List.pairwise_lt_range) (fun i o d p=>by
  have c:i<ops.size:=(N2.1 d).1
  simp[c]at p) f (l.drew 1)
 rw[Po]at this;exact this
theorem AQ{ro:Option Nat}{i:Nat}{F:Nat->fy}(g:(ops.all fun o=>o.dst.all (· <x.nt))=true)(b:Trace P x.env ops F (List.range ops.size) s s')(e:dT x s a w m)
 (d: ∀a w m,dT x s' a w m->Q .normal a w):(Code.region i ops false).wpIn (Sy ro) 3 P Q a w:=by
 refine wpIn_region ?_;generalize List.range ops.size=l at b
 induction b generalizing a w m with
 |nil s=>exact d a w m e
 | cons f h b j=>
   rw[wpOpsIn_cons];refine qS f e (fun t b=> ?_) h fun k p n c=>j c d;have:=(QA.1 g) _ (QW f);rw[b]at this;simpa using this
end
end
section
def fp(P:Program)(env:b8)(nt:Nat)(c:Code)(Q:Exit->St->Prop)(s:St):Prop:=
 ∀(g:Option Nat)(x:py),x.env=env->x.nt=nt-> ∀a w m,dT x s a w m->c.wpIn (Sy g) 3 P (fun e d h=> ∃b f,Q e b/\dT x b d h f) a w
def bD(K:St->Prop)(Q:Exit->St->Prop):Exit->St->Prop
 | .normal,s=>K s
 |e,s=>Q e s
def be(b:Nat)(Q:Exit->St->Prop):Exit->St->Prop
 | .exit a,s=>if a=b then Q .normal s else Q (.exit a) s
 |e,s=>Q e s
section
variable {P:Program} {env:b8} {nt:Nat} {Q:Exit->St->Prop} {s:St}
theorem vK{c:Code}{b:Exit->St->Prop}(h:fp P env nt c Q s)(k: ∀e s,Q e s->b e s):fp P env nt c b s:=
 fun n x i j a w m g=>PS (h n x i j a w m g) fun _ _ _ ⟨o,l,d,f⟩=>⟨o,l,k _ _ d,f⟩
theorem oK(h:Q .normal s):fp P env nt .skip Q s:=fun _ _ _ _ _ _ m a=>wpIn_skip ⟨s,m,h,a⟩
theorem xt{l:Nat}(h:Q .normal s):fp P env nt (.label l) Q s:=fun _ _ _ _ _ _ m a=>wpIn_label ⟨s,m,h,a⟩
theorem aM(h:Q .ret s):fp P env nt .ret Q s:=fun _ _ _ _ _ _ m a=>wpIn_ret ⟨s,m,h,a⟩
theorem oX{a:Nat}(h:Q (.exit a) s):fp P env nt (.exit a) Q s:=fun _ _ _ _ _ _ m b=>wpIn_exit ⟨s,m,h,b⟩
theorem oS{c d:Code}(h:fp P env nt c (bD (fp P env nt d Q) Q) s):fp P env nt (.seq c d) Q s:=fun k x g i a w m n=>by
 refine wpIn_seq (PS (h k x g i a w m n) ?_);rintro e l p ⟨o,j,b,f⟩;cases e with
 |normal=>exact b k x g i l p j f
 |_=>exact⟨o,j,b,f⟩
theorem vL{y:Operand}{c d:Code}{b:Bool}(n:gt env s.f y= .lit (.bool b))(k:b=true->fp P env nt c Q s)(l:b=false->fp P env nt d Q s):fp P env nt (.cond y c d) Q s:=fun j x g h a w m e=>by
 have i:=ar e y;rw[g,n]at i;exact wpIn_cond_split i.lit_ (fun f=>k f j x g h a w m e) (fun f=>l f j x g h a w m e)
theorem oB{g:Nat}{c:Code}(h:fp P env nt c (be g Q) s):fp P env nt (.block g c) Q s:=fun o x l n a w m k=>by
 refine wpIn_block (PS (h o x l n a w m k) ?_);rintro e p q ⟨f,j,b,i⟩;cases e with
 | exit d=>
   show if d=g then _ else _
   have b:if d=g then Q .normal f else Q (.exit d) f:=b
   split
   ·rename_i hid;rw[Mw hid]at b;exact⟨f,j,b,i⟩
   rename_i hid;rw[Mt hid]at b;exact⟨f,j,b,i⟩
 |_=>exact⟨f,j,b,i⟩
theorem C5{c:Code}{s':St}(e:SM s s')(h:fp P env nt c Q s'):fp P env nt c Q s:=fun g x d f a w m b=>h g x d f a w m (b.less e)
theorem Jo{D:Type}{c:Code}(S:D->(Nat->Nat)->(Nat->Bool)->St)(b:D->(Nat->Nat)->(Nat->Bool)->Prop)(h:D->Nat)(i:D)(q:b i s.vs s.esc)(u:SM s (S i s.vs s.esc))
 (round: ∀d vs esc,b d vs esc->fp P env nt c (bD (fun g=> ∃f,b f g.vs g.esc/\SM g (S f g.vs g.esc)/\h f<h d) Q) (S d vs esc)):fp P env nt (.loop c) Q s:=fun B x r v a w m j=>by
 refine wpIn_loop_ghost (fun n a w=> ∃d vs esc m,b d vs esc/\h d=n/\dT x (S d vs esc) a w m) (h i) ⟨i,s.vs,s.esc,m,q,rfl,j.less u⟩ ?_;rintro n a w ⟨d,vs,esc,m,t,rfl,j⟩;refine PS (round d vs esc t B x r v a w m j) ?_;rintro e C E ⟨k,p,l,o⟩;cases e with
 | normal=>
   obtain⟨f,y,z,A⟩:=l;exact⟨h f,A,f,k.vs,k.esc,p,y,rfl,o.less z⟩
 |_=>exact⟨k,p,l,o⟩
end
/-! Regions -/
structure No where
 o:Oper
 g:Gd
def Sh(ops:Array Oper):List No:=ops.toList.map fun o=>⟨o,km ops o⟩
def jw(P:Program)(env:b8):List No->St->(St->List fy->Prop)->Prop
 |[],s,K=>K s []
 |q::a,s,K=> ∃d c,CD P env q.g q.o s d c/\jw P env a d fun e b=>K e (c::b)
section
variable {P:Program} {env:b8} {nt:Nat} {Q:Exit->St->Prop} {s:St} {ops:Array Oper}
theorem nc: ∀ {c:List No}{s:St}{K:St->List fy->Prop},jw P env c s K-> ∃s' a,a.length=c.length/\K s' a/\
 ∀(k:Nat)(F:Nat->fy),(∀j,j<c.length->F (k+j)=a.getD j eX)->(∀(j:Nat)(q:No),c[j]? =some q->ops[k+j]? =some q.o/\q.g=km ops q.o)->Trace P env ops F (List.range' k c.length) s s'
 |[],s,K,h=>⟨s,[],rfl,h,fun k F _ _=> .nil s⟩
 | q::l,s,K,h=>by
   obtain⟨u,e,m,n⟩:=h;obtain⟨s',a,o,p,r⟩:=nc n;refine⟨s',e::a,by simp[o],p,fun k F f i=> ?_⟩;have b:=i 0 q rfl;have d:F k=e:=f 0 (by simp);refine .cons (by simpa using b.1) (by rw[d, <-b.2];exact m) (r (k+1) F (fun j g=> ?_) fun j t g=> ?_)
   ·have:=f (j+1) (by simp;omega);rw[show k+1+j=k+(j+1) by omega,this];simp
   have:=i (j+1) t (by simpa using g);rw[show k+1+j=k+(j+1) by omega];exact this
theorem FE{ops:Array Oper}(j:Nat)(q:No)(h:(Sh ops)[j]? =some q):ops[0+j]? =some q.o/\q.g=km ops q.o:=by
 unfold Sh at h;rw[NB]at h;cases a:ops.toList[j]? with
 |none=>rw[a]at h;cases h
 | some o=>
   rw[a]at h;cases h;rw[OM];exact⟨by simpa using a,rfl⟩
theorem rX{t:Nat}{e:List No}(r:Sh ops=e)(g:(ops.all fun o=>o.dst.all (· <nt))=true)(h:jw P env e s fun s' _=>Q .normal s'):fp P env nt (.region t ops false) Q s:=fun y x k p a w m f=>by
 subst r;subst k;subst p;obtain⟨s',b,_,u,v⟩:=nc (ops:=ops) h;have d:=v 0 (fun i=>b.getD i eX) (fun j _=>by rw[OM]) (fun j q l=>FE j q l);have n:(Sh ops).length=ops.size:=by simp[Sh]
 rw[n, <-List.range_eq_range']at d;exact AQ g d f fun a w m c=>⟨s',m,u,c⟩
theorem rY{u:Nat}{e:List No}(t:Sh ops=e)(p:P.follows .mixedOrders=true)(g:(ops.all fun o=>o.dst.all (· <nt))=true)(h:jw P env e s fun s' b=>zY ops b=true/\Q .normal s'):fp P env nt (.region u ops true) Q s:=fun A x k r a w m f=>by
 subst t;subst k;subst r;obtain⟨s',b,_,⟨v,z⟩,y⟩:=nc (ops:=ops) h;have d:=y 0 (fun i=>b.getD i eX) (fun j _=>by rw[OM]) (fun j q l=>FE j q l);have n:(Sh ops).length=ops.size:=by simp[Sh]
 rw[n, <-List.range_eq_range']at d;exact AR p g v d f fun a w m c=>⟨s',m,z,c⟩
/-! One operation -/
theorem oZ{K:St->List fy->Prop}(h:K s []):jw P env [] s K:=h
def Tq(q:Rd Out)(s:St)(d:Option Nat)(c:St)(b:fy):Prop:= ∃a,q.run s=some a/\a.app d s=c/\r7 q s a=b
theorem LU{o:Oper}{a:List No}{e:St}{b:fy}{K:St->List fy->Prop}(j:bM env s.f o=none)(h:Tq (aX P env s.f o) s o.dst e b)(k:jw P env a e fun l c=>K l (b::c)):jw P env (⟨o, .always⟩::a) s K:=by
 obtain⟨d,f,g,i⟩:=h;refine⟨e,b,⟨d,?_,g.symm⟩,k⟩;unfold MT;rw[j];exact⟨f,i.symm⟩
theorem Fv{o:Oper}{t:Nat}{a b:Bool}{c:List No}{K:St->List fy->Prop}(f:s.f t= .lit (.bool b))(h:b=a->jw P env (⟨o, .always⟩::c) s K)(i:b= !a->jw P env c (s.put o.dst (.lit undef)) fun m e=>K m (eX::e)):jw P env (⟨o, .on t a⟩::c) s K:=by
 by_cases d:b=a
 ·obtain⟨l,g,j,k⟩:=h d;exact⟨l,g,⟨_,f,by rw[Mw (by simp[xT,d])];exact j⟩,k⟩
 exact⟨_,eX,⟨_,f,by rw[Mt (by simpa[xT]using d)];exact⟨rfl,rfl⟩⟩,i (by cases b<;>cases a<;>simp_all)⟩
theorem IJ{o:Oper}{t:Nat}{b:Bool}{v:Value}{a:List No}{K:St->List fy->Prop}(d:s.f t= .lit v)(e:xT v b=false)(k:jw P env a (s.put o.dst (.lit undef)) fun f c=>K f (eX::c)):jw P env (⟨o, .on t b⟩::a) s K:=
 ⟨_,eX,⟨_,d,by rw[Mt (by rw[e];simp)];exact⟨rfl,rfl⟩⟩,k⟩
theorem xx{lend:Bool}{o:Oper}{f:FuncId}{args:List AV}{a:List No}{i:St}{d:fy}{cs:List AV}{l:List Nat}{b:AV}{K:St->List fy->Prop}(q:bM env s.f o=some (f,args))(p:(k0 args).run s=some (cs,l))(c:Ln lend P env f cs b)
 (h:Tq (eF lend o.dst args b) s o.dst i d)(k:jw P env a i fun r e=>K r (d::e)):jw P env (⟨o, .always⟩::a) s K:=by
 obtain⟨g,j,m,n⟩:=h;refine⟨i,d,⟨g,?_,m.symm⟩,k⟩;unfold MT;rw[q];exact .inl ⟨lend,(cs,l),b,p,c,j,n.symm⟩
theorem xw{o:Oper}{f:FuncId}{args:List AV}{b:List No}{g:St}{row:Row}{rs:List Value}{e a:List (List Value)}{K:St->List fy->Prop}(r:Nat)(q:bM env s.f o=some (f,args))(p:args= .row r (s.vs r)::rs.map .lit)
 (h:s.rows r=some row)(j:s.esc r=false)(n:CT P f rs row.e row.sz e a)(l:row.es=bO e)(i:row.pure=true)(d:row.sz≠0)(m:((s.setRow r { row with es:=bO a }).put o.dst .any)=g)(k:jw P env b g fun t c=>K t (⟨[r],[r],[r],[]⟩::c)):jw P env (⟨o, .always⟩::b) s K:=by
 refine⟨g,_,⟨⟨.any,[.set r { row with es:=bO a }]⟩,?_,m.symm⟩,k⟩;unfold MT;rw[q];exact .inr (.inl ⟨r,row,rs,e,a,p,h,d,i,j,l,n,rfl,rfl⟩)
theorem qL{o:Oper}{f:FuncId}{args:List AV}{c:List No}{e:St}{cs:List AV}{a:List Nat}{b:Out}{K:St->List fy->Prop}(j:bM env s.f o=some (f,args))(i:args=cs)(h:To P env f cs a s.rows s.vs b)
 (l: ∀r∈a,s.esc r=false)(g:b.app o.dst s=e)(k:jw P env c e fun m d=>K m (⟨a,a,nb b.Z2,zs b.Z2⟩::d)):jw P env (⟨o, .always⟩::c) s K:=by
 subst i;refine⟨e,_,⟨b,?_,g.symm⟩,k⟩;unfold MT;rw[j];exact .inr (.inr ⟨a,h,l,rfl⟩)
end
/-! A function -/
def St.init(cs:List AV):St:=⟨fun t=>cs.getD t .any,fun _=>none,fun _=>0,fun _=>false⟩
def ga(P:Program)(f:Nat->AV):ResultVar->Rd AV
 | .tmp t=>(fz (f t)).bind fun y=> .ret y.1
 | .cell a t=>(match f a with
   | .loc r d i b=>Rd.row r d fun c=>eY P t c.es[i]? b
   |_=> .fail).bind fun o=>(fz o.val).bind fun y=> .ret y.1
def jK(P:Program)(f:Nat->AV):List ResultVar->Rd (List AV)
 |[]=> .ret []
 |r::b=>(ga P f r).bind fun c=>(jK P f b).bind fun a=> .ret (c::a)
def aj(P:Program)(f:Nat->AV):List ResultVar->Rd AV
 | [.tmp t]=>match f t with
   | .row r d=>Rd.row r d fun a=> .esc r fun b=>if a.pure then(if b then .ret (.seq a.sz a.es) else .ret (.own a.e a.sz a.es)) else .fail
   |c=>(fz c).bind fun y=> .ret y.1
 |[r]=>ga P f r
 |g=>(jK P f g).bind fun e=> .ret (.tuple e)
def Mg(P:Program)(rs:List ResultVar)(a:AV):Exit->St->Prop
 | .normal,s | .ret,s=>(aj P s.f rs).run s=some a
 |_,_=>False
section
variable {P:Program} {x:py} {s:St} {a:Act} {w:World} {m:ld}
def m8(tmps:Array Value):ResultVar->Sem Value
 | .tmp t=>pure (tmps.getD t undef)
 | .cell a t=>do loadVar t (<-asAddr (tmps.getD a undef))
theorem wU{r:ResultVar}{c:AV}(h:(ga P s.f r).run s=some c)(D:dT x s a w m): ∃v l S',(m8 a.tmps r).run P w= .ok v w/\dT x (dk (ik l) s) a w ⟨S',m.ρ⟩/\(∀b o,m.S b o->S' b o)/\RV S' w v c:=by
 cases r with
 | tmp t=>
   simp only[ga]at h;obtain⟨y,q,G⟩:=fq h;simp only[Rd.run,Ms]at G;subst G;obtain⟨S',B,C,K⟩:=ov q D (D.slot t);exact⟨_,y.2,S',rfl,B,C,K⟩
 | cell p t=>
   simp only[ga]at h;obtain⟨o,q,h⟩:=fq h;obtain⟨y,G,h⟩:=fq h;simp only[Rd.run,Ms]at h;subst h;have M:=D.slot p;split at q
   ·rename_i r Z i W e;rw[e]at M;obtain⟨f,A,E,J,q⟩:=dn q;obtain⟨g,O,S⟩:=M.loc_.2 E f A;obtain⟨N,T,U,V⟩:=((D.rows r f A).cells J).own;cases I:f.es[i]? with
    | none=>
      rw[I]at q;unfold eY at q;cases L:ef P t with
      |none=>rw[L]at q;simp[Rd.run]at q
      |some d=>rw[L]at q;obtain⟨k,n,z⟩:=d;cases k<;>simp[Rd.run]at q
    | some cs=>
      rw[I]at q
      obtain⟨v,X,Y,p3⟩:=lh (P:=P) (t:=t) (w:=w) (m:=m) (s:=s) (b:=g) (p:=i*f.sz) (fun j=>N.getD (i*f.sz+j) undef) (fun j c Q=>by
       have H:bs f.es i j=some c:=by unfold bs;rw[I];exact Q
       obtain⟨u,B,C⟩:=V i j c H;have R:N.getD (i*f.sz+j) undef=u:=by simp[List.getD,B]
       rw[R];refine⟨ig T O _ u B,U u (Mv B),?_⟩;split at C
       ·exact .val C
       exact C) q
      obtain⟨S',B,C,K⟩:=ov G D Y;refine⟨v,y.2,S',?_,B,C,K⟩;simp only[m8,S,asAddr,NZ,Nu,NP];simpa[Instr.loadAt,Instr.sureAddr]using X
   simp[Rd.run]at q
theorem AO{s s':St}(b:s'.rows=s.rows)(c:s'.vs=s.vs)(f:Nat->AV)(r:ResultVar):(ga P f r).run s'=(ga P f r).run s:=by
 cases r with
 | tmp t=>
   simp only[ga,Rd.run_bind,tY b c];rfl
 | cell p t=>
   simp only[ga,Rd.run_bind,tY b c]
   congr 1
   split
   ·simp only[Rd.row,Rd.run,b,c];split
    ·split
     ·rename_i d _ _;unfold eY;split<;>(try split)<;>rfl
     rfl
    rfl
   rfl
theorem qb{s s':St}(b:s'.rows=s.rows)(c:s'.vs=s.vs)(f:Nat->AV): ∀rs:List ResultVar,(jK P f rs).run s'=(jK P f rs).run s
 |[]=>rfl
 | r::rs=>by
   simp only[jK,Rd.run_bind,AO b c,qb b c f rs];rfl
theorem wV: ∀ {rs:List ResultVar}{s:St}{m:ld}{cs:List AV},(jK P s.f rs).run s=some cs->dT x s a w m-> ∃vs l S',(rs.mapM (m8 a.tmps)).run P w= .ok vs w/\dT x (dk (ik l) s) a w ⟨S',m.ρ⟩/\(∀b o,m.S b o->S' b o)/\vs.length=cs.length/\rs.length=cs.length/\ ∀(i:Nat)(v:Value)(c:AV),vs[i]? =some v->cs[i]? =some c->RV S' w v c
 | [],s,m,cs,h,g=>by
   simp only[jK,Rd.run,Ms]at h;subst h;exact⟨[],[],m.S,by simp,g,fun _ _ h=>h,rfl,rfl,fun i v c d _=>by simp at d⟩
 | r::rs,s,m,cs,h,g=>by
   simp only[jK]at h;obtain⟨c,z,h⟩:=fq h;obtain⟨e,A,h⟩:=fq h;simp only[Rd.run,Ms]at h;subst h;obtain⟨v,l,L,C,D,p3,p4⟩:=wU z g;obtain⟨t,u,y⟩:=cn l s;have f:(jK P (dk (ik l) s).f rs).run (dk (ik l) s)=some e:=by rw[y, <-A];exact qb t u _ rs
   obtain⟨vs,B,p,E,G,n,H,I,J⟩:=wV f D;refine⟨v::vs,l++B,p,?_,by simp only[ik,NA,g4];exact G,fun b o j=>n b o (p3 b o j),by simp[H],by simp[I],fun i K q d k=> ?_⟩
   ·simp[Q3,C,E]
   ·cases i with
    | zero=>
      simp only[Nr,Ms]at d k;subst d k;exact p4.mono fun b o j=>⟨n b o j, .rfl⟩
    |succ i=>exact J i K q (by simpa using d) (by simpa using k)
theorem iM{fn:Func}(tmps:Array Value):results fn tmps=(do let vs <-fn.results.mapM (m8 tmps);pure (if h:vs.size=1 then vs[0] else .tuple vs)):=by
 unfold results
 congr 1
theorem vX{fn:Func}{n:AV}(h:(aj P s.f fn.results.toList).run s=some n)(q:dT x s a w m): ∃v S',(results fn a.tmps).run P w= .ok v w/\(∀b o,x.S b o->S' b o)/\(∀b o,S' b o->x.S b o\/x.w.heap.size<=b)/\(∀b o,S' b o->b<w.heap.size)/\RR S' w x.w.heap.size v n:=by
 have rr: ∀ {S':Nat->Nat->Prop}{v:Value}{c:AV},RV S' w v c->RR S' w x.w.heap.size v c:=fun {S' v c} z=>by
  cases c with
  |own=>cases z
  |_=>exact z
 have one: ∀ {r:ResultVar}{v:Value},fn.results.toList=[r]->(m8 a.tmps r).run P w= .ok v w->(results fn a.tmps).run P w= .ok v w:=fun {r v} I z=>by
  have V:fn.results= #[r]:=by rw[<-Ny (xs:=fn.results),I]
  rw[iM,V];simp[z]
 have p: ∀ {r:ResultVar},fn.results.toList=[r]->(ga P s.f r).run s=some n-> ∃v S',(results fn a.tmps).run P w= .ok v w/\(∀b o,x.S b o->S' b o)/\(∀b o,S' b o->x.S b o\/x.w.heap.size<=b)/\(∀b o,S' b o->b<w.heap.size)/\RR S' w x.w.heap.size v n:=fun {r} I M=>by
  obtain⟨v,l,S',K,A,p3,p4⟩:=wU M q;exact⟨v,S',one I K,A.ZT,A.sub,A.low,rr p4⟩
 generalize f:fn.results.toList=R at h;unfold aj at h;split at h
 ·rename_i t;split at h
  ·rename_i r ver e;obtain⟨B,d,G,D,h⟩:=dn h;have E:=q.slot t;rw[e]at E;have z:=E.row_.2 G B d;simp only[Rd.run]at h;split at h
   ·rename_i O;split at h
    ·rename_i y;simp only[Rd.run,Ms]at h;subst h;obtain⟨S',L,q2,q3⟩:=q.show r B d D O;exact⟨_,S',one f (v:=a.tmps.getD t undef) rfl,L.ZT,L.sub,L.low,by rw[z];exact q3⟩
    rename_i y;simp only[Rd.run,Ms]at h;subst h;have k:=(q.rows r B d).cells D;obtain⟨xs,Q,Y,Z⟩:=k.own;refine⟨_,m.S,one f (v:=a.tmps.getD t undef) rfl,q.ZT,q.sub,q.low,?_⟩;rw[z]
    exact⟨xs,Q,k.pos,⟨Q.1,Y,k.len,fun i j c W=>by
     obtain⟨u,u1,S⟩:=Z i j c W;rw[Mw O]at S
     exact⟨u,u1,S⟩⟩,fun g X o=>k.fresh (by simpa using y) g X o⟩
   simp[Rd.run]at h
  exact p f (by simpa only[ga]using h)
 ·exact p f h
 obtain⟨T,U,h⟩:=fq h;simp only[Rd.run,Ms]at h;subst h;obtain⟨H,l,S',K,A,p3,p4,p5,p6⟩:=wV U q;rename_i N C
 have J:H.length≠1:=fun M=>by
  have:R.length=1:=by omega
  match R,this with
  |[r],_=>exact C r rfl
 refine⟨.tuple H.toArray,S',?_,A.ZT,A.sub,A.low, .tuple H T p4 p6⟩;rw[iM]
 have:(fn.results.mapM (m8 a.tmps)).run P w= .ok H.toArray w:=by
  rw[Array.mapM_eq_mapM_toList,f];simp[K]
 simp[this,J]
theorem lB{env:b8}{f:FuncId}{fn:Func}{c:Code}{cs:List AV}{d:AV}(C:P.funcs[f]? =some fn)(B:fn.body=some c)(b: ∀(args:Array Value)(w:World),(callFunc f args).run P w= .ok (.enter f args) w)(I:cs.length<=fn.ntmps)
 (h:fp P env fn.ntmps c (Mg P fn.results.toList d) (St.init cs)):b7 P env f cs d:=by
 refine⟨b,fun w S y l H E=> ?_⟩;refine calls_of_wp C B ?_
 have A:dT ⟨w,S,env,fn.ntmps,w,⟨S,fun _=>undef⟩,St.init cs,fun _=>False,[]⟩ (St.init cs) { tmps:=y.toArray++Array.replicate (fn.ntmps-y.toArray.size) undef,defers:=[] } w ⟨S,fun _=>undef⟩:=by
  refine⟨O1 _ _,l.low,fun _ _ h=>h,fun _ _ h=> .inl h,l.env,l.low,l.inv,rfl,by simp;omega,fun t=> ?_,(fun r j g=>by cases g),(fun r K j k g=>by cases g),(fun _ _ D=>⟨D, .rfl⟩),(fun _=>NC _),(fun r k _ g=>by cases g),NC _,(fun _ h=>h.elim),(fun r j g=>by cases g)⟩;show RL w _ _ _ (cs.getD t .any);by_cases z:t<cs.length
  ·refine .val (E t _ _ ?_ ?_)
   ·rw[Nw,Pt (by simp;omega)];simp[show t<y.length by omega]
   simp[List.getD,z]
  have:cs.getD t .any= .any:=by simp[List.getD,NI (RO z)]
  rw[this];exact .val (.any _)
 refine wpIn_wide.1 (PS (h none _ rfl rfl _ w _ A) ?_);rintro e G L ⟨n,J,p,i⟩;cases e with
 | normal=>
   obtain⟨v,o,q,u,p3,p4,p5⟩:=vX (fn:=fn) (show (aj P n.f fn.results.toList).run n=some d from p) i;exact⟨i.ZU,v,q,v,rfl,i.Z3,o,u,p3,p4,p5⟩
 | ret=>
   obtain⟨v,o,q,u,p3,p4,p5⟩:=vX (fn:=fn) (show (aj P n.f fn.results.toList).run n=some d from p) i;exact⟨i.ZU,v,q,v,rfl,i.Z3,o,u,p3,p4,p5⟩
 |_=>exact p.elim
end
end
section
section
variable {P:Program} {env:b8} {f:Nat->AV} {d:Option Nat} {ty:TypeId} {ps:String} {af:Array Edge} {g:Option (Nat×Bool)}
theorem Fa{y:Operand} :aX P env f ⟨d, .move y,ty,ps,af,g⟩=val (gt env f y):=rfl
theorem xe{y:Operand} :aX P env f ⟨d, .assign y,ty,ps,af,g⟩=val (gt env f y):=rfl
def E9(c y z:AV):Rd Out:=match c with
 | .lit (.bool true)=>val y
 | .lit (.bool false)=>val z
 |_=> .fail
theorem F9{c y z:Operand} :aX P env f ⟨d, .pick c y z,ty,ps,af,g⟩=E9 (gt env f c) (gt env f y) (gt env f z):=rfl
def zT(P:Program)(d:Option Nat)(t:TypeId):Rd Out:=match ef P t with
 |some q=>if q.zero.length=q.size/\q.zero.all (·.oneCell') then mJ d t (q.zero.map .lit) else .fail
 |none=> .fail
theorem CS{t:TypeId} :aX P env f ⟨d, .alloc t,ty,ps,af,g⟩=zT P d t:=rfl
theorem KS{t:TypeId}{y:Operand} :aX P env f ⟨d, .box t y,ty,ps,af,g⟩=iO (gt env f y).asCells (mJ d t):=rfl
def zM(P:Program)(t:TypeId)(ps:List (Nat×AV)):Rd Out:=match ef P t with
 |some ⟨.struct b _,n,z⟩=>if z.length=n/\z.all (·.oneCell') then iO (mV b (z.map .lit) ps) fun a=>val (.agg a) else .fail
 |_=> .fail
theorem CQ{t:TypeId}{a:Array (Nat×Operand)} :aX P env f ⟨d, .build t a,ty,ps,af,g⟩=zM P t (a.toList.map fun p=>(p.1,gt env f p.2)):=rfl
def yi(P:Program)(d:Option Nat)(t:TypeId)(n:Nat)(ps:List (Nat×AV)):Rd Out:=match ef P t,d with
 |some ⟨.slice e a _ b,_,_⟩,some d=>if b.length=a/\0<a/\b.all (·.oneCell')/\n*a<=16777216 then
  (eL ps).bind fun q=>iO (jM a (List.replicate n (b.map .lit)) q.1) fun c=>
   .look d fun _ v=> .ret ⟨.row d (v+1),ik q.2++[.renew d ⟨a,c,e,true⟩]⟩ else .fail
 |_,_=> .fail
theorem mX{t:TypeId}{n:Nat}{a:Array (Nat×Operand)} :aX P env f ⟨d, .buildSlice t n a,ty,ps,af,g⟩=yi P d t n (a.toList.map fun p=>(p.1,gt env f p.2)):=rfl
def Ec(P:Program)(t:TypeId)(a:AV):Rd Out:=match a with
 | .ref _ h i b=>eY P t h[i]? b
 | .loc r e i b=>Rd.row r e fun c=>eY P t c.es[i]? b
 |_=> .fail
theorem Fc{t:TypeId}{y:Operand} :aX P env f ⟨d, .load t y,ty,ps,af,g⟩=Ec P t (gt env f y):=rfl
theorem CK{t:TypeId}{y z:Operand} :aX P env f ⟨d, .store t y z,ty,ps,af,g⟩=pU P t (gt env f y) (gt env f z):=rfl
theorem CR{a:BinOp}{t u:TypeId}{y z:Operand} :aX P env f ⟨d, .binOp a t y z u,ty,ps,af,g⟩=vu P a t (cX y) (cX z) (gt env f y) (gt env f z):=rfl
def MZ(a:UnOp)(y:AV):Rd Out:=match a,y with
 | .not, .lit (.bool b)=>val (.lit (.bool (!b)))
 | .neg, .lit (.int k n)=>val (.lit (.int k (k.wrap (0-n))))
 | .xor, .lit (.int k n)=>val (.lit (.int k (MY k n)))
 |_,_=> .fail
theorem F8{a:UnOp}{t:TypeId}{y:Operand} :aX P env f ⟨d, .unOp a t y,ty,ps,af,g⟩=MZ a (gt env f y):=rfl
theorem tt{s t:TypeId}{y:Operand} :aX P env f ⟨d, .convert s t y,ty,ps,af,g⟩=vt P s t (gt env f y):=rfl
def zA(P:Program)(t:TypeId)(y:AV):Rd Out:=match ef P t with
 |some ⟨.iface,_,_⟩=> .fail
 |some _=>(fz y).bind fun y=> .ret ⟨.iface t y.1,ik y.2⟩
 |none=> .fail
theorem CN{t:TypeId}{y:Operand} :aX P env f ⟨d, .makeInterface t y,ty,ps,af,g⟩=zA P t (gt env f y):=rfl
theorem Fb{t:TypeId}{l c:Operand} :aX P env f ⟨d, .makeSlice t l c,ty,ps,af,g⟩=vp P d t (gt env f l) (gt env f c):=rfl
theorem Fe{t:TypeId}{y mx:Operand}{lo hi:Option Operand} :aX P env f ⟨d, .slice t y lo hi (some mx),ty,ps,af,g⟩=vr P t (gt env f y) (lo.map (gt env f)) (hi.map (gt env f)) (gt env f mx):=rfl
theorem CL{t:TypeId}{y:Operand}{lo hi:Option Operand} :aX P env f ⟨d, .slice t y lo hi none,ty,ps,af,g⟩=pV P t (gt env f y) (lo.map (gt env f)) (hi.map (gt env f)):=rfl
theorem oJ{t:TypeId}{y:Operand}{i:Nat} :aX P env f ⟨d, .fieldAddr t y i,ty,ps,af,g⟩=gL P t (gt env f y) i:=rfl
theorem CO{t:TypeId}{y:Operand}{i:Nat} :aX P env f ⟨d, .field t y i,ty,ps,af,g⟩=iO (pX P t (gt env f y) i) val:=rfl
theorem oI{t:TypeId}{y i:Operand} :aX P env f ⟨d, .indexAddr t y i,ty,ps,af,g⟩=gK P t (gt env f y) (gt env f i):=rfl
theorem CM{t:TypeId}{y i:Operand} :aX P env f ⟨d, .index t y i,ty,ps,af,g⟩=iO (pW P t (gt env f y) (gt env f i)) val:=rfl
def M0(y:AV)(i:Nat):Rd Out:=match y with
 | .tuple a=>iO a[i]? val
 |_=> .fail
theorem tq{y:Operand}{i:Nat} :aX P env f ⟨d, .extract y i,ty,ps,af,g⟩=M0 (gt env f y) i:=rfl
theorem KR{y:Operand}{t:TypeId} :aX P env f ⟨d, .call ⟨.builtin .len, #[y], #[t]⟩,ty,ps,af,g⟩=zl P t (gt env f y):=rfl
theorem KP{y z:Operand}{ts:Array TypeId} :aX P env f ⟨d, .call ⟨.builtin .min, #[y,z],ts⟩,ty,ps,af,g⟩=EA (gt env f y) (gt env f z):=rfl
theorem KQ{y z:Operand}{ts:Array TypeId} :aX P env f ⟨d, .call ⟨.builtin .max, #[y,z],ts⟩,ty,ps,af,g⟩=EB (gt env f y) (gt env f z):=rfl
theorem tm{t:TypeId} :aX P env f ⟨d, .makeMap t none,ty,ps,af,g⟩=j9 P d t:=rfl
theorem CP{y:Operand}{t:TypeId} :aX P env f ⟨d, .call ⟨.builtin .clear, #[y], #[t]⟩,ty,ps,af,g⟩=mY P t (gt env f y):=rfl
def zj(g:FuncId)(first:Bool)(cs a:List AV):Rd Out:=if first/\ !cs.isEmpty then val (.clo g cs) else if first then val (.lit (.func (.func g) #[] #[])) else mU g cs.isEmpty a
theorem rD{fn:FuncId}{first captured:Array Operand} :aX P env f ⟨d, .makeFunc (.func fn) first captured,ty,ps,af,g⟩=zj fn first.isEmpty (captured.toList.map (gt env f)) (first.toList.map (gt env f)):=by
 show (if first.isEmpty/\ !captured.isEmpty then val (.clo fn (captured.toList.map (gt env f))) else if first.isEmpty then val (.lit (.func (.func fn) #[] #[])) else mU fn captured.isEmpty (first.toList.map (gt env f)))=_;unfold zj
 have:(captured.toList.map (gt env f)).isEmpty=captured.isEmpty:=by
  rcases captured with⟨l⟩;cases l<;>rfl
 rw[this]
theorem xc{t:TypeId}{y k:Operand}{a:Bool} :aX P env f ⟨d, .lookup t y k a,ty,ps,af,g⟩=lT P t (gt env f y) (gt env f k) a:=rfl
theorem rC{t:TypeId}{y k:Operand} :aX P env f ⟨d, .mapEntry t y k,ty,ps,af,g⟩=iV P t (gt env f y) (gt env f k):=rfl
theorem mW{t:TypeId}{y n v:Operand} :aX P env f ⟨d, .entryStore t y n v,ty,ps,af,g⟩=eU (gt env f y) (gt env f n) (gt env f v):=rfl
theorem oH{t:TypeId}{y k v:Operand} :aX P env f ⟨d, .mapUpdate t y k v,ty,ps,af,g⟩=gJ P t (gt env f y) (gt env f k) (gt env f v):=rfl
theorem xd{y k:Operand}{t a:TypeId} :aX P env f ⟨d, .call ⟨.builtin .delete, #[y,k], #[t,a]⟩,ty,ps,af,g⟩=jj P t (gt env f y) (gt env f k):=rfl
theorem xf{y z:Operand}{t:TypeId} :aX P env f ⟨d, .call ⟨.builtin .append, #[y,z], #[t,t]⟩,ty,ps,af,g⟩=jk P d t (gt env f y) (gt env f z):=by
 show (if t=t then _ else _)=_;rw[Mw rfl]
theorem KH{t:Nat} :gt env f (.tmp t)=f t:=rfl
theorem KJ{k:IntKind}{n:Int} :gt env f (.const (.int k n))= .lit (.int k n):=rfl
theorem F0{b:Bool} :gt env f (.const (.bool b))= .lit (.bool b):=rfl
theorem KI{s:ByteArray} :gt env f (.const (.string s))= .lit (.string s):=rfl
theorem FX{n c:Nat} :gt env f (.const (.slice none n c))= .lit (.slice none n c):=rfl
theorem FY:gt env f (.const (.pointer none))= .lit (.pointer none):=rfl
theorem FZ:gt env f (.const .nilIface)= .lit .nilIface:=rfl
end
def PA:Rd Out->St->List Nat->List Nat->Option (Out×List Nat×List Nat)
 | .ret o,_,l,e=>some (o,l,e)
 | .fail,_,_,_=>none
 | .look r k,s,l,e=>PA (k (s.rows r) (s.vs r)) s (l++[r]) e
 | .esc r k,s,l,e=>PA (k (s.esc r)) s l (e++[r])
def G6: ∀(q:Rd Out)(s:St)(l e:List Nat)(o:Out)(b a:List Nat),PA q s l e=some (o,b,a)->q.run s=some o/\b=l++(q.log s).1/\a=e++(q.log s).2:=by
 intro q s
 induction q with
 |ret o=>intro l e i b a h;simp only[PA,Ms,QG]at h;obtain⟨rfl,rfl,rfl⟩:=h;simp[Rd.run,Rd.log]
 |fail=>intro l e i b a h;simp[PA]at h
 | look r k g=>
   intro l e i b a h;obtain⟨c,d,f⟩:=g _ _ _ _ _ _ _ h;exact⟨c,by rw[d];simp[Rd.log],by rw[f];simp[Rd.log]⟩
 | esc r k g=>
   intro l e i b a h;obtain⟨c,d,f⟩:=g _ _ _ _ _ _ h;exact⟨c,by rw[d];simp[Rd.log],by rw[f];simp[Rd.log]⟩
def x5(q:Option (Out×List Nat×List Nat))(s:St)(d:Option Nat)(b:St)(a:fy):Prop:=match q with
 |some (o,l,e)=>o.app d s=b/\(⟨l,e,nb o.Z2,zs o.Z2⟩:fy)=a
 |none=>False
def ux{q:Rd Out}{s:St}{d:Option Nat}{f:St}{a:fy}(h:x5 (PA q s [] []) s d f a):Tq q s d f a:=by
 unfold x5 at h;split at h
 ·rename_i o l e i;obtain⟨g,b,c⟩:=G6 q s [] [] o l e i;refine⟨o,g,h.1,?_⟩;rw[<-h.2];simp only[PX]at b c;simp[r7,b,c]
 exact h.elim
section
variable {P:Program} {env:b8} {s:St}
theorem oO{o:Oper}{a:List No}{d:St}{c:fy}{K:St->List fy->Prop}(e:bM env s.f o=none)(h:x5 (PA (aX P env s.f o) s [] []) s o.dst d c)(k:jw P env a d fun f b=>K f (c::b)):jw P env (⟨o, .always⟩::a) s K:=
 LU e (ux h) k
end
end
section
def nR:List (Nat×AV)->Nat->AV
 |[],_=> .any
 |p::l,t=>if t=p.1 then p.2 else nR l t
def ap:List (Nat×Row)->Nat->Option Row
 |[],_=>none
 |p::l,t=>if t=p.1 then some p.2 else ap l t
def head(F:List (Nat×AV))(R:List (Nat×Row))(vs:Nat->Nat)(esc:Nat->Bool):St:=⟨nR F,ap R,vs,esc⟩
def cV(s:St):List (Nat×AV)->Prop
 |[]=>True
 |p::l=>s.f p.1=p.2/\cV s l
def bw(s:St):List (Nat×Row)->Prop
 |[]=>True
 |p::l=>s.rows p.1=some p.2/\bw s l
def dR{s:St}{F:List (Nat×AV)}{R:List (Nat×Row)}(b:cV s F)(c:bw s R):SM s (head F R s.vs s.esc):=by
 refine⟨fun t=> ?_,fun r=> ?_,rfl,rfl⟩
 ·show nR F t=s.f t\/nR F t= .any
  induction F with
  |nil=>exact .inr rfl
  | cons p l a=>
    simp only[nR];split
    ·rename_i e;subst e;exact .inl b.1.symm
    exact a b.2
 ·show ap R r=s.rows r\/ap R r=none
  induction R with
  |nil=>exact .inr rfl
  | cons p l a=>
    simp only[ap];split
    ·rename_i e;subst e;exact .inl c.1.symm
    exact a c.2
section
variable {P:Program} {env:b8} {nt:Nat} {Q:Exit->St->Prop} {s:St}
theorem lU{c:Code}(F:List (Nat×AV))(R:List (Nat×Row))(a:cV s F)(b:bw s R)(h:fp P env nt c Q (head F R s.vs s.esc)):fp P env nt c Q s:=C5 (dR a b) h
theorem aH{D:Type}{c:Code}(F:D->(Nat->Nat)->List (Nat×AV))(R:D->(Nat->Nat)->List (Nat×Row))(a:D->(Nat->Nat)->(Nat->Bool)->Prop)(h:D->Nat)(g:D)
 (j:a g s.vs s.esc)(k:cV s (F g s.vs))(l:bw s (R g s.vs))
 (round: ∀d vs esc,a d vs esc->fp P env nt c (bD (fun b=> ∃f,a f b.vs b.esc/\cV b (F f b.vs)/\bw b (R f b.vs)/\h f<h d) Q) (head (F d vs) (R d vs) vs esc)):fp P env nt (.loop c) Q s:=by
 refine Jo (fun d vs esc=>head (F d vs) (R d vs) vs esc) a h g j (dR k l) fun d vs esc m=> ?_;refine vK (round d vs esc m) fun e b i=> ?_;cases e with
 | normal=>
   obtain⟨f,n,o,p,q⟩:=i;exact⟨f,n,dR o p,q⟩
 |_=>exact i
end
section
variable {P:Program} {env:b8} {nt:Nat} {Q:Exit->St->Prop} {s:St}
theorem LQ{y:Operand}{c d:Code}{b:Bool}(f:gt env s.f y= .lit (.bool b))(e:b=true)(h:fp P env nt c Q s):fp P env nt (.cond y c d) Q s:=vL f (fun _=>h) (fun a=>by rw[e]at a;cases a)
theorem MR{y:Operand}{c d:Code}{b:Bool}(f:gt env s.f y= .lit (.bool b))(e:b=false)(h:fp P env nt d Q s):fp P env nt (.cond y c d) Q s:=vL f (fun a=>by rw[e]at a;cases a) (fun _=>h)
end
def Mh:((0:Nat):Int)=0:=rfl
def it{a b:Nat}(h:a<b):(a:Int)< (b:Int):=by omega
def aD{k n:Nat}(h:k<n)(a:n<=9223372036854775807):IntKind.i64.wrap ((k:Int)+1)=((k+1:Nat):Int):=by rw[Pu _ (by omega)];rfl
def aW{n:Int}(a: -9223372036854775808<=n)(b:n<9223372036854775808):IntKind.i64.wrap n=n:=Pu _ (by omega)
end
section
def Is{c:Type}(a b:c):Prop:=a=b
def iR{b:Type}{a:b} :Is a a:=rfl
def N'(q:Rd (List AV×List Nat))(s:St)(cs:List AV):Prop:=match q.run s with
 |some (a,_)=>Is a cs
 |none=>False
section
variable {P:Program} {env:b8} {s:St}
theorem oC{o:Oper}{f:FuncId}{args:List AV}{a:List No}{i:St}{g:fy}{cs:List AV}{c:AV}{K:St->List fy->Prop}(m:bM env s.f o=some (f,args))(b:b7 P env f cs c)(d:N' (k0 args) s cs)
 (h:x5 (PA (eF false o.dst args c) s [] []) s o.dst i g)(k:jw P env a i fun p e=>K p (g::e)):jw P env (⟨o, .always⟩::a) s K:=by
 unfold N' at d;split at d
 ·rename_i j l n;subst d;exact xx (lend:=false) m n b (ux h) k
 exact d.elim
theorem oL{o:Oper}{f:FuncId}{args:List AV}{a:List No}{i:St}{g:fy}{cs:List AV}{c:AV}{K:St->List fy->Prop}(m:bM env s.f o=some (f,args))(b:Sd P env f cs c)(d:N' (k0 args) s cs)
 (h:x5 (PA (eF true o.dst args c) s [] []) s o.dst i g)(k:jw P env a i fun p e=>K p (g::e)):jw P env (⟨o, .always⟩::a) s K:=by
 unfold N' at d;split at d
 ·rename_i j l n;subst d;exact xx (lend:=true) m n b (ux h) k
 exact d.elim
theorem kO{env:b8}{o:Oper}{f:Nat->AV}{t g:Nat}{a:Array Operand}{ts:Array TypeId}(c:o.op= .call { callee:= .value (.tmp t),args:=a,argTypes:=ts })(b:Is (f t) (.lit (.func (.func g) #[] #[]))):bM env f o=some (g,a.toList.map (gt env f)):=by
 unfold bM;rw[c];simp only;rw[show f t= .lit (.func (.func g) #[] #[]) from b]
theorem cM{env:b8}{o:Oper}{f:Nat->AV}{t g:Nat}{a:Array Operand}{ts:Array TypeId}{cs:List AV}(c:o.op= .call { callee:= .value (.tmp t),args:=a,argTypes:=ts })(b:Is (f t) (.clo g cs)):bM env f o=some (g,a.toList.map (gt env f)++cs):=by
 unfold bM;rw[c];simp only;rw[show f t= .clo g cs from b]
theorem Jr{o:Oper}{t:Nat}{a:Bool}{b:List No}{K:St->List fy->Prop}(c:Is (s.f t) (.lit (.bool a)))(k:jw P env (⟨o, .always⟩::b) s K):jw P env (⟨o, .on t a⟩::b) s K:=
 Fv c (fun _=>k) (fun h=>by cases a<;>cases h)
theorem Js{o:Oper}{t:Nat}{b:Bool}{v:Value}{a:List No}{K:St->List fy->Prop}(d:Is (s.f t) (.lit v))(e:Is (xT v b) false)(k:jw P env a (s.put o.dst (.lit undef)) fun f c=>K f (eX::c)):jw P env (⟨o, .on t b⟩::a) s K:=
 IJ d e k
end
section
variable {P:Program} {env:b8} {nt:Nat} {Q:Exit->St->Prop} {s:St}
theorem oY{y:Operand}{c d:Code}(a:Is (gt env s.f y) (.lit (.bool true)))(h:fp P env nt c Q s):fp P env nt (.cond y c d) Q s:=LQ a rfl h
theorem oN{y:Operand}{c d:Code}(a:Is (gt env s.f y) (.lit (.bool false)))(h:fp P env nt d Q s):fp P env nt (.cond y c d) Q s:=MR a rfl h
end
def Jx(l:List UInt8):bS ⟨l.toArray⟩=l:=rfl
end
section
def F'(a c:AV):Prop:= ∀S w v,RV S w v a->RV S w v c
def F'.refl(c:AV):F' c c:=fun _ _ _ h=>h
def F'.any(c:AV):F' c .any:=fun _ _ _ _=> .any _
def F'.nil(sz:Nat):F' (.lit (.slice none 0 0)) (.seq sz []):=fun S w v h=>by
 cases h;exact .seq none 0 0 sz [] 0 0 (fun _ _=> .nilIface) rfl (NC _) (fun h=>by omega) (fun i e b=>by simp at b) (fun i j c a=>by simp[bs]at a) (fun i j c a=>by simp[bs]at a)
def y5(cs' cs:List AV):Prop:=cs'.length=cs.length/\ ∀(i:Nat)(a c:AV),cs'[i]? =some a->cs[i]? =some c->F' a c
def y5.nil:y5 [] []:=⟨rfl,fun i a c h _=>by simp at h⟩
def y5.cons{f c:AV}{cs' cs:List AV}(h:F' f c)(g:y5 cs' cs):y5 (f::cs') (c::cs):=⟨by simp[g.1],fun i a b d e=>by
 cases i with
 | zero=>
   simp only[Nr,Ms]at d e;subst d e;exact h
 |succ i=>exact g.2 i a b (by simpa using d) (by simpa using e)⟩
def y5.refl: ∀cs:List AV,y5 cs cs
 |[]=> .nil
 |c::cs=> .cons (.refl c) (.refl cs)
def F'.agg{cs' cs:List AV}(b:y5 cs' cs):F' (.agg cs') (.agg cs):=fun S w v h=>by
 cases h with
 | agg k _ g e f=>
   refine .agg k cs (by rw[g,b.1]) e fun i u c j a=> ?_
   have d:i<cs'.length:=by
    have:=(Mr.1 a).1;rw[b.1];exact this
   exact b.2 i _ _ (Mq d) a _ _ _ (f i u _ j (Mq d))
def F'.tuple{cs' cs:List AV}(b:y5 cs' cs):F' (.tuple cs') (.tuple cs):=fun S w v h=>by
 cases h with
 | tuple j _ f e=>
   refine .tuple j cs (by rw[f,b.1]) fun i u c g a=> ?_
   have d:i<cs'.length:=by
    have:=(Mr.1 a).1;rw[b.1];exact this
   exact b.2 i _ _ (Mq d) a _ _ _ (e i u _ g (Mq d))
def gA(b c:AV):Prop:= ∀S w a v,RR S w a v b->RR S w a v c
def gA.refl(c:AV):gA c c:=fun _ _ _ _ h=>h
def gA.of{d c:AV}(h:F' d c)(g: ∀e sz es,d≠ .own e sz es)(i: ∀e sz es,c≠ .own e sz es):gA d c:=fun S w f v j=>by
 have a:RV S w v d:=by
  cases d with
  |own e sz es=>exact(g e sz es rfl).elim
  |_=>exact j
 have b:=h S w v a;cases c with
 |own e sz es=>exact(i e sz es rfl).elim
 |_=>exact b
def gA.tuple{cs' cs:List AV}(a:y5 cs' cs):gA (.tuple cs') (.tuple cs):= .of (.tuple a) (fun _ _ _ h=>by cases h) (fun _ _ _ h=>by cases h)
section
variable {P:Program} {env:b8} {f:FuncId} {cs cs':List AV} {res res':AV}
theorem b7.args(h:b7 P env f cs res)(b:y5 cs' cs):b7 P env f cs' res:=by
 refine⟨h.enter,fun w S l g j k=>h.calls w S l g (by rw[j,b.1]) fun i v c d a=> ?_⟩
 have e:i<cs'.length:=by
  have:=(Mr.1 a).1;rw[b.1];exact this
 exact b.2 i _ _ (Mq e) a _ _ _ (k i v _ d (Mq e))
def L9(P:Program)(rs:List ResultVar)(res:AV):Exit->St->Prop
 | .normal,s | .ret,s=> ∃res',(aj P s.f rs).run s=some res'/\gA res' res
 |_,_=>False
theorem mb{fn:Func}{c:Code}(y:P.funcs[f]? =some fn)(x:fn.body=some c)(a: ∀(args:Array Value)(w:World),(callFunc f args).run P w= .ok (.enter f args) w)(D:cs.length<=fn.ntmps)
 (h:fp P env fn.ntmps c (L9 P fn.results.toList res) (St.init cs)):b7 P env f cs res:=by
 refine⟨a,fun w S q k C A=> ?_⟩;refine calls_of_wp y x ?_
 have u:dT ⟨w,S,env,fn.ntmps,w,⟨S,fun _=>undef⟩,St.init cs,fun _=>False,[]⟩ (St.init cs) { tmps:=q.toArray++Array.replicate (fn.ntmps-q.toArray.size) undef,defers:=[] } w ⟨S,fun _=>undef⟩:=by
  refine⟨O1 _ _,k.low,fun _ _ h=>h,fun _ _ h=> .inl h,k.env,k.low,k.inv,rfl,by simp;omega,fun t=> ?_,(fun r i d=>by cases d),(fun r G i j d=>by cases d),(fun _ _ z=>⟨z, .rfl⟩),(fun _=>NC _),(fun r j _ d=>by cases d),NC _,(fun _ h=>h.elim),(fun r i d=>by cases d)⟩;show RL w _ _ _ (cs.getD t .any);by_cases s:t<cs.length
  ·refine .val (A t _ _ ?_ ?_)
   ·rw[Nw,Pt (by simp;omega)];simp[show t<q.length by omega]
   simp[List.getD,s]
  have:cs.getD t .any= .any:=by simp[List.getD,NI (RO s)]
  rw[this];exact .val (.any _)
 refine wpIn_wide.1 (PS (h none _ rfl rfl _ w _ u) ?_);rintro e B H ⟨l,E,b,g⟩;cases e with
 | normal=>
   obtain⟨res',b,n⟩:=(show ∃res',(aj P l.f fn.results.toList).run l=some res'/\gA res' res from b);obtain⟨v,m,o,p,p3,p4,p5⟩:=vX (fn:=fn) b g;exact⟨g.ZU,v,o,v,rfl,g.Z3,m,p,p3,p4,n _ _ _ _ p5⟩
 | ret=>
   obtain⟨res',b,n⟩:=(show ∃res',(aj P l.f fn.results.toList).run l=some res'/\gA res' res from b);obtain⟨v,m,o,p,p3,p4,p5⟩:=vX (fn:=fn) b g;exact⟨g.ZU,v,o,v,rfl,g.Z3,m,p,p3,p4,n _ _ _ _ p5⟩
 |_=>exact b.elim
end
section
variable {P:Program} {env:b8} {nt:Nat} {s:St}
theorem oQ{c a:Code}{k:Nat}{f:Exit->St->Prop}{D:Type}(F:D->(Nat->Nat)->List (Nat×AV))(R:D->(Nat->Nat)->List (Nat×Row))(g:D->(Nat->Nat)->(Nat->Bool)->Prop)
 (m:fp P env nt (.loop c) (be k (bD (fun s=> ∃d,g d s.vs s.esc/\cV s (F d s.vs)/\bw s (R d s.vs)) f)) s)(n: ∀d vs esc,g d vs esc->fp P env nt a f (head (F d vs) (R d vs) vs esc)):
 fp P env nt (.loop c) (be k (bD (fp P env nt a f) f)) s:=by
 have i: ∀e s,bD (fun s=> ∃d,g d s.vs s.esc/\cV s (F d s.vs)/\bw s (R d s.vs)) f e s->bD (fp P env nt a f) f e s:=fun e s b=>by
  cases e with
  | normal=>
    obtain⟨d,o,p,q⟩:=b;exact lU _ _ p q (n d _ _ o)
  |_=>exact b
 refine vK m fun e s b=> ?_;cases e with
 | exit j=>
   have b:if j=k then bD (fun s=> ∃d,g d s.vs s.esc/\cV s (F d s.vs)/\bw s (R d s.vs)) f .normal s else bD (fun s=> ∃d,g d s.vs s.esc/\cV s (F d s.vs)/\bw s (R d s.vs)) f (.exit j) s:=b
   show if j=k then bD (fp P env nt a f) f .normal s else bD (fp P env nt a f) f (.exit j) s
   split
   ·rename_i h;rw[Mw h]at b;exact i _ _ b
   rename_i h;rw[Mt h]at b;exact i _ _ b
 |normal=>exact i .normal s b
 |ret=>exact b
 |goto l=>exact b
 |panic r=>exact b
 |outgrown=>exact b
end
/-! The rules that ask what evaluation shows. -/
section
variable {P:Program} {env:b8} {nt:Nat} {Q:Exit->St->Prop} {s:St}
theorem gR{o:Oper}{t:Nat}{want:Bool}{rest:List No}{K:St->List fy->Prop}(k:jw P env (⟨o, .always⟩::rest) s K)(hb:Is (s.f t) (.lit (.bool want)):=by simp only[go_sem,reduceIte, ↓reduceIte,Nat.reduceEqDiff,reduceCtorEq];exact iR):jw P env (⟨o, .on t want⟩::rest) s K:=Jr hb k
theorem gO{o:Oper}{t:Nat}{want:Bool}{v:Value}{rest:List No}{K:St->List fy->Prop}(k:jw P env rest (s.put o.dst (.lit undef)) fun s2 fts=>K s2 (eX::fts))(hb:Is (s.f t) (.lit v):=by simp only[go_sem,reduceIte, ↓reduceIte,Nat.reduceEqDiff,reduceCtorEq];exact iR)(hn:Is (xT v want) false:=by exact iR):jw P env (⟨o, .on t want⟩::rest) s K:=Js hb hn k
theorem ke{ops:Array Oper}{fts:List fy}{p:Prop}(k:p)(h:zY ops fts=true:=by kernel_rfl):zY ops fts=true/\p:=⟨h,k⟩
theorem gT{ops:Array Oper}{id:Nat}(h:jw P env (Sh ops) s fun s' _=>Q .normal s')(hd:(ops.all fun o=>o.dst.all (· <nt))=true:=by kernel_rfl):fp P env nt (.region id ops false) Q s:=rX rfl hd h
theorem gD{ops:Array Oper}{id:Nat}(hm:P.follows .mixedOrders=true)(h:jw P env (Sh ops) s fun s' fts=>zY ops fts=true/\Q .normal s')(hd:(ops.all fun o=>o.dst.all (· <nt))=true:=by kernel_rfl):fp P env nt (.region id ops true) Q s:=rY rfl hm hd h
end
end
end Go.Proofs.YtfhkmjbjafeckaaGreatDoor
