/- Calls by contract; regions, in whatever order. No program is named here. Regions: in the order of the text, and in whatever order. No program is named here. Regions whose order is open: every order ends as that of the text does. No program is named here. Walking without memory: the rules. No program is named here. Walking without memory: how each operation is met. No program is named here. Walking without memory: loops, by the slots and rows that live on. No program is named here. Walking without memory: calls, guards and the end of a drawn region, as scripts use them. No program is named here. Walking without memory: weaker arguments and weaker results. No program is named here. -/
import Derived.Test.YtbjldjekgepopaaGreatDoorT3
import Derived.Sort.LoopGhostIn
import Derived.OrdersIn
import Derived.RangeFuncCalls
set_option linter.unusedSimpArgs false
namespace Go.Proofs.YtbjldjekgepopaaGreatDoor
open Go.RowKit
section
def JV (S:Nat->Nat->Prop) (w:World) (base:Nat) (v:Value) (e:TypeId) (sz:Nat) (es:List (List AV)):Prop:=
 ∃l,w.ownsRow base e sz v es.length l/\0<sz/\EsOk S w sz l es/\ ∀g,v.ownBlock=some g-> ∀o,¬S g o
def RR (S:Nat->Nat->Prop) (w:World) (base:Nat) (v:Value):AV->Prop
 | .own e sz es=>JV S w base v e sz es
 |c=>RV S w v c
structure EnvOk (env:Env) (S:Nat->Nat->Prop) (w:World):Prop where
 inv:env.inv w
 low: ∀b o,S b o->b<w.heap.size
 env: ∀g c,env g=some c-> ∃u,w.cell? ⟨g,0,none⟩=some u/\u.oneCell'=true/\S g 0/\RV S w u c
structure Con (P:Program) (env:Env) (f:FuncId) (cs:List AV) (res:AV):Prop where
 enter: ∀(args:Array Value) (w:World),(callFunc f args).run P w= .ok (.enter f args) w
 calls: ∀(w:World) (S:Nat->Nat->Prop) (vs:List Value),EnvOk env S w->vs.length=cs.length->(∀(i:Nat) (v:Value) (c:AV),vs[i]? =some v->cs[i]? =some c->RV S w v c)->
  Calls P f vs.toArray w fun e w'=> ∃v,e= .returned v/\Below w.heap.size w w'/\ ∃S',(∀b o,S b o->S' b o)/\(∀b o,S' b o->S b o\/w.heap.size<=b)/\(∀b o,S' b o->b<w'.heap.size)/\RR S' w' w.heap.size v res
def adopt (d:Option Nat) (res:AV):Rd Out:=match res with
 | .own e sz es=>match d with
   |some d=> .look d fun _ v=> .ret ⟨.row d (v+1),[.renew d ⟨sz,es,e,true⟩]⟩
   |none=> .ret ⟨.any,[]⟩
 |c=> .ret ⟨c,[]⟩
def fzArgs:List AV->Rd (List AV×List Nat)
 |[]=> .ret ([],[])
 |c::cs=>(fz c).bind fun x=>(fzArgs cs).bind fun y=> .ret (x.1::y.1,x.2++y.2)
def seen (lend:Bool) (l:List Nat):List Eff:=match lend with
 |true=>[]
 |false=>shows l
def db (lend:Bool) (d:Option Nat) (args:List AV) (res:AV):Rd Out:=(fzArgs args).bind fun q=>(adopt d res).bind fun r=> .ret ⟨r.val,seen lend q.2++r.effs⟩
structure ConF (P:Program) (env:Env) (f:FuncId) (cs:List AV) (res:AV):Prop where
 enter: ∀(args:Array Value) (w:World),(callFunc f args).run P w= .ok (.enter f args) w
 calls: ∀(w:World) (S:Nat->Nat->Prop) (vs:List Value),EnvOk env S w->vs.length=cs.length->(∀(i:Nat) (v:Value) (c:AV),vs[i]? =some v->cs[i]? =some c->RV S w v c)->
  Calls P f vs.toArray w fun e w'=> ∃v,e= .returned v/\Below w.heap.size w w'/\ ∃S',(∀b o,S' b o->w.heap.size<=b/\b<w'.heap.size)/\RR S' w' w.heap.size v res
def JW (lend:Bool) (P:Program) (env:Env) (f:FuncId) (cs:List AV) (res:AV):Prop:=match lend with
 |true=>ConF P env f cs res
 |false=>Con P env f cs res
theorem JW.enter {lend:Bool} {P:Program} {env:Env} {f:FuncId} {cs:List AV} {res:AV} (h:JW lend P env f cs res): ∀(args:Array Value) (w:World),(callFunc f args).run P w= .ok (.enter f args) w:=by
 cases lend
 ·exact Con.enter h
 ·exact ConF.enter h
theorem RR.wider {S S':Nat->Nat->Prop} {w:World} {base:Nat} {v:Value} {res:AV} (hsub: ∀b o,S b o->S' b o) (hfar: ∀b o,base<=b->S' b o->S b o) (h:RR S w base v res):RR S' w base v res:=by
 cases res with
 | own e sz es=>
   obtain⟨l,ho,hpos,hE,hf⟩:=h;exact⟨l,ho,hpos,hE.mono fun b o hb=>⟨hsub b o hb, .rfl⟩,fun g hg o hh=>hf g hg o (hfar g o (bQ ho hg).1 hh)⟩
 |_=>exact RV.mono (fun b o hb=>⟨hsub b o hb, .rfl⟩) h
def bC (ls:List (List Value)):List (List AV):=ls.map (·.map .lit)
structure Turns (P:Program) (f:FuncId) (rest:List Value) (e:TypeId) (sz:Nat) (ls ls':List (List Value)):Prop where
 enter: ∀(args:Array Value) (w:World),(callFunc f args).run P w= .ok (.enter f args) w
 len:ls'.length=ls.length
 els: ∀l∈ls',l.length=sz/\ ∀u∈l,u.oneCell'=true
 calls: ∀(w:World) (base:Nat) (v:Value),w.ownsRow base e sz v ls.length ls.flatten->
  Calls P f (v::rest).toArray w fun ex w'=>ex= .returned (.tuple #[])/\w.grownBy w' v.ownBlock/\w'.ownsRow base e sz v ls.length ls'.flatten
theorem eh {α:Type} {sz:Nat} : ∀(ls:List (List α)),(∀l∈ls,l.length=sz)-> ∀(i j:Nat) (l:List α) (u:α),ls[i]? =some l->l[j]? =some u->ls.flatten[i*sz+j]? =some u
 |[],_,i,j,l,u,h,_=>by simp at h
 | e::es,hz,0,j,l,u,h,hu=>by
   have h:e=l:=by simpa using h
   subst h;have hj:j<e.length:=(KW.1 hu).1;simp only[N4,Mu,Lc];rw[LB hj,hu]
 | e::es,hz,i+1,j,l,u,h,hu=>by
   have h:es[i]? =some l:=by simpa using h
   have he:e.length=sz:=hz e (by simp);have ih:=eh es (fun l hl=>hz l (by simp[hl])) i j l u h hu;have e1:(i+1)*sz+j-sz=i*sz+j:=by rw[Ll,Mh];omega
   have e2:sz<=(i+1)*sz+j:=by rw[Ll,Mh];omega
   simp only[N4];rw[Ku (by omega),he,e1];exact ih
theorem da {α:Type} {sz:Nat} : ∀(ls:List (List α)),(∀l∈ls,l.length=sz)->ls.flatten.length=ls.length*sz
 |[],_=>by simp
 | e::es,hz=>by
   have:=da es (fun l hl=>hz l (by simp[hl]));have he:e.length=sz:=hz e (by simp);simp only[N4,K4,Kj];rw[this,he,Ll,Mh,Ov]
theorem zZ {ls:List (List Value)} {i j:Nat} {c:AV} (h:cellAt (bC ls) i j=some c): ∃l u,ls[i]? =some l/\l[j]? =some u/\c= .lit u:=by
 unfold cellAt bC at h;rw[K5]at h;cases hl:ls[i]? with
 |none=>rw[hl]at h;cases h
 | some l=>
   rw[hl]at h;simp only[Kg,LX,K5]at h;cases hu:l[j]? with
   |none=>rw[hu]at h;cases h
   |some u=>rw[hu]at h;cases h;exact⟨l,u,rfl,hu,rfl⟩
def Acts (P:Program) (env:Env) (f:FuncId) (cs:List AV) (ids:List Nat) (rows:Nat->Option Row) (vsv:Nat->Nat) (out:Out):Prop:=
 (∀(args:Array Value) (w:World),(callFunc f args).run P w= .ok (.enter f args) w)/\
 ∀(x:Ctx) (s:St) (a:Act) (w:World) (m:Mem) (vs:List Value),x.env=env->Sim x s a w m->(∀r∈ids,s.rows r=rows r/\s.vs r=vsv r/\s.esc r=false)->vs.length=cs.length->(∀(i:Nat) (v:Value) (c:AV),vs[i]? =some v->cs[i]? =some c->RL w m s v c)->
  Calls P f vs.toArray w fun e w'=> ∃v m',e= .returned v/\Sim x (apps out.effs s) a w' m'/\RL w' m' (apps out.effs s) v out.val
def bB (env:Env) (f:Nat->AV) (o:Oper):Option (FuncId×List AV):=match o.op with
 | .call { callee:= .value (.func g),args, .. } =>some (g,args.toList.map (gt env f))
 | .call { callee:= .value (.tmp t),args, .. } =>match f t with
   | .lit (.func (.func g) ⟨[]⟩ ⟨[]⟩)=>some (g,args.toList.map (gt env f))
   | .clo g cs=>some (g,args.toList.map (gt env f)++cs)
   |_=>none
 |_=>none
def Evs (P:Program) (env:Env) (o:Oper) (s:St) (out:Out) (ft:Foot):Prop:=
 match bB env s.f o with
 | some (f,args)=>(∃lend q res,(fzArgs (args)).run s=some q/\JW lend P env f q.1 res/\(db lend o.dst (args) res).run s=some out/\ft=qE (db lend o.dst (args) res) s out)\/
   (∃r row rest ls ls',args= .row r (s.vs r)::rest.map .lit/\s.rows r=some row/\row.sz≠0/\row.pure=true/\s.esc r=false/\row.es=bC ls/\Turns P f rest row.e row.sz ls ls'/\out=⟨.any,[.set r { row with es:=bC ls' }]⟩/\ft=⟨[r],[r],[r],[]⟩)\/
   ∃ids,Acts P env f (args) ids s.rows s.vs out/\(∀r∈ids,s.esc r=false)/\ft=⟨ids,ids,wrs out.effs,wes out.effs⟩
 |none=>(aT P env s.f o).run s=some out/\ft=qE (aT P env s.f o) s out
theorem pT {s s':St} (h1:s'.rows=s.rows) (h2:s'.vs=s.vs): ∀cs:List AV,(fzArgs cs).run s'=(fzArgs cs).run s
 |[]=>rfl
 | c::cs=>by
   simp only[fzArgs,Rd.run_bind,rb h1 h2,pT h1 h2 cs];rfl
theorem vG {x:Ctx} {a:Act} {w:World} : ∀ {cs:List AV} {vs:List Value} {s:St} {m:Mem} {y:List AV×List Nat},(fzArgs cs).run s=some y->Sim x s a w m->vs.length=cs.length->(∀(i:Nat) (v:Value) (c:AV),vs[i]? =some v->cs[i]? =some c->RL w m s v c)->
 ∃S',Sim x (apps (shows y.2) s) a w ⟨S',m.ρ⟩/\(∀b o,m.S b o->S' b o)/\y.1.length=cs.length/\ ∀(i:Nat) (v:Value) (c:AV),vs[i]? =some v->y.1[i]? =some c->RV S' w v c
 | [],vs,s,m,y,h,hS,hl,hv=>by
   simp only[fzArgs,Rd.run,KX]at h;subst h;exact⟨m.S,hS,fun _ _ h=>h,rfl,fun i v c _ hc=>by simp at hc⟩
 |c::cs,[],s,m,y,h,hS,hl,hv=>by simp at hl
 | c::cs,v::vs,s,m,y,h,hS,hl,hv=>by
   simp only[fzArgs]at h;obtain⟨y1,h1,h⟩:=run_bind h;obtain⟨y2,h2,h⟩:=run_bind h;simp only[Rd.run,KX]at h;subst h;obtain⟨S1,q1,q2,q3⟩:=nQ h1 hS (hv 0 v c rfl rfl);obtain⟨e1,e2,_⟩:=cL y1.2 s;have h2':(fzArgs cs).run (apps (shows y1.2) s)=some y2:=by rw[<-h2];exact pT e1 e2 cs
   obtain⟨S2,p1,p2,p3,p4⟩:=vG h2' q1 (by simpa using hl) (fun i v' c' hv' hc'=>(hv (i+1) v' c' (by simpa using hv') (by simpa using hc')).shown y1.2 q2);refine⟨S2,by simp only[shows,Ki,apps_append];exact p1,fun b o hb=>p2 b o (q2 b o hb),by simp[p3],fun i v' c' hv' hc'=> ?_⟩;cases i with
   | zero=>
     simp only[LM,KX]at hv' hc';subst hv' hc';exact q3.mono fun b o hb=>⟨p2 b o hb, .rfl⟩
   |succ i=>exact p4 i v' c' (by simpa using hv') (by simpa using hc')
section
variable {P:Program} {x:Ctx} {s:St} {a:Act} {w:World} {m:Mem} {o:Oper} {out:Out}
theorem Sim.envOk (h:Sim x s a w m):EnvOk x.env m.S w:=
 ⟨x.env.up _ _ h.einv h.bel,h.low,fun g c hg=>by
  obtain⟨u,h1,h2,h3,h4⟩:=h.env g c hg
  exact⟨u,(h.bel.cell (p:=⟨g,0,none⟩) (h.env0 g 0 h3)).trans h1,h2,h.sup _ _ h3,h.old h4⟩⟩
theorem Sim.called (h:Sim x s a w m) {w':World} {S':Nat->Nat->Prop} (hb:Below w.heap.size w w') (h1: ∀b o,m.S b o->S' b o) (h2: ∀b o,S' b o->m.S b o\/w.heap.size<=b) (h3: ∀b o,S' b o->b<w'.heap.size):Sim x s a w' ⟨S',m.ρ⟩:=
 h.move rfl (hb.mono h.bel.size) (fun b o hh=>⟨h1 b o hh,hb.stay (h.low b o hh)⟩) (fun b o hh=>by
  rcases h2 b o hh with k|k
  ·exact .inl k
  ·exact .inr ⟨k,h3 b o hh⟩) (fun r row hr g hg=>by
  exact hb.block g ((h.rows r row hr).blk hg).2) (fun b hf=>hb.block b (h.fxlt hf))
theorem A6 (h:Sim x s a w m) {base:Nat} (hbase:x.w.heap.size<=base) (hfw:x.fw.heap.size<=base) (hnew: ∀r row,s.rows r=some row-> ∀g,(m.ρ r).ownBlock=some g->g<base) {d:Option Nat} {res:AV} {v:Value} (hr:(adopt d res).run s=some out) (hv:RR m.S w base v res):
 ∃m',Sim x (apps out.effs s) a w m'/\RL w m' (apps out.effs s) v out.val:=by
 cases res with
 | own e sz es=>
   cases d with
   | none=>
     simp only[adopt,Rd.run,KX]at hr;subst hr;exact⟨m,h, .val (.any _)⟩
   | some d=>
     simp only[adopt,Rd.run,KX]at hr;subst hr;obtain⟨l,ho,hpos,hE,hf⟩:=hv
     have hS2:=h.renew d ⟨sz,es,e,true⟩ false v m.S (MM _ _) (fun b o hh=>⟨hh, .rfl⟩) (fun b o hh=> .inl hh) (fun k row' hk hrk g hgk=>⟨rfl,fun hh=>by
      have:=hnew k row' hrk g hgk;have:=(bQ ho hh).1
      omega,fun o hh=>hh⟩)
      (.inl ⟨hpos,hE.els,⟨l,by simp only[upd_same];exact Ef ho hbase,hE.one,fun i j c hc=>by
       obtain⟨u,u1,u2⟩:=hE.cell i j c hc
       exact⟨u,u1,by simpa using u2⟩⟩,(fun he=>by simp[St.renew,upd_same]at he),(fun g hgv o _=>by
        simp only[upd_same]at hgv;exact hf g hgv o),(fun _ g hgv o=>by
        simp only[upd_same]at hgv
        exact hf g hgv o)⟩) (fun b hfx=>⟨rfl,fun _ hh=>hh,fun e=>by
        have:=(bQ ho e).1;have:=(h.fix b hfx).1
        omega⟩)
     have h1c:v.oneCell'=true:=by
      rcases ho.2 with⟨ee,_⟩|⟨g,cp,cur,ee,_⟩<;>rw[ee]<;>rfl
     exact⟨_,hS2, .row d (s.vs d+1) h1c (by simp[apps,Eff.app,St.renew,upd_same]) fun _ row hr=>by simp[upd_same]⟩
 | _=>
   simp only[adopt,Rd.run,KX]at hr;subst hr;exact⟨m,h, .val hv⟩
theorem wA {f:FuncId} {args:Array Operand} {ts:Array TypeId} {t:TypeId} :(resolve a.eval { callee:= .value (.func f),args,argTypes:=ts } t).run P w= .ok { target:= .fn (.func f) #[],args:=args.map a.eval } w:=by
 simp[resolve,Act.eval,Deferred.ofValue]
theorem pB {g t:Nat} {args:Array Operand} {ts:Array TypeId} {ty:TypeId} {cap:Array Value} (hv:a.tmps.getD t undef= .func (.func g) #[] cap):(resolve a.eval { callee:= .value (.tmp t),args,argTypes:=ts } ty).run P w= .ok { target:= .fn (.func g) cap,args:=args.map a.eval } w:=by
 have e:a.eval (.tmp t)= .func (.func g) #[] cap:=hv;simp only[resolve,e,Deferred.ofValue];simp
theorem xU (hS:Sim x s a w m) (args:List Operand) (i:Nat) (v:Value) (c:AV) (hv:(args.map a.eval)[i]? =some v) (hc:(args.map (gt x.env s.f))[i]? =some c):RL w m s v c:=by
 rw[K5]at hv hc;cases hi:args[i]? with
 |none=>rw[hi]at hv;cases hv
 | some y=>
   rw[hi]at hv hc;cases hv;cases hc;exact ah hS y
theorem oe {f:FuncId} {cs:List AV} (hS:Sim x s a w m) (hc:bB x.env s.f o=some (f,cs)) (he: ∀(aa:Array Value) (w:World),(callFunc f aa).run P w= .ok (.enter f aa) w):
 ∃vs:List Value,vs.length=cs.length/\(∀(i:Nat) (v:Value) (c:AV),vs[i]? =some v->cs[i]? =some c->RL w m s v c)/\(execOp a.eval o).run P w= .ok (.enter f vs.toArray) w:=by
 unfold bB at hc;split at hc
 ·rename_i f' args' ts ho;cases hc;refine⟨args'.toList.map a.eval,by simp,xU hS _,?_⟩;unfold execOp;simp only[ho,Ks,wA,Kc,invoke];rw[show (args'.toList.map a.eval).toArray=args'.map a.eval by rw[<-OQ,LU]];simpa using he (args'.map a.eval) w
 ·rename_i t args' ts ho;split at hc
  ·rename_i g hf;cases hc;have hv:=hS.slot t;rw[hf]at hv;have hv:a.tmps.getD t undef= .func (.func f) #[] #[]:=hv.lit_;refine⟨args'.toList.map a.eval,by simp,xU hS _,?_⟩;unfold execOp;simp only[ho,Ks,pB hv,Kc,invoke];rw[show (args'.toList.map a.eval).toArray=args'.map a.eval by rw[<-OQ,LU]];simpa using he (args'.map a.eval) w
  ·rename_i g caps hf;cases hc;have hv:=hS.slot t;rw[hf]at hv;obtain⟨us,hv,hl,hr⟩:=hv.clo_;refine⟨args'.toList.map a.eval++us,by simp[hl],fun i v c hi hci=> ?_,?_⟩
   ·rw[List.getElem?_append]at hi hci;simp only[Kl]at hi hci;split at hi
    ·rename_i h1;rw[K0 h1]at hci;exact xU hS _ i v c hi hci
    ·rename_i h1;rw[KZ h1]at hci;exact hr _ v c hi hci
   ·unfold execOp;simp only[ho,Ks,pB hv,Kc,invoke];rw[show (args'.toList.map a.eval++us).toArray=args'.map a.eval++us.toArray by apply Array.toList_inj.1;simp];exact he (args'.map a.eval++us.toArray) w
  ·cases hc
 ·cases hc
theorem Ab {f:FuncId} {args:List AV} {r:Nat} {row:Row} {rest:List Value} {ls ls':List (List Value)} (hS:Sim x s a w m) (hd: ∀t,o.dst=some t->t<x.nt) (hc:bB x.env s.f o=some (f,args))
 (e1:args= .row r (s.vs r)::rest.map .lit) (e2:s.rows r=some row) (hrz:row.sz≠0) (e3:row.pure=true) (e4:s.esc r=false) (e5:row.es=bC ls) (hT:Turns P f rest row.e row.sz ls ls') {K:Act->World->Prop} {Q:Exit->Act->World->Prop}
 (hK: ∀a' w' m',Sim x ((⟨.any,[.set r { row with es:=bC ls' }]⟩:Out).app o.dst s) a' w' m'->K a' w'):o.wp P a w K Q:=by
 obtain⟨us,hul,hur,hexec⟩:=oe (P:=P) hS hc hT.enter;unfold Oper.wp;rw[hexec];show Calls P f _ w _
 have hargs:us=m.ρ r::rest:=by
  subst e1
  match us,hul with
  | u::us,hul=>
    simp only[Kj,Kl,Nat.add_right_cancel_iff]at hul;refine List.cons_eq_cons.2 ⟨(hur 0 u _ rfl rfl).row_.2 rfl row e2,?_⟩;apply LQ;intro i;cases hi:us[i]? with
    |none=>exact(K7 (by rw[<-hul];exact List.getElem?_eq_none_iff.1 hi)).symm
    | some v=>
      have hlt:i<rest.length:=by rw[<-hul];exact(KW.1 hi).1
      have:=hur (i+1) v (.lit rest[i]) (by simpa using hi) (by simp[hlt]);rw[this.lit_,KV hlt]
 rw[hargs];have k:=(hS.rows r row e2).cells hrz;obtain⟨xs,k1,k2,k3⟩:=k.own;have hn:row.es.length=ls.length:=by rw[e5];simp[bC]
 have hls: ∀l∈ls,l.length=row.sz:=fun l hl=>by
  obtain⟨i,hi,rfl⟩:=Lp hl;have:=k.len i ((ls[i]).map .lit) (by rw[e5];simp[bC,hi]);simpa using this
 have hx:xs=ls.flatten:=by
  apply LQ;intro p;have hfl:=da ls hls;have hxl:xs.length=ls.length*row.sz:=by rw[<-hn];exact k1.1
  by_cases hp:p<ls.length*row.sz
  ·have hi:p/row.sz<ls.length:=NK (by rw[Mf];exact hp);have hj:p%row.sz<row.sz:=N9 _ k.pos;have hpq:p/row.sz*row.sz+p%row.sz=p:=Nf p row.sz;have hl:=hls _ (MI hi);have hju:(ls[p/row.sz])[p%row.sz]? =some ((ls[p/row.sz])[p%row.sz]'(by omega)):=KV _;have h1:=eh ls hls _ _ _ _ (KV hi) hju
   obtain⟨u,h2,h3⟩:=k3 (p/row.sz) (p%row.sz) (.lit ((ls[p/row.sz])[p%row.sz]'(by omega))) (by
    rw[e5];unfold cellAt bC;rw[K5,KV hi]
    simp only[Kg,LX,K5,hju])
   rw[hpq]at h1 h2;rw[K0 e3]at h3;have:u=(ls[p/row.sz])[p%row.sz]'(by omega):=by cases h3;rfl
   rw[h1,h2,this]
  ·rw[K7 (by omega),K7 (by omega)]
 rw[hx,hn]at k1;refine(hT.calls w x.w.heap.size (m.ρ r) k1).mono ?_;rintro ex w' ⟨rfl,hg,ho⟩;show K (a.put o.dst (.tuple #[])) w'
 have hb:Below x.w.heap.size w w':=⟨hg.os,hg.tape,hg.output,hg.size,fun q hq=>hg.block q (Lz hq hS.bel.size) fun e=>by
  have:=(bQ k1 e.symm).1
  omega⟩
 have hnS: ∀g,(m.ρ r).ownBlock=some g-> ∀o,¬m.S g o:=k.fresh e4;have hcell: ∀b o,m.S b o->Stay w w' b o:=fun b o hh=> .block (hg.block b (hS.low b o hh) fun e=>hnS b e.symm o hh)
 have hS2:Sim x (s.setRow r { row with es:=bC ls' }) a w' m:=by
  refine hS.reset r row _ e2 rfl hb hcell (fun q row1 hne hq gq hgq=> ?_) ?_ fun b hf=>hg.block b (hS.fxlt hf) fun e=>hS.nofx r row e2 b e.symm hf
  ·exact hg.block gq ((hS.rows q row1 hq).blk hgq).2 fun e=>hS.inj r q row row1 e2 hq (MJ hne) gq e.symm hgq
  ·have hel: ∀(i:Nat) (e:List AV),(bC ls')[i]? =some e->e.length=row.sz:=fun i e he=>by
    unfold bC at he;rw[K5]at he;cases hl:ls'[i]? with
    |none=>rw[hl]at he;cases he
    | some l=>
      rw[hl]at he;cases he;simpa using (hT.els l (K1 hl)).1
   have hll:(bC ls').length=ls.length:=by unfold bC;rw[Kl];exact hT.len
   refine .inl ⟨k.pos,hel,⟨ls'.flatten,by show w'.ownsRow _ _ _ _ (bC ls').length _;rw[hll];exact ho,?_,?_⟩,fun he=>(by simp only[St.setRow]at he;rw[e4]at he;cases he),?_,fun _ g hg' o=>hnS g hg' o⟩
   ·intro u hu;obtain⟨l,hl,hul⟩:=Oo.1 hu;exact(hT.els l hl).2 u hul
   ·intro i j c hcc;obtain⟨l,u,h1,h2,rfl⟩:=zZ hcc;refine⟨u,eh ls' (fun l hl=>(hT.els l hl).1) i j l u h1 h2,?_⟩;show if row.pure=true then _ else _
    rw[K0 e3];exact .lit u
   ·exact fun g hg' o _=>hnS g hg' o
 exact hK _ _ m (hS2.put o.dst hd (.val (.any _)))
theorem vP {ft:Foot} (hS:Sim x s a w m) (hd: ∀t,o.dst=some t->t<x.nt) (h:Evs P x.env o s out ft) {K:Act->World->Prop} {Q:Exit->Act->World->Prop}
 (hK: ∀a' w' m',Sim x (out.app o.dst s) a' w' m'->K a' w'):o.wp P a w K Q:=by
 unfold Evs at h;cases hc:bB x.env s.f o with
 | none=>
   rw[hc]at h;obtain⟨nx,w',m',v,h1,h2,h3,h4⟩:=Bn (P:=P) hS h.1;have hp:=h3.put o.dst hd h4;unfold Oper.wp;rw[h1];rcases h2 with rfl|⟨rfl,rfl⟩
   ·exact hK _ _ _ hp
   ·exact hK _ _ _ hp
 | some fa=>
   obtain⟨f,args⟩:=fa;rw[hc]at h;rcases h with⟨lend,q,res,h1,h2,h3,_⟩|⟨r,row,rest,ls,ls',e1,e2,e20,e3,e4,e5,hT,rfl,_⟩|⟨ids,hA,he,_⟩
   rotate_left
   ·exact Ab hS hd hc e1 e2 e20 e3 e4 e5 hT hK
   ·obtain⟨us,hul,hur,hexec⟩:=oe (P:=P) hS hc hA.1;unfold Oper.wp;rw[hexec];show Calls P f _ w _;refine(hA.2 x s a w m us rfl hS (fun r hr=>⟨rfl,rfl,he r hr⟩) hul hur).mono ?_;rintro e w' ⟨v,m',rfl,h1,h2⟩;exact hK _ _ _ (h1.put o.dst hd h2)
   obtain⟨us,hul,hur,hexec⟩:=oe (P:=P) hS hc h2.enter;obtain⟨S',q1,q2,q3,q4⟩:=vG (vs:=us) h1 hS hul hur;unfold db at h3;obtain⟨q',hq',h3⟩:=run_bind h3;obtain⟨r,hr,h3⟩:=run_bind h3;rw[h1]at hq';cases hq';simp only[Rd.run,KX]at h3;subst h3;unfold Oper.wp;rw[hexec];show Calls P f _ w _;cases lend with
   | false=>
     have hcall:=Con.calls h2 w S' us q1.envOk (by rw[q3];exact hul) q4;refine hcall.mono ?_;rintro e w' ⟨v,rfl,hb,S2,p1,p2,p3,p4⟩;show K (a.put o.dst v) w';have hS2:=q1.called hb p1 p2 p3;obtain⟨er,ev,_⟩:=cL q.2 s
     have hr':(adopt o.dst res).run (apps (shows q.2) s)=some r:=by
      rw[<-hr];cases res with
      |own e sz es=>cases o.dst<;>simp only[adopt,Rd.run,ev]
      |_=>rfl
     obtain⟨m',hm1,hm2⟩:=A6 hS2 (base:=w.heap.size) hS.bel.size hS.fwle (fun r row hrr g hg=>by
      exact((q1.rows r row hrr).blk hg).2) hr' p4
     have hp:=hm1.put o.dst hd hm2;refine hK _ _ m' ?_;unfold Out.app;simp only[seen,apps_append];exact hp
   | true=>
     have hcall:=ConF.calls h2 w S' us q1.envOk (by rw[q3];exact hul) q4;refine hcall.mono ?_;rintro e w' ⟨v,rfl,hb,S2,p1,p4⟩;show K (a.put o.dst v) w';have hS2:=hS.called hb (S':=fun b o=>m.S b o\/S2 b o) (fun _ _ h=> .inl h) (fun b o h=>h.elim .inl fun k=> .inr (p1 b o k).1) (fun b o h=>h.elim (fun k=>Lz (hS.low b o k) hb.size) fun k=>(p1 b o k).2);have p5:RR (fun b o=>m.S b o\/S2 b o) w' w.heap.size v res:=p4.wider (fun _ _ h=> .inr h) fun b o hbo h=>h.elim (fun k=>by have:=hS.low b o k;omega) fun k=>k
     obtain⟨m',hm1,hm2⟩:=A6 hS2 (base:=w.heap.size) hS.bel.size hS.fwle (fun r row hrr g hg=>by
      exact((hS.rows r row hrr).blk hg).2) hr p5
     have hp:=hm1.put o.dst hd hm2;refine hK _ _ m' ?_;unfold Out.app;simp only[seen,Mc];exact hp
end
/-! Results that lean on no memory -/
def bZ:AV->Bool
 | .any | .lit _=>true
 | .agg cs | .tuple cs=>flats cs
 | .iface _ c=>bZ c
 | .own _ _ es=>flatss es
 |_=>false
where
 flats:List AV->Bool
  |[]=>true
  |c::cs=>bZ c&&flats cs
 flatss:List (List AV)->Bool
  |[]=>true
  |e::es=>flats e&&flatss es
theorem nR: ∀ {cs:List AV},bZ.flats cs=true-> ∀(i:Nat) (c:AV),cs[i]? =some c->bZ c=true
 |[],_,i,c,hc=>by simp at hc
 | d::cs,h,i,c,hc=>by
   simp only[bZ.flats,KY]at h;cases i with
   |zero=>simp at hc;subst hc;exact h.1
   |succ i=>exact nR h.2 i c (by simpa using hc)
theorem vI: ∀ {es:List (List AV)},bZ.flatss es=true-> ∀(i:Nat) (e:List AV),es[i]? =some e->bZ.flats e=true
 |[],_,i,c,hc=>by simp at hc
 | d::es,h,i,c,hc=>by
   simp only[bZ.flatss,KY]at h;cases i with
   |zero=>simp at hc;subst hc;exact h.1
   |succ i=>exact vI h.2 i c (by simpa using hc)
theorem bn {α:Type} {f:α->List AV} (h: ∀x,bZ.flats (f x)=true): ∀l:List α,bZ.flatss (l.map f)=true
 |[]=>by simp[bZ.flatss]
 |x::l=>by simp only[LI,bZ.flatss,h x,bn h l,Bool.and_self]
theorem RV.flat {S S':Nat->Nat->Prop} {w w':World} {v:Value} {c:AV} (h:RV S w v c) (hf:bZ c=true):RV S' w' v c:=by
 induction h with
 |any v=>exact .any v
 |lit v=>exact .lit v
 |agg vs cs h h1 hc ih=>exact .agg vs cs h h1 fun i v c hv hcc=>ih i v c hv hcc (nR (by simpa only[bZ]using hf) i c hcc)
 |tuple vs cs h hc ih=>exact .tuple vs cs h fun i v c hv hcc=>ih i v c hv hcc (nR (by simpa only[bZ]using hf) i c hcc)
 |iface t v c h ih=>exact .iface t v c (ih (by simpa only[bZ]using hf))
 |seq=>simp[bZ]at hf
 |ref=>simp[bZ]at hf
 |clo=>simp[bZ]at hf
 |fmap=>simp[bZ]at hf
 |full=>simp[bZ]at hf
 |news=>simp[bZ]at hf
theorem Con.lend {P:Program} {env:Env} {f:FuncId} {cs:List AV} {res:AV} (h:Con P env f cs res) (hf:bZ res=true):ConF P env f cs res:=by
 refine⟨h.enter,fun w S vs hE hl hv=>(h.calls w S vs hE hl hv).mono ?_⟩;rintro e w' ⟨v,rfl,hb,S',_,_,_,hr⟩;refine⟨v,rfl,hb,fun _ _=>False,fun _ _ h=>h.elim,?_⟩;cases res with
 | own e sz es=>
   obtain⟨l,ho,hpos,hE,_⟩:=hr;refine⟨l,ho,hpos,⟨hE.len,hE.one,hE.els,fun i j c hc=> ?_⟩,fun _ _ _ h=>h⟩;obtain⟨u,h1,h2⟩:=hE.cell i j c hc;refine⟨u,h1,h2.flat ?_⟩;unfold cellAt at hc;cases he:es[i]? with
   |none=>rw[he]at hc;cases hc
   | some e'=>
     rw[he]at hc;exact nR (vI (by simpa only[bZ]using hf) i e' he) j c hc
 |_=>exact RV.flat (show RV S' w' v _ from hr) hf
end
section
inductive Gd where
 |always
 |on (t:Nat) (want:Bool)
 |bad
def js (ops:Array Oper) (o:Oper):Gd:=match o.guard with
 |none=> .always
 | some (j,want)=>match (ops[j]?).bind (·.dst) with
   |some t=> .on t want
   |none=> .bad
def xo:Value->Option Bool
 | .bool b=>some b
 |_=>none
def wants (v:Value) (want:Bool):Bool:=match v with
 | .bool b=>b==want
 |_=>false
theorem Fx (v:Value) (want:Bool):(xo v==some want)=wants v want:=by
 unfold wants xo;cases v<;>(try rfl)
def Stepd (P:Program) (env:Env) (g:Gd) (o:Oper) (s s':St) (ft:Foot):Prop:=match g with
 | .always=> ∃out,Evs P env o s out ft/\s'=out.app o.dst s
 | .on t want=> ∃v,s.f t= .lit v/\if wants v want=true then ∃out,Evs P env o s out ft/\s'=out.app o.dst s else s'=s.put o.dst (.lit undef)/\ft=eD
 | .bad=>False
/-! Where code is walked: in a function's frame, or in a round of a range over a function -/
def fen:Option Nat->Fence
 |none=> .wide
 |some l=>Fence.wide.inRound l
section
variable {P:Program} {ro:Option Nat}
theorem FV:(fen ro).round=ro:=by cases ro<;>rfl
theorem Hl (f:FuncId):(fen ro).fn f:=by cases ro<;>exact trivial
theorem FW:(fen ro).depth=none:=by cases ro<;>rfl
theorem FX {n:Nat} {f:FuncId} {args:Array Value} {w:World} {R:Ending->World->Prop} (h:Calls P f args w R):CallsIn (fen ro) n P f args w R:=by
 cases ro with
 |none=>exact Ox.2 h
 |some l=>exact CallsIn.inRound l (Ox.2 h)
theorem Gv {n:Nat} {row:String} {args:Array Value} {w:World} {R:Value->World->Prop} (h:Rows P row args w R):RowsIn (fen ro) n P row args w R:=fun c cs _=>by
 obtain⟨v,w',h1,h2⟩:=h c cs;refine⟨v,w',h1,?_⟩;cases ro with
 |none=>exact stepsIn_wide.2 h2
 |some l=>exact stepsIn_wide.2 h2
theorem JH {o:Oper} {a:Act} {w:World} {K:Act->World->Prop} {Q:Exit->Act->World->Prop} (hnd: ∀c,o.op≠ .defer c) (h:o.wp P a w K Q):o.wpIn (fen ro) 3 P a w K Q:=by
 unfold Oper.wpIn;refine⟨fun f _=>Hl f,?_⟩
 have he:o.semAt (fen ro).round a.eval=execOp a.eval o:=by
  rw[FV];exact Oper.semAt_eq ro a.eval o hnd
 rw[he];unfold Oper.wp at h;have hdp: ∀ {p:Prop},((fen ro).depth.isSome=true->p):=fun {p} h=>by rw[FW]at h;cases h
 generalize (execOp a.eval o).run P w=r at h;cases r with
 | ok x w'=>
   cases x<;>simp only[Oper.upon,Oper.uponIn]at h |- <;>
    first
     |exact h
     |exact⟨hdp,FX h⟩
     |exact⟨hdp,Gv h⟩
 |halt x w'=>cases x<;>simp only[Oper.upon,Oper.uponIn]at h |- <;>exact h
end
theorem Evs.plain {P:Program} {env:Env} {o:Oper} {s:St} {out:Out} {ft:Foot} (h:Evs P env o s out ft) (c:Call):o.op≠ .defer c:=fun ho=>by
 unfold Evs bB at h;rw[ho]at h;unfold aT at h;rw[ho]at h;simp[Rd.run]at h
section
variable {P:Program} {x:Ctx} {s s':St} {a:Act} {w:World} {m:Mem} {o:Oper} {ops:Array Oper} {Q:Exit->Act->World->Prop} {ro:Option Nat}
theorem ow {i:Nat} {ft:Foot} (hi:ops[i]? =some o) (hS:Sim x s a w m) (hd: ∀t,o.dst=some t->t<x.nt) (h:Stepd P x.env (js ops o) o s s' ft) {K:Act->World->Prop}
 (hK: ∀a' w' m',Sim x s' a' w' m'->K a' w'):wpOpIn (fen ro) 3 P ops Q i K a w:=by
 unfold wpOpIn;rw[hi];simp only
 have hgd: ∀t want,js ops o= .on t want-> ∀v,s.f t= .lit v->Region.wanted o (yielded ops a.tmps)=wants v want:=fun t want hg v hb=>by
  unfold js at hg;cases hog:o.guard with
  |none=>rw[hog]at hg;cases hg
  | some jw=>
    obtain⟨j,want'⟩:=jw;rw[hog]at hg;simp only at hg;cases hjt:(ops[j]?).bind (·.dst) with
    |none=>rw[hjt]at hg;cases hg
    | some t'=>
      rw[hjt]at hg;cases hg;have hsl:=hS.slot t;rw[hb]at hsl;have hv:=hsl.lit_;unfold Region.wanted;rw[hog]
      have hy:yielded ops a.tmps j=xo v:=by
       unfold yielded;rw[hjt];rw[LS]at hv;cases hq:a.tmps[t]? with
       | none=>
         rw[hq]at hv;have hv:undef=v:=hv;subst hv;simp[hq,undef,xo]
       | some u=>
         rw[hq]at hv;have hv:u=v:=hv;subst hv;simp only[LX,hq];cases u<;>rfl
      simp only[hy];exact Fx v want
 have halw:js ops o= .always->Region.wanted o (yielded ops a.tmps)=true:=fun hg=>by
  unfold js at hg;cases hog:o.guard with
  |none=>simp[Region.wanted,hog]
  | some jw=>
    rw[hog]at hg;simp only at hg;split at hg<;>cases hg
 cases hg:js ops o with
 | always=>
   rw[hg]at h;obtain⟨out,h1,rfl⟩:=h;rw[K0 (halw hg)];exact JH h1.plain (vP hS hd h1 hK)
 |bad=>rw[hg]at h;exact h.elim
 | on t want=>
   rw[hg]at h;obtain⟨b,hb,h⟩:=h;rw[hgd t want hg b hb];by_cases hbw:wants b want=true
   ·rw[K0 hbw]at h;obtain⟨out,h1,rfl⟩:=h;rw[K0 hbw];exact JH h1.plain (vP hS hd h1 hK)
   ·rw[KZ hbw]at h;obtain⟨rfl,_⟩:=h;rw[KZ hbw];exact⟨fun f _=>Hl f,hK _ _ _ (hS.put o.dst hd (.val (.lit _)))⟩
end
/-! Operations change places -/
theorem lC {ops:Array Oper} {o:Oper} {t:Nat} (h:t∉o.looksAt ops): ∀y∈o.op.operands,y≠ .tmp t:=fun y hy e=>by
 subst e;exact h (LR _ (List.mem_filterMap.2 ⟨.tmp t,by simpa using hy,rfl⟩))
theorem wO {env:Env} {f f':Nat->AV} (o:Oper) (h: ∀y∈o.op.operands,gt env f' y=gt env f y):bB env f' o=bB env f o:=by
 obtain⟨dst,op,ty,pos,after,guard⟩:=o;cases op with
 | call c=>
   obtain⟨callee,args,ts⟩:=c;cases callee with
   | value y=>
     have ha:args.toList.map (gt env f')=args.toList.map (gt env f):=MF fun z hz=>h z (by simp[Op.operands,Call.operands];exact .inr (by simpa using hz));cases y with
     | tmp t=>
       have e:f' t=f t:=h (.tmp t) (by simp[Op.operands,Call.operands]);simp only[bB,e,ha]
     |func g=>simp only[bB,ha]
     |_=>rfl
   |_=>rfl
 |_=>rfl
theorem Evs.frame {P:Program} {env:Env} {o:Oper} {s s2:St} {out:Out} {ft:Foot} (h:Evs P env o s out ft) (hf: ∀y∈o.op.operands,gt env s2.f y=gt env s.f y)
 (h1: ∀r∈ft.rd,s2.rows r=s.rows r/\s2.vs r=s.vs r) (h2: ∀r∈ft.re,s2.esc r=s.esc r):Evs P env o s2 out ft:=by
 unfold Evs at h |-;rw[wO (env:=env) (f:=s.f) (f':=s2.f) o hf];cases hc:bB env s.f o with
 | none=>
   rw[hc]at h;obtain⟨h3,h4⟩:=h;have he:aT P env s2.f o=aT P env s.f o:=Bo o hf;simp only[he];subst h4;have:=Rd.frame (aT P env s.f o) s s2 h1 h2;exact⟨this.1.trans h3,by simp only[qE,this.2]⟩
 | some fa=>
   obtain⟨f,args⟩:=fa;rw[hc]at h;rcases h with⟨lend,q,res,k1,k2,k3,k4⟩|⟨r,row,rest,ls,ls',e1,e2,e20,e3,e4,e5,hT,e6,rfl⟩|⟨ids,hA,hesc,rfl⟩
   rotate_left
   rotate_left
   ·refine .inr (.inr ⟨ids,?_,fun r hr=>(h2 r hr).trans (hesc r hr),rfl⟩);exact⟨hA.1,fun x s' a w m vs hx hS hr hl hv=>hA.2 x s' a w m vs hx hS (fun r hr'=>⟨(hr r hr').1.trans (h1 r hr').1,(hr r hr').2.1.trans (h1 r hr').2,(hr r hr').2.2⟩) hl hv⟩
   rotate_left
   ·have hr:=h1 r (by simp);have hre:=h2 r (by simp);refine .inr (.inl ⟨r,row,rest,ls,ls',?_,hr.1.trans e2,e20,e3,hre.trans e4,e5,hT,e6,rfl⟩);rw[hr.2, <-e1]
   subst k4;have hcall:=Rd.frame (db lend o.dst args res) s s2 h1 h2
   have hlog: ∀r∈((fzArgs args).log s).1,r∈((db lend o.dst args res).log s).1/\True:=fun r hr=>⟨by
    unfold db;generalize fzArgs args=qa at hr |-
    induction qa with
    |ret a=>simp[Rd.log]at hr
    |fail=>simp[Rd.log]at hr
    | look q k ih=>
      simp only[Rd.log,Kk]at hr;simp only[Rd.bind,Rd.log,Kk];rcases hr with hr|hr
      ·exact .inl hr
      ·exact .inr (ih _ _ hr)
    | esc q k ih=>
      simp only[Rd.log]at hr;simp only[Rd.bind,Rd.log]
      exact ih _ hr,trivial⟩
   have hlog2: ∀r∈((fzArgs args).log s).2,r∈((db lend o.dst args res).log s).2:=fun r hr=>by
    unfold db;generalize fzArgs args=qa at hr |-
    induction qa with
    |ret a=>simp[Rd.log]at hr
    |fail=>simp[Rd.log]at hr
    | look q k ih=>
      simp only[Rd.log]at hr;simp only[Rd.bind,Rd.log];exact ih _ _ hr
    | esc q k ih=>
      simp only[Rd.log,Kk]at hr;simp only[Rd.bind,Rd.log,Kk];rcases hr with hr|hr
      ·exact .inl hr
      ·exact .inr (ih _ hr)
   have hargs:=Rd.frame (fzArgs args) s s2 (fun r hr=>h1 r (hlog r hr).1) (fun r hr=>h2 r (hlog2 r hr));exact .inl ⟨lend,q,res,hargs.1.trans k1,k2,hcall.1.trans k3,by simp only[qE,hcall.2]⟩
theorem Foot.apart_spec {f g:Foot} (h:f.apart g=true):
 (∀r∈f.wr,r∉g.rd/\r∉g.re/\r∉g.wr/\r∉g.we)/\(∀r∈g.wr,r∉f.rd/\r∉f.re/\r∉f.wr/\r∉f.we)/\(∀r∈f.we,r∉g.re)/\(∀r∈g.we,r∉f.re):=by
 simp only[Foot.apart,KY]at h;obtain⟨⟨⟨h1,h2⟩,h3⟩,h4⟩:=h;refine⟨fun r hr=>⟨fun q=>dr h1 hr ?_,fun q=>dr h1 hr ?_,fun q=>dr h1 hr ?_,fun q=>dr h1 hr ?_⟩,fun r hr=>⟨fun q=>dr h2 hr ?_,fun q=>dr h2 hr ?_,fun q=>dr h2 hr ?_,fun q=>dr h2 hr ?_⟩,fun r hr q=>dr h3 hr q,fun r hr q=>dr h4 hr q⟩<;>simp[q]
theorem Evs.foot {P:Program} {env:Env} {o:Oper} {s:St} {out:Out} {ft:Foot} (h:Evs P env o s out ft):ft.wr=wrs out.effs/\ft.we=wes out.effs:=by
 unfold Evs at h;cases hc:bB env s.f o with
 |none=>rw[hc]at h;obtain⟨_,rfl⟩:=h;exact⟨rfl,rfl⟩
 | some fa=>
   rw[hc]at h;rcases h with⟨lend,q,res,_,_,_,rfl⟩|⟨r,row,rest,ls,ls',_,_,_,_,_,_,_,rfl,rfl⟩|⟨ids,_,_,rfl⟩
   ·exact⟨rfl,rfl⟩
   ·exact⟨rfl,rfl⟩
   ·exact⟨rfl,rfl⟩
structure Did (s s':St) (d:Option Nat) (ft:Foot):Prop where
 ex: ∃l c,s'=(apps l s).put d c/\wrs l=ft.wr/\wes l=ft.we
theorem Did.f {s s':St} {d:Option Nat} {ft:Foot} (h:Did s s' d ft) (t:Nat) (ht:d≠some t):s'.f t=s.f t:=by
 obtain⟨l,c,rfl,_,_⟩:=h.ex;rw[KB _ _ _ _ ht,Jq]
theorem Did.rows {s s':St} {d:Option Nat} {ft:Foot} (h:Did s s' d ft) (r:Nat) (hr:r∉ft.wr):s'.rows r=s.rows r/\s'.vs r=s.vs r:=by
 obtain⟨l,c,rfl,h1,_⟩:=h.ex;obtain⟨p1,p2,_⟩:=zJ (apps l s) d c;rw[p1,p2];exact Fc l s r (by rw[h1];exact hr)
theorem Did.esc {s s':St} {d:Option Nat} {ft:Foot} (h:Did s s' d ft) (r:Nat) (hr:r∉ft.wr) (hr':r∉ft.we):s'.esc r=s.esc r:=by
 obtain⟨l,c,rfl,h1,h2⟩:=h.ex;obtain⟨_,_,p3⟩:=zJ (apps l s) d c;rw[p3];exact HX l s r (by rw[h1];exact hr) (by rw[h2];exact hr')
theorem Stepd.did {P:Program} {env:Env} {g:Gd} {o:Oper} {s s':St} {ft:Foot} (h:Stepd P env g o s s' ft):Did s s' o.dst ft:=by
 have ev:(∃out,Evs P env o s out ft/\s'=out.app o.dst s)->Did s s' o.dst ft:=fun⟨out,h1,h2⟩=>⟨out.effs,out.val,h2,(Evs.foot h1).1.symm,(Evs.foot h1).2.symm⟩;cases g with
 |always=>exact ev h
 | on t want=>
   obtain⟨b,_,h⟩:=h;split at h
   ·exact ev h
   ·obtain⟨rfl,rfl⟩:=h;exact⟨[], .lit undef,rfl,rfl,rfl⟩
 |bad=>exact h.elim
theorem Stepd.swap {P:Program} {env:Env} {ops:Array Oper} {oi oj:Oper} {s s1 s2:St} {fi fj:Foot} (hj:Stepd P env (js ops oj) oj s s1 fj) (hi:Stepd P env (js ops oi) oi s1 s2 fi)
 (hap:oi.apart ops oj=true) (hft:fi.apart fj=true): ∃s1',Stepd P env (js ops oi) oi s s1' fi/\Stepd P env (js ops oj) oj s1' s2 fj:=by
 obtain⟨a1,a2,a3⟩:=Oper.apart_spec hap;obtain⟨f1,f2,f3,f4⟩:=Foot.apart_spec hft;have dj:=hj.did;have di:=hi.did
 have opi: ∀y∈oi.op.operands,gt env s.f y=gt env s1.f y:=fun y hy=>by
  cases y with
  |tmp t=>exact(dj.f t (fun e=>lC (ops:=ops) (a3 t e) _ hy rfl)).symm
  |_=>rfl
 have gi: ∀t want,js ops oi= .on t want->s.f t=s1.f t:=fun t want hg=>by
  refine(dj.f t fun e=>a3 t e ?_).symm;unfold js at hg;cases hog:oi.guard with
  |none=>rw[hog]at hg;cases hg
  | some jw=>
    obtain⟨q,want'⟩:=jw;rw[hog]at hg;simp only at hg;cases hqt:(ops[q]?).bind (·.dst) with
    |none=>rw[hqt]at hg;cases hg
    | some t'=>
      rw[hqt]at hg;cases hg;simp[Oper.looksAt,hog,hqt]
 have gj: ∀(s':St),Did s s' oi.dst fi-> ∀t want,js ops oj= .on t want->s'.f t=s.f t:=fun s' d' t want hg=>by
  refine d'.f t fun e=>a1 t e ?_;unfold js at hg;cases hog:oj.guard with
  |none=>rw[hog]at hg;cases hg
  | some jw=>
    obtain⟨q,want'⟩:=jw;rw[hog]at hg;simp only at hg;cases hqt:(ops[q]?).bind (·.dst) with
    |none=>rw[hqt]at hg;cases hg
    | some t'=>
      rw[hqt]at hg;cases hg;simp[Oper.looksAt,hog,hqt]
 have first: ∃(l:List Eff) (c:AV),s2=(apps l s1).put oi.dst c/\wrs l=fi.wr/\wes l=fi.we/\Stepd P env (js ops oi) oi s ((apps l s).put oi.dst c) fi:=by
  have ev:(∃out,Evs P env oi s1 out fi/\s2=out.app oi.dst s1)-> ∃(l:List Eff) (c:AV),s2=(apps l s1).put oi.dst c/\wrs l=fi.wr/\wes l=fi.we/\ ∃out,Evs P env oi s out fi/\(apps l s).put oi.dst c=out.app oi.dst s:=fun⟨out,h1,h2⟩=>by
   refine⟨out.effs,out.val,h2,(Evs.foot h1).1.symm,(Evs.foot h1).2.symm,out,h1.frame opi (fun r hr=> ?_) (fun r hr=> ?_),rfl⟩
   ·have:=dj.rows r (fun q=>(f2 r q).1 hr);exact⟨this.1.symm,this.2.symm⟩
   ·exact(dj.esc r (fun q=>(f2 r q).2.1 hr) (fun q=>f4 r q hr)).symm
  cases hg:js ops oi with
  | always=>
    rw[hg]at hi;obtain⟨l,c,q1,q2,q3,q4⟩:=ev hi;exact⟨l,c,q1,q2,q3,q4⟩
  | on t want=>
    rw[hg]at hi;obtain⟨b,hb,hi⟩:=hi;have hb':s.f t= .lit b:=by rw[gi t want hg];exact hb
    by_cases hbw:wants b want=true
    ·rw[K0 hbw]at hi;obtain⟨l,c,q1,q2,q3,q4⟩:=ev hi;exact⟨l,c,q1,q2,q3,b,hb',by rw[K0 hbw];exact q4⟩
    ·rw[KZ hbw]at hi;obtain⟨rfl,rfl⟩:=hi;exact⟨[], .lit undef,rfl,rfl,rfl,b,hb',by rw[KZ hbw];exact⟨rfl,rfl⟩⟩
  |bad=>rw[hg]at hi;exact hi.elim
 obtain⟨l,c,rfl,hl1,hl2,hst⟩:=first;refine⟨_,hst,?_⟩;have di':Did s ((apps l s).put oi.dst c) oi.dst fi:=⟨l,c,rfl,hl1,hl2⟩
 have opj: ∀y∈oj.op.operands,gt env ((apps l s).put oi.dst c).f y=gt env s.f y:=fun y hy=>by
  cases y with
  |tmp t=>exact di'.f t (fun e=>lC (ops:=ops) (a1 t e) _ hy rfl)
  |_=>rfl
 have same: ∀(k:List Eff) (c':AV),wrs k=fj.wr->wes k=fj.we->(apps l ((apps k s).put oj.dst c')).put oi.dst c=(apps k ((apps l s).put oi.dst c)).put oj.dst c':=fun k c' hk1 hk2=>by
  have hcomm:apps l (apps k s)=apps k (apps l s):=by
   refine(Fe k l s ?_ ?_)
   ·refine K2.2 fun r hr=> ?_;rw[hk1]at hr;have:=f2 r hr;simp[hl1,hl2,this.2.2.1,this.2.2.2]
   ·refine K2.2 fun r hr=> ?_;rw[hl1]at hr;have:=f1 r hr;simp[hk2,this.2.2.2]
  rw[zK,zK,hcomm,put_comm];exact fun t ht e=>a2 t e ht
 have ev:(∃out,Evs P env oj s out fj/\s1=out.app oj.dst s)-> ∃out,Evs P env oj ((apps l s).put oi.dst c) out fj/\(apps l s1).put oi.dst c=out.app oj.dst ((apps l s).put oi.dst c):=fun⟨out,h1,h2⟩=>by
  refine⟨out,h1.frame opj (fun r hr=>di'.rows r (fun q=>(f1 r q).1 hr)) (fun r hr=>di'.esc r (fun q=>(f1 r q).2.1 hr) (fun q=>f3 r q hr)),?_⟩;rw[h2];exact same out.effs out.val (Evs.foot h1).1.symm (Evs.foot h1).2.symm
 cases hg:js ops oj with
 | always=>
   rw[hg]at hj;exact ev hj
 | on t want=>
   rw[hg]at hj;obtain⟨b,hb,hj⟩:=hj;refine⟨b,by rw[gj _ di' t want hg];exact hb,?_⟩;by_cases hbw:wants b want=true
   ·rw[K0 hbw]at hj |-;exact ev hj
   ·rw[KZ hbw]at hj |-;obtain⟨rfl,rfl⟩:=hj;exact⟨same [] (.lit undef) rfl rfl,rfl⟩
 |bad=>rw[hg]at hj;exact hj.elim
end
section
inductive Trace (P:Program) (env:Env) (ops:Array Oper) (F:Nat->Foot):List Nat->St->St->Prop
 |nil (s:St):Trace P env ops F [] s s
 |cons {i:Nat} {is:List Nat} {o:Oper} {s s1 s2:St} (hi:ops[i]? =some o) (h:Stepd P env (js ops o) o s s1 (F i)) (ht:Trace P env ops F is s1 s2):Trace P env ops F (i::is) s s2
def Apart (ops:Array Oper) (F:Nat->Foot) (i j:Nat):Prop:= ∀oi oj,ops[i]? =some oi->ops[j]? =some oj->oi.apart ops oj=true/\(F i).apart (F j)=true
section
variable {P:Program} {env:Env} {ops:Array Oper} {F:Nat->Foot}
theorem Trace.front {i:Nat} : ∀ {l1 l2:List Nat} {s s':St},Trace P env ops F (l1++i::l2) s s'->(∀j∈l1,Apart ops F i j)-> ∃o s1,ops[i]? =some o/\Stepd P env (js ops o) o s s1 (F i)/\Trace P env ops F (l1++l2) s1 s'
 | [],l2,s,s',h,_=>by
   cases h with
   |cons hi h ht=>exact⟨_,_,hi,h,ht⟩
 | j::l1,l2,s,s',h,hap=>by
   cases h with
   | cons hj hsj ht=>
     obtain⟨oi,s2,hi,hsi,ht2⟩:=ht.front (fun k hk=>hap k (by simp[hk]));obtain⟨q1,q2⟩:=hap j (by simp) oi _ hi hj;obtain⟨s1',k1,k2⟩:=hsj.swap hsi q1 q2;exact⟨oi,s1',hi,k1, .cons hj k2 ht2⟩
/-! Which operations are ahead of which -/
inductive Anc (ops:Array Oper):Nat->Nat->Prop
 |one {i:Nat} {o:Oper} {e:Edge} (hi:ops[i]? =some o) (he:e∈o.after) (hb:Region.binds .any e=true):Anc ops e.on i
 |trans {i j k:Nat} (h1:Anc ops i j) (h2:Anc ops j k):Anc ops i k
theorem vH (acc:Array Nat) (j:Nat): ∀(l:List Edge) (s:Nat),(l.foldl (fun s e=>if Region.binds .any e then s||| 2^e.on||| acc.getD e.on 0 else s) s).testBit j=true->
 s.testBit j=true\/ ∃e∈l,Region.binds .any e=true/\(e.on=j\/(acc.getD e.on 0).testBit j=true)
 |[],s,h=> .inl h
 | e::l,s,h=>by
   rw[O0]at h;rcases vH acc j l _ h with h|⟨e',h1,h2,h3⟩
   ·split at h
    ·rename_i hb;rw[OG,OG]at h;simp only[Lb]at h;rcases h with(h|h)|h
     ·exact .inl h
     ·rw[NQ]at h;exact .inr ⟨e,by simp,hb, .inl (by simpa using h)⟩
     ·exact .inr ⟨e,by simp,hb, .inr h⟩
    ·exact .inl h
   ·exact .inr ⟨e',by simp[h1],h2,h3⟩
theorem CO (i j:Nat) (h:((Region.before ops).getD i 0).testBit j=true):Anc ops j i:=by
 have key: ∀n,n<=ops.size->(((ops.toList.take n).foldl (init:=(#[]:Array Nat)) fun acc o=>acc.push (o.after.foldl (fun s e=>if Region.binds .any e then s||| 2^e.on||| acc.getD e.on 0 else s) 0)).size=n)/\
  ∀i j,(((ops.toList.take n).foldl (init:=(#[]:Array Nat)) fun acc o=>acc.push (o.after.foldl (fun s e=>if Region.binds .any e then s||| 2^e.on||| acc.getD e.on 0 else s) 0)).getD i 0).testBit j=true->Anc ops j i:=by
  intro n
  induction n with
  | zero=>
    intro _;refine⟨rfl,fun i j h=> ?_⟩;simp at h
  | succ n ih=>
    intro hn;obtain⟨h1,h2⟩:=ih (by omega);have hl:n<ops.toList.length:=by rw[L9];omega
    rw[MY hl,Og];simp only[O0,List.foldl_nil];generalize (ops.toList.take n).foldl (init:=(#[]:Array Nat)) (fun acc o=>acc.push (o.after.foldl (fun s e=>if Region.binds .any e then s||| 2^e.on||| acc.getD e.on 0 else s) 0))=acc at h1 h2 |-;refine⟨by simp[h1],fun i j h=> ?_⟩;have hon:ops[n]? =some ops.toList[n]:=by simp
    rcases NI i n with hi|hi|hi
    ·refine h2 i j ?_;rw[LS,Mn,KZ (by omega), <-LS]at h;exact h
    ·subst hi;rw[LS,Mn,K0 h1.symm]at h;simp only[Ls]at h;rw[<-Oa]at h;rcases vH acc j _ 0 h with h|⟨e,he,hb,h⟩
     ·simp at h
     ·have a1:Anc ops e.on i:= .one hon (by simpa using he) hb;rcases h with rfl|h
      ·exact a1
      ·exact .trans (h2 _ _ h) a1
    ·rw[LS,NE (by simp;omega)]at h;simp at h
 have:=(key ops.size (K8 _)).2 i j;rw[LP (by simp)]at this;refine this ?_;unfold Region.before at h;rw[<-Oa]at h;exact h
def x7 (ops:Array Oper) (fts:List Foot):Bool:=
 (List.range ops.size).all fun i=>match ops[i]? with
  | some oi=>(oi.after.all fun e=> !Region.binds .any e||decide (e.on<i))&&
    (List.range i).all fun j=>((Region.before ops).getD i 0).testBit j||(match ops[j]? with
     |some oj=>oi.apart ops oj&&(fts.getD i eD).apart (fts.getD j eD)
     |none=>true)
  |none=>true
theorem wQ {ro:Option Nat} {x:Ctx} {Q:Exit->Act->World->Prop} {s':St} (hd: ∀(i:Nat) (o:Oper),ops[i]? =some o-> ∀t,o.dst=some t->t<x.nt)
 (hedge: ∀(i:Nat) (o:Oper),ops[i]? =some o-> ∀e∈o.after,Region.binds .any e=true->e.on<i)
 (hap: ∀i j,j<i->Anc ops j i\/Apart ops F i j) (hQ: ∀a w m,Sim x s' a w m->Q .normal a w):
 ∀(rem:List Nat) (listed:Array Bool) (s:St) (a:Act) (w:World) (m:Mem),listed.size=ops.size->(∀i,i∈rem↔i<ops.size/\listed.getD i false=false)->rem.Pairwise (· < ·)->
  (∀(i:Nat) (o:Oper),ops[i]? =some o->listed.getD i false=true-> ∀e∈o.after,Region.binds .any e=true->listed.getD e.on false=true)->
  Trace P x.env ops F rem s s'->Sim x s a w m->wpAnyIn (fen ro) 3 P .any ops Q rem.length listed a w:=by
 intro rem;generalize hn:rem.length=n
 induction n generalizing rem with
 | zero=>
   intro listed s a w m hsz hrem _ _ ht hS;have:rem=[]:=LJ hn;subst this;cases ht;refine⟨?_,hQ a w m hS⟩;refine M3.2 fun i hi=> ?_;rw[mem_ready]at hi;obtain⟨h0,o,ho,_⟩:=hi;have hlt:i<ops.size:=(Kq.1 ho).1
   have hf:listed.getD i false=false:=by
    rw[LS]at h0 |-;rw[Ld (by omega)]at h0 |-;exact h0
   exact absurd ((hrem i).2 ⟨hlt,hf⟩) (by simp)
 | succ n ih=>
   intro listed s a w m hsz hrem hsort hdown ht hS;refine⟨fun hready=> ?_,fun i hi=> ?_⟩
   ·
    cases rem with
    |nil=>simp at hn
    | cons k rest=>
      obtain⟨hk1,hk2⟩:=(hrem k).1 (by simp)
      have:k∈Region.ready .any ops listed:=by
       rw[mem_ready];refine⟨?_,ops[k],Ld hk1,fun e he hb=> ?_⟩
       ·rw[LS]at hk2 |-;rw[Ld (by omega)]at hk2 |-;exact hk2
       ·have hlt:=hedge k _ (Ld hk1) e he hb;rcases hq:listed.getD e.on false with _|_
        ·have hmem:=(hrem e.on).2 ⟨by omega,hq⟩;rcases Kk.1 hmem with h|h
         ·omega
         ·have:=(MA.1 hsort).1 e.on h;omega
        ·rfl
      rw[hready]at this;cases this
   ·rw[mem_ready]at hi;obtain⟨h0,oi,hoi,hpre⟩:=hi;have hlt:i<ops.size:=(Kq.1 hoi).1
    have hf:listed.getD i false=false:=by
     rw[LS]at h0 |-;rw[Ld (by omega)]at h0 |-;exact h0
    have hmem:i∈rem:=(hrem i).2 ⟨hlt,hf⟩;obtain⟨l1,l2,rfl⟩:=List.append_of_mem hmem
    have hanc: ∀j,Anc ops j i->listed.getD j false=true:=by
     intro j hj
     have gen: ∀j k,Anc ops j k->(k=i\/listed.getD k false=true)->listed.getD j false=true:=by
      intro j k h
      induction h with
      | one hk he hb=>
        rintro(rfl|hk2)
        ·rw[hoi]at hk;cases hk;exact hpre _ he hb
        ·exact hdown _ _ hk hk2 _ he hb
      |trans _ _ ih1 ih2=>exact fun hk=>ih1 (.inr (ih2 hk))
     exact gen j i hj (.inl rfl)
    have hapart: ∀j∈l1,Apart ops F i j:=fun j hj=>by
     have hjl:listed.getD j false=false:=((hrem j).1 (by simp[hj])).2
     have hji:j<i:=by
      rw[Mx]at hsort;exact hsort.2.2 j hj i (by simp)
     rcases hap i j hji with h|h
     ·rw[hanc j h]at hjl;cases hjl
     ·exact h
    obtain⟨o,s1,ho,hst,ht2⟩:=ht.front hapart;rw[hoi]at ho;cases ho;refine ow hoi hS (hd i oi hoi) hst fun a' w' m' hS'=> ?_;refine ih (l1++l2) (by simp at hn |-;omega) (listed.setIfInBounds i true) s1 a' w' m' (by simpa using hsz) (fun k=> ?_) ?_ (fun k o ho hk e he hb=> ?_) ht2 hS'
    ·have hr:=hrem k;have hnd:(l1++i::l2).Nodup:=hsort.imp (fun h=>Oy h)
     have hni:i∉l1++l2:=by
      rw[ML]at hnd;obtain⟨_,hnd2,hnd3⟩:=hnd;simp only[Kt,O1];exact⟨fun h=>hnd3 i h i (by simp) rfl,(M1.1 hnd2).1⟩
     by_cases hki:i=k
     ·subst hki;refine⟨fun h=>absurd h hni,fun h=> ?_⟩;have h2:=h.2;rw[LS,Array.getElem?_setIfInBounds_self_of_lt (by omega)]at h2;simp at h2
     ·rw[getD_set_ne false hki, <-hr];simp only[Kt,Kk];constructor
      ·rintro(h|h)
       ·exact .inl h
       ·exact .inr (.inr h)
      ·rintro(h|h|h)
       ·exact .inl h
       ·exact absurd h.symm hki
       ·exact .inr h
    ·rw[Mx]at hsort |-;exact⟨hsort.1,(MA.1 hsort.2.1).2,fun j hj k hk=>hsort.2.2 j hj k (by simp[hk])⟩
    ·by_cases hki:i=k
     ·subst hki;rw[hoi]at ho;cases ho;exact getD_set_true (hpre e he hb)
     ·rw[getD_set_ne false hki]at hk;exact getD_set_true (hdown k o ho hk e he hb)
end
/-! The region's laws -/
section
variable {P:Program} {x:Ctx} {ops:Array Oper} {Q:Exit->Act->World->Prop} {s s':St} {a:Act} {w:World} {m:Mem}
theorem Az {fts:List Foot} (h:x7 ops fts=true):(∀(i:Nat) (o:Oper),ops[i]? =some o-> ∀e∈o.after,Region.binds .any e=true->e.on<i)/\ ∀i j,j<i->Anc ops j i\/Apart ops (fun i=>fts.getD i eD) i j:=by
 have h:=K2.1 h;constructor
 ·intro i o ho e he hb;have hlt:i<ops.size:=(Kq.1 ho).1;have:=h i (by simpa using hlt);rw[ho]at this;simp only[KY]at this;have:=(NL.1 this.1) e he;simpa[hb]using this
 ·intro i j hji;by_cases hlt:i<ops.size
  ·have:=h i (by simpa using hlt);rw[Ld hlt]at this;simp only[KY]at this;have:=(K2.1 this.2) j (by simpa using hji);simp only[Lb]at this;rcases this with h1|h1
   ·exact .inl (CO i j h1)
   ·refine .inr fun oi oj hoi hoj=> ?_;rw[Ld hlt]at hoi;cases hoi;rw[hoj]at h1;simpa using h1
  ·refine .inr fun oi oj hoi hoj=> ?_;rw[NE (by omega)]at hoi;cases hoi
theorem yO {ro:Option Nat} {id:Nat} {fts:List Foot} (hm:P.follows .mixedOrders=true) (hd:(ops.all fun o=>o.dst.all (· <x.nt))=true) (hok:x7 ops fts=true) (ht:Trace P x.env ops (fun i=>fts.getD i eD) (List.range ops.size) s s') (hS:Sim x s a w m)
 (hQ: ∀a w m,Sim x s' a w m->Q .normal a w):(Code.region id ops true).wpIn (fen ro) 3 P Q a w:=by
 obtain⟨h1,h2⟩:=Az hok;refine wpIn_region_any hm ?_
 have:=wQ (ro:=ro) (P:=P) (x:=x) (ops:=ops) (F:=fun i=>fts.getD i eD) (Q:=Q) (s':=s') (fun i o ho t ht=>by
  have:=(NL.1 hd) o (N2 ho);rw[ht]at this;simpa using this) h1 h2 hQ (List.range ops.size) (Array.replicate ops.size false) s a w.drew m (by simp) (fun i=>by
  simp only[Kr];constructor
  ·exact fun h=>⟨h,by simp[h]⟩
  ·exact fun h=>h.1) (List.pairwise_lt_range) (fun i o ho hl=>by
  have hlt:i<ops.size:=(Kq.1 ho).1
  simp[hlt]at hl) ht (hS.drew 1)
 rw[OH]at this;exact this
theorem yN {ro:Option Nat} {id:Nat} {F:Nat->Foot} (hd:(ops.all fun o=>o.dst.all (· <x.nt))=true) (ht:Trace P x.env ops F (List.range ops.size) s s') (hS:Sim x s a w m)
 (hQ: ∀a w m,Sim x s' a w m->Q .normal a w):(Code.region id ops false).wpIn (fen ro) 3 P Q a w:=by
 refine wpIn_region ?_;generalize List.range ops.size=l at ht
 induction ht generalizing a w m with
 |nil s=>exact hQ a w m hS
 | cons hi h ht ih=>
   rw[wpOpsIn_cons];refine ow hi hS (fun t ht=> ?_) h fun a' w' m' hS'=>ih hS' hQ;have:=(NL.1 hd) _ (N2 hi);rw[ht]at this;simpa using this
end
end
section
def awp (P:Program) (env:Env) (nt:Nat) (c:Code) (Q:Exit->St->Prop) (s:St):Prop:=
 ∀(ro:Option Nat) (x:Ctx),x.env=env->x.nt=nt-> ∀a w m,Sim x s a w m->c.wpIn (fen ro) 3 P (fun e a' w'=> ∃s' m',Q e s'/\Sim x s' a' w' m') a w
def bJ (K:St->Prop) (Q:Exit->St->Prop):Exit->St->Prop
 | .normal,s=>K s
 |e,s=>Q e s
def ba (id:Nat) (Q:Exit->St->Prop):Exit->St->Prop
 | .exit id',s=>if id'=id then Q .normal s else Q (.exit id') s
 |e,s=>Q e s
section
variable {P:Program} {env:Env} {nt:Nat} {Q:Exit->St->Prop} {s:St}
theorem AY {c:Code} {Q':Exit->St->Prop} (h:awp P env nt c Q s) (hq: ∀e s,Q e s->Q' e s):awp P env nt c Q' s:=
 fun ro x he hn a w m hS=>Mo (h ro x he hn a w m hS) fun _ _ _ ⟨s',m',h1,h2⟩=>⟨s',m',hq _ _ h1,h2⟩
theorem oK (h:Q .normal s):awp P env nt .skip Q s:=fun _ _ _ _ _ _ m hS=>wpIn_skip ⟨s,m,h,hS⟩
theorem vk {l:Nat} (h:Q .normal s):awp P env nt (.label l) Q s:=fun _ _ _ _ _ _ m hS=>wpIn_label ⟨s,m,h,hS⟩
theorem aN (h:Q .ret s):awp P env nt .ret Q s:=fun _ _ _ _ _ _ m hS=>wpIn_ret ⟨s,m,h,hS⟩
theorem oX {id:Nat} (h:Q (.exit id) s):awp P env nt (.exit id) Q s:=fun _ _ _ _ _ _ m hS=>wpIn_exit ⟨s,m,h,hS⟩
theorem oS {c d:Code} (h:awp P env nt c (bJ (awp P env nt d Q) Q) s):awp P env nt (.seq c d) Q s:=fun ro x he hn a w m hS=>by
 refine wpIn_seq (Mo (h ro x he hn a w m hS) ?_);rintro e a' w' ⟨s',m',h1,h2⟩;cases e with
 |normal=>exact h1 ro x he hn a' w' m' h2
 |_=>exact⟨s',m',h1,h2⟩
theorem tL {y:Operand} {c d:Code} {b:Bool} (hy:gt env s.f y= .lit (.bool b)) (h1:b=true->awp P env nt c Q s) (h2:b=false->awp P env nt d Q s):awp P env nt (.cond y c d) Q s:=fun ro x he hn a w m hS=>by
 have hv:=ah hS y;rw[he,hy]at hv;exact wpIn_cond_split hv.lit_ (fun hb=>h1 hb ro x he hn a w m hS) (fun hb=>h2 hb ro x he hn a w m hS)
theorem oB {id:Nat} {c:Code} (h:awp P env nt c (ba id Q) s):awp P env nt (.block id c) Q s:=fun ro x he hn a w m hS=>by
 refine wpIn_block (Mo (h ro x he hn a w m hS) ?_);rintro e a' w' ⟨s',m',h1,h2⟩;cases e with
 | exit id'=>
   show if id'=id then _ else _
   have h1:if id'=id then Q .normal s' else Q (.exit id') s':=h1
   split
   ·rename_i hid;rw[K0 hid]at h1;exact⟨s',m',h1,h2⟩
   ·rename_i hid;rw[KZ hid]at h1;exact⟨s',m',h1,h2⟩
 |_=>exact⟨s',m',h1,h2⟩
theorem AZ {c:Code} {s':St} (hl:Less s s') (h:awp P env nt c Q s'):awp P env nt c Q s:=fun ro x he hn a w m hS=>h ro x he hn a w m (hS.less hl)
theorem HV {D:Type} {c:Code} (S:D->(Nat->Nat)->(Nat->Bool)->St) (inv:D->(Nat->Nat)->(Nat->Bool)->Prop) (μ:D->Nat) (d0:D) (h0:inv d0 s.vs s.esc) (hl:Less s (S d0 s.vs s.esc))
 (round: ∀d vs esc,inv d vs esc->awp P env nt c (bJ (fun s1=> ∃d',inv d' s1.vs s1.esc/\Less s1 (S d' s1.vs s1.esc)/\μ d'<μ d) Q) (S d vs esc)):awp P env nt (.loop c) Q s:=fun ro x he hn a w m hS=>by
 refine wpIn_loop_ghost (fun n a w=> ∃d vs esc m,inv d vs esc/\μ d=n/\Sim x (S d vs esc) a w m) (μ d0) ⟨d0,s.vs,s.esc,m,h0,rfl,hS.less hl⟩ ?_;rintro n a w ⟨d,vs,esc,m,hi,rfl,hS⟩;refine Mo (round d vs esc hi ro x he hn a w m hS) ?_;rintro e a' w' ⟨s',m',h1,h2⟩;cases e with
 | normal=>
   obtain⟨d',q1,q2,q3⟩:=h1;exact⟨μ d',q3,d',s'.vs,s'.esc,m',q1,rfl,h2.less q2⟩
 |_=>exact⟨s',m',h1,h2⟩
end
/-! Regions -/
structure Stp where
 o:Oper
 g:Gd
def prep (ops:Array Oper):List Stp:=ops.toList.map fun o=>⟨o,js ops o⟩
def aops (P:Program) (env:Env):List Stp->St->(St->List Foot->Prop)->Prop
 |[],s,K=>K s []
 |q::rest,s,K=> ∃s1 ft,Stepd P env q.g q.o s s1 ft/\aops P env rest s1 fun s2 fts=>K s2 (ft::fts)
section
variable {P:Program} {env:Env} {nt:Nat} {Q:Exit->St->Prop} {s:St} {ops:Array Oper}
theorem mH: ∀ {qs:List Stp} {s:St} {K:St->List Foot->Prop},aops P env qs s K-> ∃s' fts,fts.length=qs.length/\K s' fts/\
 ∀(k:Nat) (F:Nat->Foot),(∀j,j<qs.length->F (k+j)=fts.getD j eD)->(∀(j:Nat) (q:Stp),qs[j]? =some q->ops[k+j]? =some q.o/\q.g=js ops q.o)->Trace P env ops F (List.range' k qs.length) s s'
 |[],s,K,h=>⟨s,[],rfl,h,fun k F _ _=> .nil s⟩
 | q::rest,s,K,h=>by
   obtain⟨s1,ft,h1,h2⟩:=h;obtain⟨s',fts,k1,k2,k3⟩:=mH h2;refine⟨s',ft::fts,by simp[k1],k2,fun k F hF hq=> ?_⟩;have hq0:=hq 0 q rfl;have hF0:F k=ft:=hF 0 (by simp);refine .cons (by simpa using hq0.1) (by rw[hF0, <-hq0.2];exact h1) (k3 (k+1) F (fun j hj=> ?_) fun j q' hj=> ?_)
   ·have:=hF (j+1) (by simp;omega);rw[show k+1+j=k+(j+1) by omega,this];simp
   ·have:=hq (j+1) q' (by simpa using hj);rw[show k+1+j=k+(j+1) by omega];exact this
theorem Cx {ops:Array Oper} (j:Nat) (q:Stp) (h:(prep ops)[j]? =some q):ops[0+j]? =some q.o/\q.g=js ops q.o:=by
 unfold prep at h;rw[K5]at h;cases ho:ops.toList[j]? with
 |none=>rw[ho]at h;cases h
 | some o=>
   rw[ho]at h;cases h;rw[Lc];exact⟨by simpa using ho,rfl⟩
theorem qA {id:Nat} {qs:List Stp} (hq:prep ops=qs) (hd:(ops.all fun o=>o.dst.all (· <nt))=true) (h:aops P env qs s fun s' _=>Q .normal s'):awp P env nt (.region id ops false) Q s:=fun ro x he hn a w m hS=>by
 subst hq;subst he;subst hn;obtain⟨s',fts,_,k2,k3⟩:=mH (ops:=ops) h;have ht:=k3 0 (fun i=>fts.getD i eD) (fun j _=>by rw[Lc]) (fun j q hj=>Cx j q hj);have hl:(prep ops).length=ops.size:=by simp[prep]
 rw[hl, <-List.range_eq_range']at ht;exact yN hd ht hS fun a w m hS'=>⟨s',m,k2,hS'⟩
theorem qB {id:Nat} {qs:List Stp} (hq:prep ops=qs) (hm:P.follows .mixedOrders=true) (hd:(ops.all fun o=>o.dst.all (· <nt))=true) (h:aops P env qs s fun s' fts=>x7 ops fts=true/\Q .normal s'):awp P env nt (.region id ops true) Q s:=fun ro x he hn a w m hS=>by
 subst hq;subst he;subst hn;obtain⟨s',fts,_,⟨k2,k4⟩,k3⟩:=mH (ops:=ops) h;have ht:=k3 0 (fun i=>fts.getD i eD) (fun j _=>by rw[Lc]) (fun j q hj=>Cx j q hj);have hl:(prep ops).length=ops.size:=by simp[prep]
 rw[hl, <-List.range_eq_range']at ht;exact yO hm hd k2 ht hS fun a w m hS'=>⟨s',m,k4,hS'⟩
/-! One operation -/
theorem oZ {K:St->List Foot->Prop} (h:K s []):aops P env [] s K:=h
def Gives (q:Rd Out) (s:St) (d:Option Nat) (s1:St) (ft:Foot):Prop:= ∃out,q.run s=some out/\out.app d s=s1/\qE q s out=ft
theorem Iz {o:Oper} {rest:List Stp} {s1:St} {ft:Foot} {K:St->List Foot->Prop} (hc:bB env s.f o=none) (h:Gives (aT P env s.f o) s o.dst s1 ft) (k:aops P env rest s1 fun s2 fts=>K s2 (ft::fts)):aops P env (⟨o, .always⟩::rest) s K:=by
 obtain⟨out,h1,h2,h3⟩:=h;refine⟨s1,ft,⟨out,?_,h2.symm⟩,k⟩;unfold Evs;rw[hc];exact⟨h1,h3.symm⟩
theorem Do {o:Oper} {t:Nat} {want b:Bool} {rest:List Stp} {K:St->List Foot->Prop} (hb:s.f t= .lit (.bool b)) (h1:b=want->aops P env (⟨o, .always⟩::rest) s K) (h2:b= !want->aops P env rest (s.put o.dst (.lit undef)) fun s2 fts=>K s2 (eD::fts)):aops P env (⟨o, .on t want⟩::rest) s K:=by
 by_cases hbw:b=want
 ·obtain⟨s1,ft,q1,q2⟩:=h1 hbw;exact⟨s1,ft,⟨_,hb,by rw[K0 (by simp[wants,hbw])];exact q1⟩,q2⟩
 ·exact⟨_,eD,⟨_,hb,by rw[KZ (by simpa[wants]using hbw)];exact⟨rfl,rfl⟩⟩,h2 (by cases b<;>cases want<;>simp_all)⟩
theorem Fg {o:Oper} {t:Nat} {want:Bool} {v:Value} {rest:List Stp} {K:St->List Foot->Prop} (hb:s.f t= .lit v) (hn:wants v want=false) (k:aops P env rest (s.put o.dst (.lit undef)) fun s2 fts=>K s2 (eD::fts)):aops P env (⟨o, .on t want⟩::rest) s K:=
 ⟨_,eD,⟨_,hb,by rw[KZ (by rw[hn];simp)];exact⟨rfl,rfl⟩⟩,k⟩
theorem vo {lend:Bool} {o:Oper} {f:FuncId} {args:List AV} {rest:List Stp} {s1:St} {ft:Foot} {cs:List AV} {l:List Nat} {res:AV} {K:St->List Foot->Prop} (hc:bB env s.f o=some (f,args)) (ha:(fzArgs args).run s=some (cs,l)) (hcon:JW lend P env f cs res)
 (h:Gives (db lend o.dst args res) s o.dst s1 ft) (k:aops P env rest s1 fun s2 fts=>K s2 (ft::fts)):aops P env (⟨o, .always⟩::rest) s K:=by
 obtain⟨out,h1,h2,h3⟩:=h;refine⟨s1,ft,⟨out,?_,h2.symm⟩,k⟩;unfold Evs;rw[hc];exact .inl ⟨lend,(cs,l),res,ha,hcon,h1,h3.symm⟩
theorem vn {o:Oper} {f:FuncId} {args:List AV} {rest:List Stp} {s1:St} {row:Row} {rs:List Value} {ls ls':List (List Value)} {K:St->List Foot->Prop} (r:Nat) (hc:bB env s.f o=some (f,args)) (ha:args= .row r (s.vs r)::rs.map .lit)
 (e2:s.rows r=some row) (e4:s.esc r=false) (hT:Turns P f rs row.e row.sz ls ls') (e5:row.es=bC ls) (e3:row.pure=true) (hrz:row.sz≠0) (h1:((s.setRow r { row with es:=bC ls' }).put o.dst .any)=s1) (k:aops P env rest s1 fun s2 fts=>K s2 (⟨[r],[r],[r],[]⟩::fts)):aops P env (⟨o, .always⟩::rest) s K:=by
 refine⟨s1,_,⟨⟨.any,[.set r { row with es:=bC ls' }]⟩,?_,h1.symm⟩,k⟩;unfold Evs;rw[hc];exact .inr (.inl ⟨r,row,rs,ls,ls',ha,e2,hrz,e3,e4,e5,hT,rfl,rfl⟩)
theorem ol {o:Oper} {f:FuncId} {args:List AV} {rest:List Stp} {s1:St} {cs:List AV} {ids:List Nat} {out:Out} {K:St->List Foot->Prop} (hc:bB env s.f o=some (f,args)) (ha:args=cs) (hA:Acts P env f cs ids s.rows s.vs out)
 (he: ∀r∈ids,s.esc r=false) (h1:out.app o.dst s=s1) (k:aops P env rest s1 fun s2 fts=>K s2 (⟨ids,ids,wrs out.effs,wes out.effs⟩::fts)):aops P env (⟨o, .always⟩::rest) s K:=by
 subst ha;refine⟨s1,_,⟨out,?_,h1.symm⟩,k⟩;unfold Evs;rw[hc];exact .inr (.inr ⟨ids,hA,he,rfl⟩)
end
/-! A function -/
def St.init (cs:List AV):St:=⟨fun t=>cs.getD t .any,fun _=>none,fun _=>0,fun _=>false⟩
def fg (P:Program) (f:Nat->AV):ResultVar->Rd AV
 | .tmp t=>(fz (f t)).bind fun y=> .ret y.1
 | .cell a t=>(match f a with
   | .loc r ver i off=>Rd.row r ver fun row=>eE P t row.es[i]? off
   |_=> .fail).bind fun o=>(fz o.val).bind fun y=> .ret y.1
def iX (P:Program) (f:Nat->AV):List ResultVar->Rd (List AV)
 |[]=> .ret []
 |r::rs=>(fg P f r).bind fun c=>(iX P f rs).bind fun cs=> .ret (c::cs)
def an (P:Program) (f:Nat->AV):List ResultVar->Rd AV
 | [.tmp t]=>match f t with
   | .row r ver=>Rd.row r ver fun row=> .esc r fun b=>if row.pure then(if b then .ret (.seq row.sz row.es) else .ret (.own row.e row.sz row.es)) else .fail
   |c=>(fz c).bind fun y=> .ret y.1
 |[r]=>fg P f r
 |rs=>(iX P f rs).bind fun cs=> .ret (.tuple cs)
def KN (P:Program) (rs:List ResultVar) (res:AV):Exit->St->Prop
 | .normal,s | .ret,s=>(an P s.f rs).run s=some res
 |_,_=>False
section
variable {P:Program} {x:Ctx} {s:St} {a:Act} {w:World} {m:Mem}
def resultSem (tmps:Array Value):ResultVar->Sem Value
 | .tmp t=>pure (tmps.getD t undef)
 | .cell a t=>do loadVar t (<-asAddr (tmps.getD a undef))
theorem u4 {r:ResultVar} {c:AV} (h:(fg P s.f r).run s=some c) (hS:Sim x s a w m): ∃v l S',(resultSem a.tmps r).run P w= .ok v w/\Sim x (apps (shows l) s) a w ⟨S',m.ρ⟩/\(∀b o,m.S b o->S' b o)/\RV S' w v c:=by
 cases r with
 | tmp t=>
   simp only[fg]at h;obtain⟨y,h1,h2⟩:=run_bind h;simp only[Rd.run,KX]at h2;subst h2;obtain⟨S',q1,q2,q3⟩:=nQ h1 hS (hS.slot t);exact⟨_,y.2,S',rfl,q1,q2,q3⟩
 | cell p t=>
   simp only[fg]at h;obtain⟨o,h1,h⟩:=run_bind h;obtain⟨y,h2,h⟩:=run_bind h;simp only[Rd.run,KX]at h;subst h;have hp:=hS.slot p;split at h1
   ·rename_i r ver i off e;rw[e]at hp;obtain⟨row,hrow,hver,hrz,h1⟩:=dV h1;obtain⟨g,hg,hv⟩:=hp.loc_.2 hver row hrow;obtain⟨xs,k1,k2,k3⟩:=((hS.rows r row hrow).cells hrz).own;cases he:row.es[i]? with
    | none=>
      rw[he]at h1;unfold eE at h1;cases hd:tyD P t with
      |none=>rw[hd]at h1;simp[Rd.run]at h1
      |some d=>rw[hd]at h1;obtain⟨k,n,z⟩:=d;cases k<;>simp[Rd.run]at h1
    | some cs=>
      rw[he]at h1
      obtain⟨v,p1,p2,p3⟩:=kY (P:=P) (t:=t) (w:=w) (m:=m) (s:=s) (b:=g) (p:=i*row.sz) (fun j=>xs.getD (i*row.sz+j) undef) (fun j c hj=>by
       have hca:cellAt row.es i j=some c:=by unfold cellAt;rw[he];exact hj
       obtain⟨u,q1,q2⟩:=k3 i j c hca;have hu:xs.getD (i*row.sz+j) undef=u:=by simp[List.getD,q1]
       rw[hu];refine⟨gp k1 hg _ u q1,k2 u (K1 q1),?_⟩;split at q2
       ·exact .val q2
       ·exact q2) h1
      obtain⟨S',q1,q2,q3⟩:=nQ h2 hS p2;refine⟨v,y.2,S',?_,q1,q2,q3⟩;simp only[resultSem,hv,asAddr,Ks,LO,Kc];simpa[Instr.loadAt,Instr.sureAddr]using p1
   ·simp[Rd.run]at h1
theorem yM {s s':St} (h1:s'.rows=s.rows) (h2:s'.vs=s.vs) (f:Nat->AV) (r:ResultVar):(fg P f r).run s'=(fg P f r).run s:=by
 cases r with
 | tmp t=>
   simp only[fg,Rd.run_bind,rb h1 h2];rfl
 | cell p t=>
   simp only[fg,Rd.run_bind,rb h1 h2]
   congr 1
   split
   ·simp only[Rd.row,Rd.run,h1,h2];split
    ·split
     ·rename_i row _ _;unfold eE;split<;>(try split)<;>rfl
     ·rfl
    ·rfl
   ·rfl
theorem pC {s s':St} (h1:s'.rows=s.rows) (h2:s'.vs=s.vs) (f:Nat->AV): ∀rs:List ResultVar,(iX P f rs).run s'=(iX P f rs).run s
 |[]=>rfl
 | r::rs=>by
   simp only[iX,Rd.run_bind,yM h1 h2,pC h1 h2 f rs];rfl
theorem u5: ∀ {rs:List ResultVar} {s:St} {m:Mem} {cs:List AV},(iX P s.f rs).run s=some cs->Sim x s a w m-> ∃vs l S',(rs.mapM (resultSem a.tmps)).run P w= .ok vs w/\Sim x (apps (shows l) s) a w ⟨S',m.ρ⟩/\(∀b o,m.S b o->S' b o)/\vs.length=cs.length/\rs.length=cs.length/\ ∀(i:Nat) (v:Value) (c:AV),vs[i]? =some v->cs[i]? =some c->RV S' w v c
 | [],s,m,cs,h,hS=>by
   simp only[iX,Rd.run,KX]at h;subst h;exact⟨[],[],m.S,by simp,hS,fun _ _ h=>h,rfl,rfl,fun i v c hv _=>by simp at hv⟩
 | r::rs,s,m,cs,h,hS=>by
   simp only[iX]at h;obtain⟨c,h1,h⟩:=run_bind h;obtain⟨cs',h2,h⟩:=run_bind h;simp only[Rd.run,KX]at h;subst h;obtain⟨v,l,S1,p1,p2,p3,p4⟩:=u4 h1 hS;obtain⟨e1,e2,e3⟩:=cL l s;have h2':(iX P (apps (shows l) s).f rs).run (apps (shows l) s)=some cs':=by rw[e3, <-h2];exact pC e1 e2 _ rs
   obtain⟨vs,l',S2,q1,q2,q3,q4,q5,q6⟩:=u5 h2' p2;refine⟨v::vs,l++l',S2,?_,by simp only[shows,Ki,apps_append];exact q2,fun b o hb=>q3 b o (p3 b o hb),by simp[q4],by simp[q5],fun i v' c' hv hc=> ?_⟩
   ·simp[N8,p1,q1]
   ·cases i with
    | zero=>
      simp only[LM,KX]at hv hc;subst hv hc;exact p4.mono fun b o hb=>⟨q3 b o hb, .rfl⟩
    |succ i=>exact q6 i v' c' (by simpa using hv) (by simpa using hc)
theorem gU {fn:Func} (tmps:Array Value):results fn tmps=(do let vs <-fn.results.mapM (resultSem tmps);pure (if h:vs.size=1 then vs[0] else .tuple vs)):=by
 unfold results
 congr 1
theorem tZ {fn:Func} {res:AV} (h:(an P s.f fn.results.toList).run s=some res) (hS:Sim x s a w m): ∃v S',(results fn a.tmps).run P w= .ok v w/\(∀b o,x.S b o->S' b o)/\(∀b o,S' b o->x.S b o\/x.w.heap.size<=b)/\(∀b o,S' b o->b<w.heap.size)/\RR S' w x.w.heap.size v res:=by
 have rr: ∀ {S':Nat->Nat->Prop} {v:Value} {c:AV},RV S' w v c->RR S' w x.w.heap.size v c:=fun {S' v c} hv=>by
  cases c with
  |own=>cases hv
  |_=>exact hv
 have one: ∀ {r:ResultVar} {v:Value},fn.results.toList=[r]->(resultSem a.tmps r).run P w= .ok v w->(results fn a.tmps).run P w= .ok v w:=fun {r v} hr hv=>by
  have ha:fn.results= #[r]:=by rw[<-LU (xs:=fn.results),hr]
  rw[gU,ha];simp[hv]
 have fin1: ∀ {r:ResultVar},fn.results.toList=[r]->(fg P s.f r).run s=some res-> ∃v S',(results fn a.tmps).run P w= .ok v w/\(∀b o,x.S b o->S' b o)/\(∀b o,S' b o->x.S b o\/x.w.heap.size<=b)/\(∀b o,S' b o->b<w.heap.size)/\RR S' w x.w.heap.size v res:=fun {r} hr hh=>by
  obtain⟨v,l,S',p1,p2,p3,p4⟩:=u4 hh hS;exact⟨v,S',one hr p1,p2.sup,p2.sub,p2.low,rr p4⟩
 generalize hrs:fn.results.toList=rs at h;unfold an at h;split at h
 ·rename_i t;split at h
  ·rename_i r ver e;obtain⟨row,hrow,hver,hrz,h⟩:=dV h;have hsl:=hS.slot t;rw[e]at hsl;have hv:=hsl.row_.2 hver row hrow;simp only[Rd.run]at h;split at h
   ·rename_i hp;split at h
    ·rename_i hesc;simp only[Rd.run,KX]at h;subst h;obtain⟨S',q1,q2,q3⟩:=hS.show r row hrow hrz hp;exact⟨_,S',one hrs (v:=a.tmps.getD t undef) rfl,q1.sup,q1.sub,q1.low,by rw[hv];exact q3⟩
    ·rename_i hesc;simp only[Rd.run,KX]at h;subst h;have k:=(hS.rows r row hrow).cells hrz;obtain⟨xs,k1,k2,k3⟩:=k.own;refine⟨_,m.S,one hrs (v:=a.tmps.getD t undef) rfl,hS.sup,hS.sub,hS.low,?_⟩;rw[hv]
     exact⟨xs,k1,k.pos,⟨k1.1,k2,k.len,fun i j c hc=>by
      obtain⟨u,u1,u2⟩:=k3 i j c hc;rw[K0 hp]at u2
      exact⟨u,u1,u2⟩⟩,fun g hg o=>k.fresh (by simpa using hesc) g hg o⟩
   ·simp[Rd.run]at h
  ·exact fin1 hrs (by simpa only[fg]using h)
 ·exact fin1 hrs h
 ·obtain⟨cs,h1,h⟩:=run_bind h;simp only[Rd.run,KX]at h;subst h;obtain⟨vs,l,S',p1,p2,p3,p4,p5,p6⟩:=u5 h1 hS;rename_i hne1 hne2
  have hsz:vs.length≠1:=fun hh=>by
   have:rs.length=1:=by omega
   match rs,this with
   |[r],_=>exact hne2 r rfl
  refine⟨.tuple vs.toArray,S',?_,p2.sup,p2.sub,p2.low, .tuple vs cs p4 p6⟩;rw[gU]
  have:(fn.results.mapM (resultSem a.tmps)).run P w= .ok vs.toArray w:=by
   rw[Array.mapM_eq_mapM_toList,hrs];simp[p1]
  simp[this,hsz]
theorem kD {env:Env} {f:FuncId} {fn:Func} {c:Code} {cs:List AV} {res:AV} (hf:P.funcs[f]? =some fn) (hb:fn.body=some c) (henter: ∀(args:Array Value) (w:World),(callFunc f args).run P w= .ok (.enter f args) w) (hn:cs.length<=fn.ntmps)
 (h:awp P env fn.ntmps c (KN P fn.results.toList res) (St.init cs)):Con P env f cs res:=by
 refine⟨henter,fun w S vs hE hl hv=> ?_⟩;refine calls_of_wp hf hb ?_
 have hS:Sim ⟨w,S,env,fn.ntmps,w,⟨S,fun _=>undef⟩,St.init cs,fun _=>False,[]⟩ (St.init cs) { tmps:=vs.toArray++Array.replicate (fn.ntmps-vs.toArray.size) undef,defers:=[] } w ⟨S,fun _=>undef⟩:=by
  refine⟨MM _ _,hE.low,fun _ _ h=>h,fun _ _ h=> .inl h,hE.env,hE.low,hE.inv,rfl,by simp;omega,fun t=> ?_,(fun r row hr=>by cases hr),(fun r r' row row' hr=>by cases hr),(fun _ _ hh=>⟨hh, .rfl⟩),(fun _=>K8 _),(fun r row' _ hr=>by cases hr),K8 _,(fun _ h=>h.elim),(fun r row hr=>by cases hr)⟩;show RL w _ _ _ (cs.getD t .any);by_cases ht:t<cs.length
  ·refine .val (hv t _ _ ?_ ?_)
   ·rw[LS,NF (by simp;omega)];simp[show t<vs.length by omega]
   ·simp[List.getD,ht]
  ·have:cs.getD t .any= .any:=by simp[List.getD,K7 (OR ht)]
   rw[this];exact .val (.any _)
 refine wpIn_wide.1 (Mo (h none _ rfl rfl _ w _ hS) ?_);rintro e a' w' ⟨s',m',h1,h2⟩;cases e with
 | normal=>
   obtain⟨v,S',p1,p2,p3,p4,p5⟩:=tZ (fn:=fn) (show (an P s'.f fn.results.toList).run s'=some res from h1) h2;exact⟨h2.dfs,v,p1,v,rfl,h2.bel,S',p2,p3,p4,p5⟩
 | ret=>
   obtain⟨v,S',p1,p2,p3,p4,p5⟩:=tZ (fn:=fn) (show (an P s'.f fn.results.toList).run s'=some res from h1) h2;exact⟨h2.dfs,v,p1,v,rfl,h2.bel,S',p2,p3,p4,p5⟩
 |_=>exact h1.elim
end
end
section
section
variable {P:Program} {env:Env} {f:Nat->AV} {d:Option Nat} {ty:TypeId} {ps:String} {af:Array Edge} {g:Option (Nat×Bool)}
theorem D7 {y:Operand} :aT P env f ⟨d, .move y,ty,ps,af,g⟩=val (gt env f y):=rfl
theorem vT {y:Operand} :aT P env f ⟨d, .assign y,ty,ps,af,g⟩=val (gt env f y):=rfl
def C4 (c y z:AV):Rd Out:=match c with
 | .lit (.bool true)=>val y
 | .lit (.bool false)=>val z
 |_=> .fail
theorem D6 {c y z:Operand} :aT P env f ⟨d, .pick c y z,ty,ps,af,g⟩=C4 (gt env f c) (gt env f y) (gt env f z):=rfl
def xV (P:Program) (d:Option Nat) (t:TypeId):Rd Out:=match tyD P t with
 |some q=>if q.zero.length=q.size/\q.zero.all (·.oneCell') then ky d t (q.zero.map .lit) else .fail
 |none=> .fail
theorem AH {t:TypeId} :aT P env f ⟨d, .alloc t,ty,ps,af,g⟩=xV P d t:=rfl
theorem Hp {t:TypeId} {y:Operand} :aT P env f ⟨d, .box t y,ty,ps,af,g⟩=gV (gt env f y).asCells (ky d t):=rfl
def xL (P:Program) (t:TypeId) (ps:List (Nat×AV)):Rd Out:=match tyD P t with
 |some ⟨.struct fs _,n,z⟩=>if z.length=n/\z.all (·.oneCell') then gV (lN fs (z.map .lit) ps) fun cs=>val (.agg cs) else .fail
 |_=> .fail
theorem AF {t:TypeId} {pp:Array (Nat×Operand)} :aT P env f ⟨d, .build t pp,ty,ps,af,g⟩=xL P t (pp.toList.map fun p=>(p.1,gt env f p.2)):=rfl
def wX (P:Program) (d:Option Nat) (t:TypeId) (n:Nat) (ps:List (Nat×AV)):Rd Out:=match tyD P t,d with
 |some ⟨.slice e esz _ ez,_,_⟩,some d=>if ez.length=esz/\0<esz/\ez.all (·.oneCell')/\n*esz<=16777216 then
  (dp ps).bind fun q=>gV (iZ esz (List.replicate n (ez.map .lit)) q.1) fun es=>
   .look d fun _ v=> .ret ⟨.row d (v+1),shows q.2++[.renew d ⟨esz,es,e,true⟩]⟩ else .fail
 |_,_=> .fail
theorem lQ {t:TypeId} {n:Nat} {pp:Array (Nat×Operand)} :aT P env f ⟨d, .buildSlice t n pp,ty,ps,af,g⟩=wX P d t n (pp.toList.map fun p=>(p.1,gt env f p.2)):=rfl
def C6 (P:Program) (t:TypeId) (a:AV):Rd Out:=match a with
 | .ref _ es i off=>eE P t es[i]? off
 | .loc r ver i off=>Rd.row r ver fun row=>eE P t row.es[i]? off
 |_=> .fail
theorem D9 {t:TypeId} {y:Operand} :aT P env f ⟨d, .load t y,ty,ps,af,g⟩=C6 P t (gt env f y):=rfl
theorem zy {t:TypeId} {y z:Operand} :aT P env f ⟨d, .store t y z,ty,ps,af,g⟩=oE P t (gt env f y) (gt env f z):=rfl
theorem AG {op:BinOp} {t u:TypeId} {y z:Operand} :aT P env f ⟨d, .binOp op t y z u,ty,ps,af,g⟩=uA P op t (bz y) (bz z) (gt env f y) (gt env f z):=rfl
def Jt (op:UnOp) (y:AV):Rd Out:=match op,y with
 | .not, .lit (.bool b)=>val (.lit (.bool (!b)))
 | .neg, .lit (.int k n)=>val (.lit (.int k (k.wrap (0-n))))
 | .xor, .lit (.int k n)=>val (.lit (.int k (Js k n)))
 |_,_=> .fail
theorem D5 {op:UnOp} {t:TypeId} {y:Operand} :aT P env f ⟨d, .unOp op t y,ty,ps,af,g⟩=Jt op (gt env f y):=rfl
theorem rq {s t:TypeId} {y:Operand} :aT P env f ⟨d, .convert s t y,ty,ps,af,g⟩=tz P s t (gt env f y):=rfl
def wy (P:Program) (t:TypeId) (y:AV):Rd Out:=match tyD P t with
 |some ⟨.iface,_,_⟩=> .fail
 |some _=>(fz y).bind fun y=> .ret ⟨.iface t y.1,shows y.2⟩
 |none=> .fail
theorem AC {t:TypeId} {y:Operand} :aT P env f ⟨d, .makeInterface t y,ty,ps,af,g⟩=wy P t (gt env f y):=rfl
theorem D8 {t:TypeId} {l c:Operand} :aT P env f ⟨d, .makeSlice t l c,ty,ps,af,g⟩=tv P d t (gt env f l) (gt env f c):=rfl
theorem Da {t:TypeId} {y mx:Operand} {lo hi:Option Operand} :aT P env f ⟨d, .slice t y lo hi (some mx),ty,ps,af,g⟩=tx P t (gt env f y) (lo.map (gt env f)) (hi.map (gt env f)) (gt env f mx):=rfl
theorem AA {t:TypeId} {y:Operand} {lo hi:Option Operand} :aT P env f ⟨d, .slice t y lo hi none,ty,ps,af,g⟩=oF P t (gt env f y) (lo.map (gt env f)) (hi.map (gt env f)):=rfl
theorem me {t:TypeId} {y:Operand} {i:Nat} :aT P env f ⟨d, .fieldAddr t y i,ty,ps,af,g⟩=fN P t (gt env f y) i:=rfl
theorem AD {t:TypeId} {y:Operand} {i:Nat} :aT P env f ⟨d, .field t y i,ty,ps,af,g⟩=gV (oH P t (gt env f y) i) val:=rfl
theorem mb {t:TypeId} {y i:Operand} :aT P env f ⟨d, .indexAddr t y i,ty,ps,af,g⟩=fJ P t (gt env f y) (gt env f i):=rfl
theorem AB {t:TypeId} {y i:Operand} :aT P env f ⟨d, .index t y i,ty,ps,af,g⟩=gV (oG P t (gt env f y) (gt env f i)) val:=rfl
def Jw (y:AV) (i:Nat):Rd Out:=match y with
 | .tuple cs=>gV cs[i]? val
 |_=> .fail
theorem rp {y:Operand} {i:Nat} :aT P env f ⟨d, .extract y i,ty,ps,af,g⟩=Jw (gt env f y) i:=rfl
theorem Ho {y:Operand} {t:TypeId} :aT P env f ⟨d, .call ⟨.builtin .len, #[y], #[t]⟩,ty,ps,af,g⟩=xl P t (gt env f y):=rfl
theorem Hm {y z:Operand} {ts:Array TypeId} :aT P env f ⟨d, .call ⟨.builtin .min, #[y,z],ts⟩,ty,ps,af,g⟩=Bp (gt env f y) (gt env f z):=rfl
theorem Hn {y z:Operand} {ts:Array TypeId} :aT P env f ⟨d, .call ⟨.builtin .max, #[y,z],ts⟩,ty,ps,af,g⟩=Bq (gt env f y) (gt env f z):=rfl
theorem rm {t:TypeId} :aT P env f ⟨d, .makeMap t none,ty,ps,af,g⟩=jE P d t:=rfl
theorem AE {y:Operand} {t:TypeId} :aT P env f ⟨d, .call ⟨.builtin .clear, #[y], #[t]⟩,ty,ps,af,g⟩=lR P t (gt env f y):=rfl
def xj (g:FuncId) (first:Bool) (cs fs:List AV):Rd Out:=if first/\ !cs.isEmpty then val (.clo g cs) else if first then val (.lit (.func (.func g) #[] #[])) else lM g cs.isEmpty fs
theorem pX {fn:FuncId} {first captured:Array Operand} :aT P env f ⟨d, .makeFunc (.func fn) first captured,ty,ps,af,g⟩=xj fn first.isEmpty (captured.toList.map (gt env f)) (first.toList.map (gt env f)):=by
 show (if first.isEmpty/\ !captured.isEmpty then val (.clo fn (captured.toList.map (gt env f))) else if first.isEmpty then val (.lit (.func (.func fn) #[] #[])) else lM fn captured.isEmpty (first.toList.map (gt env f)))=_;unfold xj
 have:(captured.toList.map (gt env f)).isEmpty=captured.isEmpty:=by
  rcases captured with⟨l⟩;cases l<;>rfl
 rw[this]
theorem vR {t:TypeId} {y k:Operand} {ok:Bool} :aT P env f ⟨d, .lookup t y k ok,ty,ps,af,g⟩=kR P t (gt env f y) (gt env f k) ok:=rfl
theorem pW {t:TypeId} {y k:Operand} :aT P env f ⟨d, .mapEntry t y k,ty,ps,af,g⟩=ga P t (gt env f y) (gt env f k):=rfl
theorem lO {t:TypeId} {y n v:Operand} :aT P env f ⟨d, .entryStore t y n v,ty,ps,af,g⟩=eA (gt env f y) (gt env f n) (gt env f v):=rfl
theorem ma {t:TypeId} {y k v:Operand} :aT P env f ⟨d, .mapUpdate t y k v,ty,ps,af,g⟩=fI P t (gt env f y) (gt env f k) (gt env f v):=rfl
theorem vS {y k:Operand} {t t':TypeId} :aT P env f ⟨d, .call ⟨.builtin .delete, #[y,k], #[t,t']⟩,ty,ps,af,g⟩=jM P t (gt env f y) (gt env f k):=rfl
theorem vU {y z:Operand} {t:TypeId} :aT P env f ⟨d, .call ⟨.builtin .append, #[y,z], #[t,t]⟩,ty,ps,af,g⟩=jN P d t (gt env f y) (gt env f z):=by
 show (if t=t then _ else _)=_;rw[K0 rfl]
theorem Hg {t:Nat} :gt env f (.tmp t)=f t:=rfl
theorem Hi {k:IntKind} {n:Int} :gt env f (.const (.int k n))= .lit (.int k n):=rfl
theorem DX {b:Bool} :gt env f (.const (.bool b))= .lit (.bool b):=rfl
theorem Hh {s:ByteArray} :gt env f (.const (.string s))= .lit (.string s):=rfl
theorem DU {n c:Nat} :gt env f (.const (.slice none n c))= .lit (.slice none n c):=rfl
theorem DV:gt env f (.const (.pointer none))= .lit (.pointer none):=rfl
theorem DW:gt env f (.const .nilIface)= .lit .nilIface:=rfl
end
def runL:Rd Out->St->List Nat->List Nat->Option (Out×List Nat×List Nat)
 | .ret o,_,l,e=>some (o,l,e)
 | .fail,_,_,_=>none
 | .look r k,s,l,e=>runL (k (s.rows r) (s.vs r)) s (l++[r]) e
 | .esc r k,s,l,e=>runL (k (s.esc r)) s l (e++[r])
theorem EY: ∀(q:Rd Out) (s:St) (l e:List Nat) (o:Out) (l' e':List Nat),runL q s l e=some (o,l',e')->q.run s=some o/\l'=l++(q.log s).1/\e'=e++(q.log s).2:=by
 intro q s
 induction q with
 |ret o=>intro l e o' l' e' h;simp only[runL,KX,NP]at h;obtain⟨rfl,rfl,rfl⟩:=h;simp[Rd.run,Rd.log]
 |fail=>intro l e o' l' e' h;simp[runL]at h
 | look r k ih=>
   intro l e o' l' e' h;obtain⟨h1,h2,h3⟩:=ih _ _ _ _ _ _ _ h;exact⟨h1,by rw[h2];simp[Rd.log],by rw[h3];simp[Rd.log]⟩
 | esc r k ih=>
   intro l e o' l' e' h;obtain⟨h1,h2,h3⟩:=ih _ _ _ _ _ _ h;exact⟨h1,by rw[h2];simp[Rd.log],by rw[h3];simp[Rd.log]⟩
def Comes' (q:Option (Out×List Nat×List Nat)) (s:St) (d:Option Nat) (s1:St) (ft:Foot):Prop:=match q with
 |some (o,l,e)=>o.app d s=s1/\(⟨l,e,wrs o.effs,wes o.effs⟩:Foot)=ft
 |none=>False
theorem sx {q:Rd Out} {s:St} {d:Option Nat} {s1:St} {ft:Foot} (h:Comes' (runL q s [] []) s d s1 ft):Gives q s d s1 ft:=by
 unfold Comes' at h;split at h
 ·rename_i o l e hr;obtain⟨h1,h2,h3⟩:=EY q s [] [] o l e hr;refine⟨o,h1,h.1,?_⟩;rw[<-h.2];simp only[Mc]at h2 h3;simp[qE,h2,h3]
 ·exact h.elim
section
variable {P:Program} {env:Env} {s:St}
theorem oO {o:Oper} {rest:List Stp} {s1:St} {ft:Foot} {K:St->List Foot->Prop} (hc:bB env s.f o=none) (h:Comes' (runL (aT P env s.f o) s [] []) s o.dst s1 ft) (k:aops P env rest s1 fun s2 fts=>K s2 (ft::fts)):aops P env (⟨o, .always⟩::rest) s K:=
 Iz hc (sx h) k
end
end
section
def lz:List (Nat×AV)->Nat->AV
 |[],_=> .any
 |p::l,t=>if t=p.1 then p.2 else lz l t
def ag:List (Nat×Row)->Nat->Option Row
 |[],_=>none
 |p::l,t=>if t=p.1 then some p.2 else ag l t
def head (F:List (Nat×AV)) (R:List (Nat×Row)) (vs:Nat->Nat) (esc:Nat->Bool):St:=⟨lz F,ag R,vs,esc⟩
def cr (s:St):List (Nat×AV)->Prop
 |[]=>True
 |p::l=>s.f p.1=p.2/\cr s l
def cP (s:St):List (Nat×Row)->Prop
 |[]=>True
 |p::l=>s.rows p.1=some p.2/\cP s l
theorem dA {s:St} {F:List (Nat×AV)} {R:List (Nat×Row)} (hF:cr s F) (hR:cP s R):Less s (head F R s.vs s.esc):=by
 refine⟨fun t=> ?_,fun r=> ?_,rfl,rfl⟩
 ·show lz F t=s.f t\/lz F t= .any
  induction F with
  |nil=>exact .inr rfl
  | cons p l ih=>
    simp only[lz];split
    ·rename_i e;subst e;exact .inl hF.1.symm
    ·exact ih hF.2
 ·show ag R r=s.rows r\/ag R r=none
  induction R with
  |nil=>exact .inr rfl
  | cons p l ih=>
    simp only[ag];split
    ·rename_i e;subst e;exact .inl hR.1.symm
    ·exact ih hR.2
section
variable {P:Program} {env:Env} {nt:Nat} {Q:Exit->St->Prop} {s:St}
theorem nc {c:Code} (F:List (Nat×AV)) (R:List (Nat×Row)) (hF:cr s F) (hR:cP s R) (h:awp P env nt c Q (head F R s.vs s.esc)):awp P env nt c Q s:=AZ (dA hF hR) h
theorem aK {D:Type} {c:Code} (F:D->(Nat->Nat)->List (Nat×AV)) (R:D->(Nat->Nat)->List (Nat×Row)) (inv:D->(Nat->Nat)->(Nat->Bool)->Prop) (μ:D->Nat) (d0:D)
 (h0:inv d0 s.vs s.esc) (hF:cr s (F d0 s.vs)) (hR:cP s (R d0 s.vs))
 (round: ∀d vs esc,inv d vs esc->awp P env nt c (bJ (fun s1=> ∃d',inv d' s1.vs s1.esc/\cr s1 (F d' s1.vs)/\cP s1 (R d' s1.vs)/\μ d'<μ d) Q) (head (F d vs) (R d vs) vs esc)):awp P env nt (.loop c) Q s:=by
 refine HV (fun d vs esc=>head (F d vs) (R d vs) vs esc) inv μ d0 h0 (dA hF hR) fun d vs esc hi=> ?_;refine AY (round d vs esc hi) fun e s1 hq=> ?_;cases e with
 | normal=>
   obtain⟨d',q1,q2,q3,q4⟩:=hq;exact⟨d',q1,dA q2 q3,q4⟩
 |_=>exact hq
end
section
variable {P:Program} {env:Env} {nt:Nat} {Q:Exit->St->Prop} {s:St}
theorem Iw {y:Operand} {c d:Code} {b:Bool} (hy:gt env s.f y= .lit (.bool b)) (hb:b=true) (h:awp P env nt c Q s):awp P env nt (.cond y c d) Q s:=tL hy (fun _=>h) (fun h'=>by rw[hb]at h';cases h')
theorem Jp {y:Operand} {c d:Code} {b:Bool} (hy:gt env s.f y= .lit (.bool b)) (hb:b=false) (h:awp P env nt d Q s):awp P env nt (.cond y c d) Q s:=tL hy (fun h'=>by rw[hb]at h';cases h') (fun _=>h)
end
theorem KO:((0:Nat):Int)=0:=rfl
theorem nlt {a b:Nat} (h:a<b):(a:Int)< (b:Int):=by omega
theorem aD {k n:Nat} (h:k<n) (hn:n<=9223372036854775807):IntKind.i64.wrap ((k:Int)+1)=((k+1:Nat):Int):=by rw[NG _ (by omega)];rfl
theorem ae {n:Int} (h1: -9223372036854775808<=n) (h2:n<9223372036854775808):IntKind.i64.wrap n=n:=NG _ (by omega)
end
section
def Is {α:Type} (a b:α):Prop:=a=b
theorem iR {α:Type} {a:α} :Is a a:=rfl
def Takes (q:Rd (List AV×List Nat)) (s:St) (cs:List AV):Prop:=match q.run s with
 |some (cs',_)=>Is cs' cs
 |none=>False
section
variable {P:Program} {env:Env} {s:St}
theorem oC {o:Oper} {f:FuncId} {args:List AV} {rest:List Stp} {s1:St} {ft:Foot} {cs:List AV} {res:AV} {K:St->List Foot->Prop} (hc:bB env s.f o=some (f,args)) (hcon:Con P env f cs res) (ha:Takes (fzArgs args) s cs)
 (h:Comes' (runL (db false o.dst args res) s [] []) s o.dst s1 ft) (k:aops P env rest s1 fun s2 fts=>K s2 (ft::fts)):aops P env (⟨o, .always⟩::rest) s K:=by
 unfold Takes at ha;split at ha
 ·rename_i cs' l hr;subst ha;exact vo (lend:=false) hc hr hcon (sx h) k
 ·exact ha.elim
theorem oL {o:Oper} {f:FuncId} {args:List AV} {rest:List Stp} {s1:St} {ft:Foot} {cs:List AV} {res:AV} {K:St->List Foot->Prop} (hc:bB env s.f o=some (f,args)) (hcon:ConF P env f cs res) (ha:Takes (fzArgs args) s cs)
 (h:Comes' (runL (db true o.dst args res) s [] []) s o.dst s1 ft) (k:aops P env rest s1 fun s2 fts=>K s2 (ft::fts)):aops P env (⟨o, .always⟩::rest) s K:=by
 unfold Takes at ha;split at ha
 ·rename_i cs' l hr;subst ha;exact vo (lend:=true) hc hr hcon (sx h) k
 ·exact ha.elim
theorem ja {env:Env} {o:Oper} {f:Nat->AV} {t g:Nat} {aa:Array Operand} {ts:Array TypeId} (ho:o.op= .call { callee:= .value (.tmp t),args:=aa,argTypes:=ts }) (hf:Is (f t) (.lit (.func (.func g) #[] #[]))):bB env f o=some (g,aa.toList.map (gt env f)):=by
 unfold bB;rw[ho];simp only;rw[show f t= .lit (.func (.func g) #[] #[]) from hf]
theorem bo {env:Env} {o:Oper} {f:Nat->AV} {t g:Nat} {aa:Array Operand} {ts:Array TypeId} {cs:List AV} (ho:o.op= .call { callee:= .value (.tmp t),args:=aa,argTypes:=ts }) (hf:Is (f t) (.clo g cs)):bB env f o=some (g,aa.toList.map (gt env f)++cs):=by
 unfold bB;rw[ho];simp only;rw[show f t= .clo g cs from hf]
theorem HY {o:Oper} {t:Nat} {want:Bool} {rest:List Stp} {K:St->List Foot->Prop} (hb:Is (s.f t) (.lit (.bool want))) (k:aops P env (⟨o, .always⟩::rest) s K):aops P env (⟨o, .on t want⟩::rest) s K:=
 Do hb (fun _=>k) (fun h=>by cases want<;>cases h)
theorem HZ {o:Oper} {t:Nat} {want:Bool} {v:Value} {rest:List Stp} {K:St->List Foot->Prop} (hb:Is (s.f t) (.lit v)) (hn:Is (wants v want) false) (k:aops P env rest (s.put o.dst (.lit undef)) fun s2 fts=>K s2 (eD::fts)):aops P env (⟨o, .on t want⟩::rest) s K:=
 Fg hb hn k
end
section
variable {P:Program} {env:Env} {nt:Nat} {Q:Exit->St->Prop} {s:St}
theorem oY {y:Operand} {c d:Code} (hy:Is (gt env s.f y) (.lit (.bool true))) (h:awp P env nt c Q s):awp P env nt (.cond y c d) Q s:=Iw hy rfl h
theorem oN {y:Operand} {c d:Code} (hy:Is (gt env s.f y) (.lit (.bool false))) (h:awp P env nt d Q s):awp P env nt (.cond y c d) Q s:=Jp hy rfl h
end
theorem H8 (l:List UInt8):bG ⟨l.toArray⟩=l:=rfl
end
section
def Str (c' c:AV):Prop:= ∀S w v,RV S w v c'->RV S w v c
theorem Str.refl (c:AV):Str c c:=fun _ _ _ h=>h
theorem Str.any (c:AV):Str c .any:=fun _ _ _ _=> .any _
theorem Str.nil (sz:Nat):Str (.lit (.slice none 0 0)) (.seq sz []):=fun S w v h=>by
 cases h;exact .seq none 0 0 sz [] 0 0 (fun _ _=> .nilIface) rfl (K8 _) (fun h=>by omega) (fun i e he=>by simp at he) (fun i j c hc=>by simp[cellAt]at hc) (fun i j c hc=>by simp[cellAt]at hc)
def Strs (cs' cs:List AV):Prop:=cs'.length=cs.length/\ ∀(i:Nat) (c' c:AV),cs'[i]? =some c'->cs[i]? =some c->Str c' c
theorem Strs.nil:Strs [] []:=⟨rfl,fun i c' c h _=>by simp at h⟩
theorem Strs.cons {c' c:AV} {cs' cs:List AV} (h:Str c' c) (hs:Strs cs' cs):Strs (c'::cs') (c::cs):=⟨by simp[hs.1],fun i a b ha hb=>by
 cases i with
 | zero=>
   simp only[LM,KX]at ha hb;subst ha hb;exact h
 |succ i=>exact hs.2 i a b (by simpa using ha) (by simpa using hb)⟩
theorem Strs.refl: ∀cs:List AV,Strs cs cs
 |[]=> .nil
 |c::cs=> .cons (.refl c) (.refl cs)
theorem Str.agg {cs' cs:List AV} (hs:Strs cs' cs):Str (.agg cs') (.agg cs):=fun S w v h=>by
 cases h with
 | agg vs _ hl h1 hc=>
   refine .agg vs cs (by rw[hl,hs.1]) h1 fun i u c hu hcc=> ?_
   have hi:i<cs'.length:=by
    have:=(KW.1 hcc).1;rw[hs.1];exact this
   exact hs.2 i _ _ (KV hi) hcc _ _ _ (hc i u _ hu (KV hi))
theorem Str.tuple {cs' cs:List AV} (hs:Strs cs' cs):Str (.tuple cs') (.tuple cs):=fun S w v h=>by
 cases h with
 | tuple vs _ hl hc=>
   refine .tuple vs cs (by rw[hl,hs.1]) fun i u c hu hcc=> ?_
   have hi:i<cs'.length:=by
    have:=(KW.1 hcc).1;rw[hs.1];exact this
   exact hs.2 i _ _ (KV hi) hcc _ _ _ (hc i u _ hu (KV hi))
def ge (c' c:AV):Prop:= ∀S w base v,RR S w base v c'->RR S w base v c
theorem ge.refl (c:AV):ge c c:=fun _ _ _ _ h=>h
theorem ge.of {c' c:AV} (h:Str c' c) (h1: ∀e sz es,c'≠ .own e sz es) (h2: ∀e sz es,c≠ .own e sz es):ge c' c:=fun S w base v hr=>by
 have a:RV S w v c':=by
  cases c' with
  |own e sz es=>exact(h1 e sz es rfl).elim
  |_=>exact hr
 have b:=h S w v a;cases c with
 |own e sz es=>exact(h2 e sz es rfl).elim
 |_=>exact b
theorem ge.tuple {cs' cs:List AV} (hs:Strs cs' cs):ge (.tuple cs') (.tuple cs):= .of (.tuple hs) (fun _ _ _ h=>by cases h) (fun _ _ _ h=>by cases h)
section
variable {P:Program} {env:Env} {f:FuncId} {cs cs':List AV} {res res':AV}
theorem Con.args (h:Con P env f cs res) (hs:Strs cs' cs):Con P env f cs' res:=by
 refine⟨h.enter,fun w S vs hE hl hv=>h.calls w S vs hE (by rw[hl,hs.1]) fun i v c hvi hci=> ?_⟩
 have hi:i<cs'.length:=by
  have:=(KW.1 hci).1;rw[hs.1];exact this
 exact hs.2 i _ _ (KV hi) hci _ _ _ (hv i v _ hvi (KV hi))
def JF (P:Program) (rs:List ResultVar) (res:AV):Exit->St->Prop
 | .normal,s | .ret,s=> ∃res',(an P s.f rs).run s=some res'/\ge res' res
 |_,_=>False
theorem lU {fn:Func} {c:Code} (hf:P.funcs[f]? =some fn) (hb:fn.body=some c) (henter: ∀(args:Array Value) (w:World),(callFunc f args).run P w= .ok (.enter f args) w) (hn:cs.length<=fn.ntmps)
 (h:awp P env fn.ntmps c (JF P fn.results.toList res) (St.init cs)):Con P env f cs res:=by
 refine⟨henter,fun w S vs hE hl hv=> ?_⟩;refine calls_of_wp hf hb ?_
 have hS:Sim ⟨w,S,env,fn.ntmps,w,⟨S,fun _=>undef⟩,St.init cs,fun _=>False,[]⟩ (St.init cs) { tmps:=vs.toArray++Array.replicate (fn.ntmps-vs.toArray.size) undef,defers:=[] } w ⟨S,fun _=>undef⟩:=by
  refine⟨MM _ _,hE.low,fun _ _ h=>h,fun _ _ h=> .inl h,hE.env,hE.low,hE.inv,rfl,by simp;omega,fun t=> ?_,(fun r row hr=>by cases hr),(fun r r' row row' hr=>by cases hr),(fun _ _ hh=>⟨hh, .rfl⟩),(fun _=>K8 _),(fun r row' _ hr=>by cases hr),K8 _,(fun _ h=>h.elim),(fun r row hr=>by cases hr)⟩;show RL w _ _ _ (cs.getD t .any);by_cases ht:t<cs.length
  ·refine .val (hv t _ _ ?_ ?_)
   ·rw[LS,NF (by simp;omega)];simp[show t<vs.length by omega]
   ·simp[List.getD,ht]
  ·have:cs.getD t .any= .any:=by simp[List.getD,K7 (OR ht)]
   rw[this];exact .val (.any _)
 refine wpIn_wide.1 (Mo (h none _ rfl rfl _ w _ hS) ?_);rintro e a' w' ⟨s',m',h1,h2⟩;cases e with
 | normal=>
   obtain⟨res',h1,hw⟩:=(show ∃res',(an P s'.f fn.results.toList).run s'=some res'/\ge res' res from h1);obtain⟨v,S',p1,p2,p3,p4,p5⟩:=tZ (fn:=fn) h1 h2;exact⟨h2.dfs,v,p1,v,rfl,h2.bel,S',p2,p3,p4,hw _ _ _ _ p5⟩
 | ret=>
   obtain⟨res',h1,hw⟩:=(show ∃res',(an P s'.f fn.results.toList).run s'=some res'/\ge res' res from h1);obtain⟨v,S',p1,p2,p3,p4,p5⟩:=tZ (fn:=fn) h1 h2;exact⟨h2.dfs,v,p1,v,rfl,h2.bel,S',p2,p3,p4,hw _ _ _ _ p5⟩
 |_=>exact h1.elim
end
section
variable {P:Program} {env:Env} {nt:Nat} {s:St}
end
/-! The rules that ask what evaluation shows. -/
section
variable {P:Program} {env:Env} {nt:Nat} {Q:Exit->St->Prop} {s:St}
theorem gR {o:Oper} {t:Nat} {want:Bool} {rest:List Stp} {K:St->List Foot->Prop} (k:aops P env (⟨o, .always⟩::rest) s K) (hb:Is (s.f t) (.lit (.bool want)):=by simp only[go_sem,reduceIte, ↓reduceIte,Nat.reduceEqDiff,reduceCtorEq];exact iR):aops P env (⟨o, .on t want⟩::rest) s K:=HY hb k
theorem gO {o:Oper} {t:Nat} {want:Bool} {v:Value} {rest:List Stp} {K:St->List Foot->Prop} (k:aops P env rest (s.put o.dst (.lit undef)) fun s2 fts=>K s2 (eD::fts)) (hb:Is (s.f t) (.lit v):=by simp only[go_sem,reduceIte, ↓reduceIte,Nat.reduceEqDiff,reduceCtorEq];exact iR) (hn:Is (wants v want) false:=by exact iR):aops P env (⟨o, .on t want⟩::rest) s K:=HZ hb hn k
theorem jm {ops:Array Oper} {fts:List Foot} {p:Prop} (k:p) (h:x7 ops fts=true:=by kernel_rfl):x7 ops fts=true/\p:=⟨h,k⟩
theorem gT {ops:Array Oper} {id:Nat} (h:aops P env (prep ops) s fun s' _=>Q .normal s') (hd:(ops.all fun o=>o.dst.all (· <nt))=true:=by kernel_rfl):awp P env nt (.region id ops false) Q s:=qA rfl hd h
theorem gD {ops:Array Oper} {id:Nat} (hm:P.follows .mixedOrders=true) (h:aops P env (prep ops) s fun s' fts=>x7 ops fts=true/\Q .normal s') (hd:(ops.all fun o=>o.dst.all (· <nt))=true:=by kernel_rfl):awp P env nt (.region id ops true) Q s:=qB rfl hm hd h
end
end

end Go.Proofs.YtbjldjekgepopaaGreatDoor