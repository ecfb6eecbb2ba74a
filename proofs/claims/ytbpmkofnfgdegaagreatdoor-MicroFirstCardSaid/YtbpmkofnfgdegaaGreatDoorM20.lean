/- Expressions' values where the variables are the caller's own row. -/
import Derived.Test.YtbpmkofnfgdegaaGreatDoorM19
import Derived.Test.YtbpmkofnfgdegaaGreatDoorM8
import Derived.Test.YtbpmkofnfgdegaaGreatDoorM6
import Derived.Test.YtbpmkofnfgdegaaGreatDoorM18
import Derived.Test.YtbpmkofnfgdegaaGreatDoorM11
set_option maxRecDepth 100000
set_option maxHeartbeats 16000000
set_option linter.unusedSimpArgs false
namespace Go.Proofs.YtbpmkofnfgdegaaGreatDoor
open Go.Proofs.Tryz
open Go.RowKit
section
structure RunD where
 act:List Int
 vars:List Int
 mem:List MemD
 tms:List (List UInt8×Int)
 over:Bool
 outs:List Int
 rais:List (List UInt8×Int)
abbrev ErD:=Option (Nat×List Int)
def woR (c:ChD) (d:Int) (r:RunD):WoD:=⟨r.vars,d,(List.range c.states.length).map fun k:Nat=>r.act.contains (k:Int)⟩
def without (l:List (List UInt8×Int)) (s:List UInt8):List (List UInt8×Int):=l.filter fun x=> !(x.1==s)
def insT (x:List UInt8×Int):List (List UInt8×Int)->List (List UInt8×Int)
 | []=>[x]
 | y::l=>if Op.bytesLess x.1 y.1=true then x::y::l else y::insT x l
def raiseP (r:RunD) (s:List UInt8) (v:Int):RunD×ErD:=if 16<=r.rais.length then(r,some (8,[-1])) else({ r with rais:=r.rais++[(s,v)] },none)
def startP (now:Int) (r:RunD) (s:List UInt8) (v:Int):RunD×ErD:=
 if v<0\/1099511627776-now<v then(r,some (2,[-1]))
 else if 8<=(without r.tms s).length then({ r with tms:=without r.tms s },some (8,[-1]))
 else({ r with tms:=insT (s,now+v) (without r.tms s) },none)
def outP (r:RunD) (v:Int):RunD×ErD:=if 256<=r.outs.length then(r,some (8,[-1])) else({ r with outs:=r.outs++[v] },none)
def doP (c:ChD) (d now:Int) (r:RunD) (a:ActD):RunD×ErD:=
 if a.kind=5 then({ r with tms:=without r.tms a.name },none)
 else match zg7 (woR c d r) a.code with
  | none=>(r,some (2,[-1, -1]))
  | some v=>if a.kind=1 then({ r with vars:=r.vars.set a.n.toNat v },none)
    else if a.kind=2 then raiseP r a.name v
    else if a.kind=4 then startP now r a.name v
    else outP r v
def allP (c:ChD) (d now:Int) (r:RunD):List ActD->RunD×ErD
 | []=>(r,none)
 | a::l=>match doP c d now r a with
   |(r1,none)=>allP c d now r1 l
   | x=>x
def outA (c:ChD) (i:Int):List ActD:=match at_ c i with
 | some s=>s.out
 | none=>[]
def inA (c:ChD) (i:Int):List ActD:=match at_ c i with
 | some s=>s.inn
 | none=>[]
def za7 (c:ChD) (i:Int):Int:=match at_ c i with
 | some s=>s.kind
 | none=>0
def zsO (c:ChD) (i:Int):List UInt8:=match at_ c i with
 | some s=>s.name
 | none=>[]
def zaN (c:ChD) (d now:Int) (r:RunD) (f:List Int):List Int->(RunD×ErD)×List Int
 | []=>((r,none),f)
 | i::l=>if r.act.contains i=true then zaN c d now r f l
   else match allP c d now { r with act:=zaR (r.act++[i]) } (inA c i) with
    |(r1,none)=>zaN c d now r1 (if za7 c i=3 then f++[i] else f) l
    | x=>(x,[])
def dotN (c:ChD) (i:Int):List UInt8:=[100,111,110,101,46]++zsO c i
def zbP (c:ChD) (r:RunD) (o:List Int):List Int->(RunD×ErD)×List Int
 | []=>((r,none),o)
 | i::l=>if parZ c i<0 then zbP c { r with over:=true } o l
   else match raiseP r (dotN c (parZ c i)) 0 with
    |(r1,none)=>zbP c r1 (if 0<=parZ c (parZ c i)/\za7 c (parZ c (parZ c i))=2 then o++[parZ c (parZ c i)] else o) l
    | x=>(x,[])
def zg8 (c:ChD) (act:List Int):Nat->Int->Bool
 | 0,_=>false
 | f+1,i=>if za7 c i=3 then true
   else if za7 c i=1 then(match (kidZ c i).find? fun k=>act.contains k with
    | some k=>za7 c k==3
    | none=>false)
   else(kidZ c i).all fun k=>zg8 c act f k
def zkc (c:ChD) (act:List Int) (i:Int):Bool:=act.contains i&&zg8 c act 40 i
def zcg (c:ChD) (r:RunD):List Int->RunD×ErD
 | []=>(r,none)
 | g::l=>if zkc c r.act g=true then(match raiseP r (dotN c g) 0 with
    |(r1,none)=>zcg c r1 l
    | x=>x)
   else zcg c r l
def finishP (c:ChD) (r:RunD) (f:List Int):RunD×ErD:=match zbP c r [] f with
 |((r1,none),o)=>zcg c r1 (zL (sortL c o))
 |(x,_)=>x
def enterP (c:ChD) (d now:Int) (r:RunD) (l:List Int):RunD×ErD:=match zaN c d now r [] l with
 |((r1,none),f)=>finishP c r1 f
 |(x,_)=>x
def toR (c:ChD) (mem:List MemD) (ts:List Nat):List Nat:=ts.flatMap fun n=>zsB c (trAt c n) mem
def firstP (c:ChD) (now:Int):RunD×ErD:=enterP c 0 now ⟨[],c.vars.map (·.start),[],[],false,[],[]⟩ (zL (tbegL c (-1)))
end
section
/-! Timers by their names -/
def TmOk (x:List UInt8×Int):Prop:=zax x.1=true/\0<=x.2/\x.2<=1099511627776
structure TmsOk (l:List (List UInt8×Int)):Prop where
 rise:l.Pairwise fun a b=>Op.bytesLess a.1 b.1=true
 each: ∀x∈l,TmOk x
theorem TmsOk.without {l:List (List UInt8×Int)} (h:TmsOk l) (s:List UInt8):TmsOk (without l s):=⟨h.rise.sublist List.filter_sublist,fun x hx=>h.each x (List.mem_filter.1 hx).1⟩
theorem zha {l:List (List UInt8×Int)} {s:List UInt8} : ∀x∈without l s,x.1≠s:=fun x hx=>by
 have:=(List.mem_filter.1 hx).2;simpa using this
theorem zfR (l:List (List UInt8×Int)) (s:List UInt8):(without l s).length<=l.length:=List.length_filter_le ..
theorem zk9 {x y:List UInt8×Int} : ∀ {l:List (List UInt8×Int)},y∈insT x l↔y=x\/y∈l
 | []=>by simp [insT]
 | z::l=>by
   unfold insT;split
   ·simp
   ·rw [List.mem_cons,zk9,List.mem_cons];constructor
    ·rintro(h | h | h)
     ·exact .inr (.inl h)
     ·exact .inl h
     ·exact .inr (.inr h)
    ·rintro(h | h | h)
     ·exact .inr (.inl h)
     ·exact .inl h
     ·exact .inr (.inr h)
theorem zpp (x:List UInt8×Int): ∀l,(insT x l).length=l.length+1
 | []=>rfl
 | z::l=>by
   unfold insT;split
   ·rfl
   ·rw [List.length_cons,zpp x l,List.length_cons]
theorem zim {x:List UInt8×Int} : ∀ {l:List (List UInt8×Int)},(l.Pairwise fun a b=>Op.bytesLess a.1 b.1=true)->(∀y∈l,y.1≠x.1)->(insT x l).Pairwise fun a b=>Op.bytesLess a.1 b.1=true
 | [],_,_=>List.pairwise_singleton ..
 | z::l,h,hn=>by
   obtain⟨h1,h2⟩:=List.pairwise_cons.1 h;unfold insT;split
   ·rename_i hb;refine List.pairwise_cons.2 ⟨fun y hy=> ?_,h⟩;rcases List.mem_cons.1 hy with rfl | hy
    ·exact hb
    ·exact zcG hb (h1 y hy)
   ·rename_i hb;refine List.pairwise_cons.2 ⟨fun y hy=> ?_,zim h2 fun y hy=>hn y (List.mem_cons_of_mem _ hy)⟩;rcases zk9.1 hy with rfl | hy
    ·cases hq:Op.bytesLess z.1 y.1 with
     | true=>rfl
     | false=>exact absurd (zbS hq (by simpa using hb)) (hn z (by simp))
    ·exact h1 y hy
theorem TmsOk.ins {l:List (List UInt8×Int)} (h:TmsOk l) {x:List UInt8×Int} (hx:TmOk x) (hn: ∀y∈l,y.1≠x.1):TmsOk (insT x l):=⟨zim h.rise hn,fun y hy=>by
 rcases zk9.1 hy with rfl | hy
 ·exact hx
 ·exact h.each y hy⟩
/-! Actions -/
structure RunOk (c:ChD) (r:RunD):Prop where
 len:r.vars.length=c.vars.length
 vars: ∀x∈r.vars,zaj x=true
 tms:TmsOk r.tms
 tml:r.tms.length<=8
 outs:r.outs.length<=256
 rais:r.rais.length<=16
structure RunSame (r r1:RunD):Prop where
 act:r1.act=r.act
 mem:r1.mem=r.mem
 over:r1.over=r.over
theorem RunSame.rfl {r:RunD} :RunSame r r:=⟨Eq.refl _,Eq.refl _,Eq.refl _⟩
theorem RunSame.trans {r r1 r2:RunD} (h:RunSame r r1) (k:RunSame r1 r2):RunSame r r2:=⟨k.act.trans h.act,k.mem.trans h.mem,k.over.trans h.over⟩
theorem zh9 {c:ChD} {r:RunD} (h:RunOk c r) (s:List UInt8) (v:Int):RunOk c (raiseP r s v).1/\RunSame r (raiseP r s v).1:=by
 unfold raiseP;split
 ·exact⟨h, .rfl⟩
 ·rename_i hl;refine⟨{ h with rais:= ?_ },⟨rfl,rfl,rfl⟩⟩;simp only [List.length_append,List.length_singleton];omega
theorem ziE {l:List OpD} {vs ss:Int} (h:zaF l vs ss=true):hgt vs ss l 0=some 1/\l.length<=32:=by
 unfold zaF at h;rw [beq_iff_eq] at h;unfold zdU at h;split at h
 ·omega
 ·rename_i hl;split at h
  ·rename_i hh;exact⟨hh,by omega⟩
  ·omega
theorem zn7 {c:ChD} {r:RunD} (h:RunOk c r) {d:Int} (hd:zaj d=true):(woR c d r).Ok:=⟨h.vars,hd⟩
theorem zs1 {c:ChD} {d now:Int} (hd:zaj d=true) (hn:0<=now/\now<=1099511627776) {r:RunD} (h:RunOk c r) {a:ActD} (ha:actB c.vars.length c.states.length a=true):RunOk c (doP c d now r a).1/\RunSame r (doP c d now r a).1:=by
 unfold doP;split
 ·exact⟨{ h with tms:=h.tms.without _,tml:=Nat.le_trans (zfR ..) h.tml },⟨rfl,rfl,rfl⟩⟩
 rename_i h5;split
 ·exact⟨h, .rfl⟩
 rename_i v hv
 have hcode:zaF a.code c.vars.length c.states.length=true:=by
  unfold actB at ha;repeat' split at ha
  all_goals (first | (exact absurd ‹a.kind=5› h5) | (simp only [Bool.and_eq_true] at ha; exact ha.2) | cases ha)
 have hfit:=zpU (zn7 h hd) (ziE hcode).1 hv;split
 ·refine⟨{ h with len:=by simp only [List.length_set]; exact h.len,vars:=fun x hx=> ?_ },⟨rfl,rfl,rfl⟩⟩;rcases List.mem_or_eq_of_mem_set hx with hx | rfl
  ·exact h.vars x hx
  ·exact hfit
 split
 ·exact zh9 h _ _
 split
 ·rename_i h1 h2 h4;unfold startP;split
  ·exact⟨h, .rfl⟩
  rename_i hr;split
  ·exact⟨{ h with tms:=h.tms.without _,tml:=Nat.le_trans (zfR ..) h.tml },⟨rfl,rfl,rfl⟩⟩
  rename_i hl
  have hname:zax a.name=true:=by
   unfold actB at ha;rw [if_neg h1,if_pos (.inr h4)] at ha;simp only [Bool.and_eq_true] at ha;exact ha.1.2
  refine⟨{ h with tms:=(h.tms.without _).ins ⟨hname, ?_⟩ zha,tml:=by simp only [zpp]; omega },⟨rfl,rfl,rfl⟩⟩;simp only;omega
 ·unfold outP;split
  ·exact⟨h, .rfl⟩
  ·refine⟨{ h with outs:= ?_ },⟨rfl,rfl,rfl⟩⟩;simp only [List.length_append,List.length_singleton];omega
theorem zks {c:ChD} {d now:Int} (hd:zaj d=true) (hn:0<=now/\now<=1099511627776): ∀ {l:List ActD} {r:RunD},RunOk c r->(∀a∈l,actB c.vars.length c.states.length a=true)->RunOk c (allP c d now r l).1/\RunSame r (allP c d now r l).1
 | [],r,h,_=>⟨h, .rfl⟩
 | a::l,r,h,ha=>by
   obtain⟨k1,k2⟩:=zs1 hd hn h (ha a (by simp));unfold allP;split
   ·rename_i r1 e;rw [e] at k1 k2;obtain⟨k3,k4⟩:=zks (l:=l) hd hn k1 fun b hb=>ha b (by simp [hb]);exact⟨k3,k2.trans k4⟩
   ·exact⟨k1,k2⟩
structure ActsOk (c:ChD):Prop where
 out: ∀i,∀a∈outA c i,actB c.vars.length c.states.length a=true
 inn: ∀i,∀a∈inA c i,actB c.vars.length c.states.length a=true
 tr: ∀(n:Nat) (t:TrD),c.trans[n]? =some t-> ∀a∈t.acts,actB c.vars.length c.states.length a=true
end
section
theorem zmL (env:Env) (w:WoD) (hw:w.Ok) (hl:w.vars.length<=1000000):Con prog env 198 [.agg (woAV w)] nilE:=by
 have f0:=zbk env w.data;rw [hw.data] at f0
 have f1: ∀x∈w.vars,Con prog env 69 [I x] (B true):=fun x hx=>by
  have:=zbk env x;rwa [hw.vars x hx] at this
 refine qf func198 call198 ntmps198 results198 ?_;have F:=woAV.eq_1;repeat (first | refine st ?_ | refine cC f0 ?_)
 refine zab (D:=Nat) (fun j _=>[(3,B true),(10,ints34 w.vars),(11,I w.vars.length),(12,I j)]) (fun _ _=>[]) (fun j _ _=>j<=w.vars.length) (fun j=>w.vars.length-j) 0 ?_ ?_ ?_ ?_
 ·exact Nat.zero_le _
 ·exact qe
 ·exact qe
 rintro j vs esc hj;by_cases hlt:j<w.vars.length
 ·obtain⟨x,hx⟩: ∃x,w.vars[j]? =some x:=⟨w.vars[j],List.getElem?_eq_getElem hlt⟩;have g1:=nlt hlt;have g2:=zaa hlt (by omega);have f2:=f1 x (List.mem_of_getElem? hx);have F:=ai4 intAV.eq_1 g1 g2 hx;repeat (first | refine st ?_ | refine cC f2 ?_)
  refine⟨j+1,hlt, ?_, ?_,by omega⟩
  ·exact qe
  ·exact qe
 obtain rfl:j=w.vars.length:=by omega
 have g1: ¬(w.vars.length:Int)< (w.vars.length:Int):=by omega
 have F:=g1;repeat refine st ?_
 exact aR
def zjZ (a2:Addr):Option Int->AV
 | some v=> .tuple [I v,nilE]
 | none=> .tuple [I 0,errV (-1) (sentV a2)]
theorem zhd {vs ss n:Int} {o:OpD} (h:zbn vs ss n o=true):(1<=o.kind/\o.kind<=4/\zac o.kind=0)\/((o.kind=5\/o.kind=6)/\zac o.kind=1/\1<=n)\/(7<=o.kind/\o.kind<=19/\zac o.kind=2/\2<=n):=by
 have h1:=zdl h
 have h2:zac o.kind=0/\1<=o.kind/\o.kind<=4\/zac o.kind=1/\(o.kind=5\/o.kind=6)\/zac o.kind=2/\7<=o.kind/\o.kind<=19\/zac o.kind= -1:=by
  unfold zac;split
  ·rename_i hh; exact .inl ⟨rfl,hh⟩
  split
  ·rename_i hh; exact .inr (.inl ⟨rfl,hh⟩)
  split
  ·rename_i hh; exact .inr (.inr (.inl ⟨rfl,hh⟩))
  ·exact .inr (.inr (.inr rfl))
 omega
theorem zsg {vs ss n:Int} {o:OpD} (h:zbn vs ss n o=true):numB o vs ss=true:=by
 simp only [zbn,Bool.and_eq_true] at h;exact h.2
theorem zqX {w:WoD} {code:List OpD} {i:Nat} {o:OpD} {s:List Int} (h:code[i]? =some o) (hs:runS w (code.take i) []=some s):runS w (code.take (i+1)) []=zdk w o s:=by
 rw [List.take_add_one,h,zeq,hs];exact zfB w o s
theorem run_stuck {w:WoD} {code:List OpD} {i:Nat} (h:runS w (code.take i) []=none):runS w code []=none:=by
 rw [<-List.take_append_drop i code,zeq,h];rfl
end
section
theorem zch (env:Env) (b:Bool):Con prog env 239 [B b] (I (trI b)):=by
 cases b
 ·show Con _ _ _ _ (I 0);refine qf func239 call239 ntmps239 results239 ?_;repeat refine st0 ?_
  exact aR0
 ·show Con _ _ _ _ (I 1);refine qf func239 call239 ntmps239 results239 ?_;repeat refine st0 ?_
  exact aR0
theorem zsA (a b:Int):a-a.tdiv b*b=a.tmod b:=by
 rw [Int.tmod_def,Int.mul_comm]
theorem ziW {a b:Int} (ha:zaj a=true) (hb:zaj b=true):Big (a.tdiv b*b):=zo5 (zen ha) hb
theorem znd (env:Env) (k a b:Int) (hk:7<=k/\k<=19) (ha:zaj a=true) (hb:zaj b=true):Con prog env 241 [I k,I a,I b] (.tuple [I (binI k a b).1,B (binI k a b).2]):=by
 have hbig:=(ziI k ha hb).1;by_cases h7:k=7
 ·subst h7;have f0:=zbV env (a*b);have q1:IntKind.i64.wrap (a*b)=a*b:=zcx hbig;show Con _ _ _ _ (.tuple [I (a*b),B (zaj (a*b))]);refine qf func241 call241 ntmps241 results241 ?_;have F:=q1;repeat (first | refine st ?_ | refine cC f0 ?_)
  exact aR
 by_cases h89:k=8\/k=9
 ·by_cases h0:b=0
  ·subst h0;have q1:binI k a 0=(0,false):=by rcases h89 with rfl | rfl<;>rfl
   rw [q1];rcases h89 with rfl | rfl
   ·refine qf func241 call241 ntmps241 results241 ?_;repeat refine st0 ?_
    exact aR0
   ·refine qf func241 call241 ntmps241 results241 ?_;repeat refine st0 ?_
    exact aR0
  have q0:(b==0)=false:=by simpa using h0
  have q2:=zei (zen (b:=b) ha);rcases h89 with rfl | rfl
  ·have q1:binI 8 a b=(a.tdiv b,true):=by simp [binI,h0]
   rw [q1];refine qf func241 call241 ntmps241 results241 ?_;have F:=ai3 q0 q2 h0;repeat refine st ?_
   exact aR
  ·have q1:binI 9 a b=(a.tmod b,true):=by simp [binI,h0]
   have q3:=zcx (ziW (b:=b) ha hb);have q4:IntKind.i64.wrap (a-a.tdiv b*b)=a.tmod b:=by rw [zsA]; exact zei (ziV ha)
   rw [q1];refine qf func241 call241 ntmps241 results241 ?_;have F:=ai5 q0 q2 q3 q4 h0;repeat refine st ?_
   exact aR
 by_cases h10:k=10
 ·subst h10;have f0:=zbV env (a+b);have q1:IntKind.i64.wrap (a+b)=a+b:=zcx hbig;show Con _ _ _ _ (.tuple [I (a+b),B (zaj (a+b))]);refine qf func241 call241 ntmps241 results241 ?_;have F:=q1;repeat (first | refine st ?_ | refine cC f0 ?_)
  exact aR
 by_cases h11:k=11
 ·subst h11;have f0:=zbV env (a-b);have q1:IntKind.i64.wrap (a-b)=a-b:=zcx hbig;show Con _ _ _ _ (.tuple [I (a-b),B (zaj (a-b))]);refine qf func241 call241 ntmps241 results241 ?_;have F:=q1;repeat (first | refine st ?_ | refine cC f0 ?_)
  exact aR
 by_cases h18:k=18
 ·subst h18;show Con _ _ _ _ (.tuple [I (trI (a != 0&&b != 0)),B true]);have f0:=zch env (a != 0);have f1:=zch env (b != 0);have q1:IntKind.i64.wrap (trI (a != 0)*trI (b != 0))=trI (a != 0&&b != 0):=by cases (a != 0)<;>cases (b != 0)<;>rfl
  generalize (a != 0&&b != 0)=t at*;refine qf func241 call241 ntmps241 results241 ?_;have F:=q1;repeat (first | refine st ?_ | refine cC f0 ?_ | refine cC f1 ?_)
  exact aR
 by_cases h19:k=19
 ·subst h19;show Con _ _ _ _ (.tuple [I (trI (a != 0||b != 0)),B true]);have f0:=zch env (a != 0||b != 0);cases h0:(a != 0)
  ·rw [h0] at f0;refine qf func241 call241 ntmps241 results241 ?_;have F:=h0;repeat (first | refine st ?_ | refine cC f0 ?_)
   exact aR
  ·rw [h0] at f0;refine qf func241 call241 ntmps241 results241 ?_;have F:=h0;repeat (first | refine st ?_ | refine cC f0 ?_)
   exact aR
 have q1:binI k a b=(trI (cmpB k a b),true):=by
  unfold binI;rw [if_neg h7,if_neg (by omega),if_neg (by omega),if_neg h10,if_neg h11,if_neg h18,if_neg h19]
 rw [q1];have f1:=zch env (cmpB k a b);obtain rfl | rfl | rfl | rfl | rfl | rfl:k=12\/k=13\/k=14\/k=15\/k=16\/k=17:=by omega
 ·have q2:cmpB 12 a b=decide (a<b):=rfl;rw [q2] at f1 |-;refine qf func241 call241 ntmps241 results241 ?_;repeat (first | refine st0 ?_ | refine cC0 f1 ?_)
  exact aR0
 ·have q2:cmpB 13 a b=decide (b<a):=rfl;rw [q2] at f1 |-;refine qf func241 call241 ntmps241 results241 ?_;repeat (first | refine st0 ?_ | refine cC0 f1 ?_)
  exact aR0
 ·have q2:cmpB 14 a b= !decide (b<a):=by show decide (a<=b)=_; rw [Bool.eq_iff_iff]; simp [Int.not_lt]
  rw [q2] at f1 |-;refine qf func241 call241 ntmps241 results241 ?_;repeat (first | refine st0 ?_ | refine cC0 f1 ?_)
  exact aR0
 ·have q2:cmpB 15 a b= !decide (a<b):=by show decide (b<=a)=_; rw [Bool.eq_iff_iff]; simp [Int.not_lt]
  rw [q2] at f1 |-;refine qf func241 call241 ntmps241 results241 ?_;repeat (first | refine st0 ?_ | refine cC0 f1 ?_)
  exact aR0
 ·have q2:cmpB 16 a b=(a==b):=rfl;rw [q2] at f1 |-;refine qf func241 call241 ntmps241 results241 ?_;repeat (first | refine st0 ?_ | refine cC0 f1 ?_)
  exact aR0
 ·have q2:cmpB 17 a b=(a != b):=rfl;rw [q2] at f1 |-;refine qf func241 call241 ntmps241 results241 ?_;repeat (first | refine st0 ?_ | refine cC0 f1 ?_)
  exact aR0
theorem zoO (env:Env) (code:List OpD) (n:Nat) (hn:n<=code.length) (h32:code.length<=32):Con prog env 240 [opsAV code,I ((n:Int)-1)] (I (lastTo code n 1:Nat)):=by
 refine qf func240 call240 ntmps240 results240 ?_;repeat refine st0 ?_
 refine zab (D:=Nat×Int) (fun d _=>[(0,opsAV code),(5,I d.2),(6,I ((d.1:Int)-1))]) (fun _ _=>[]) (fun d _ _=>d.1<=n/\lastTo code d.1 d.2=lastTo code n 1/\d.2+(d.1:Int)<=1+(n:Int)/\1-2*(n:Int)<=d.2-2*(d.1:Int)) (fun d=>d.1) (n,1) ?_ ?_ ?_ ?_
 ·exact⟨Nat.le_refl _,rfl,by simp only; omega,by simp only; omega⟩
 ·exact qe0
 ·exact qe0
 rintro⟨j,need⟩ vs esc ⟨hj,he,b1,b2⟩;simp only at hj he b1 b2
 match j,hj,he,b1,b2 with
 | 0,hj,he,b1,b2=>
   have g1: ¬(0:Int)<=((0:Nat):Int)-1:=by omega
   rw [<-he];show awp _ _ _ _ _ _;have e0:(lastTo code 0 need:Nat)=0:=rfl;rw [e0];have F:=g1;repeat refine st ?_
   exact aR
 | j+1,hj,he,b1,b2=>
   obtain⟨o,ho,_⟩:=zal (show j<code.length by omega);have hop:=zdv o.kind;have f0:=zbC env o.kind;have g0:((j+1:Nat):Int)-1=(j:Int):=by omega
   have g1:(0:Int)<=(j:Int):=by omega
   have g2:(j:Int)< (code.length:Int):=by omega
   have w1:IntKind.i64.wrap (need-1)=need-1:=zaw (by omega) (by omega);have w2:IntKind.i64.wrap (need-1+zac o.kind)=need-1+zac o.kind:=zaw (by omega) (by omega);have w3:IntKind.i64.wrap ((j:Int)-1)=(j:Int)-1:=zaw (by omega) (by omega)
   have hst:lastTo code (j+1) need=if need-1+zac o.kind=0 then j else lastTo code j (need-1+zac o.kind):=by
    conv=>lhs; unfold lastTo
    rw [ho]
   rw [hst] at he;by_cases h0:need-1+zac o.kind=0
   ·rw [if_pos h0] at he;rw [<-he];have b0:(need-1+zac o.kind==0)=true:=by simpa using h0
    have F:=ai9 opAV.eq_1 ho g0 g1 g2 w1 w2 w3 b0;repeat (first | refine st ?_ | refine cC f0 ?_)
    exact aR
   ·rw [if_neg h0] at he;have b0:(need-1+zac o.kind==0)=false:=by simpa using h0
    have F:=ai9 opAV.eq_1 ho g0 g1 g2 w1 w2 w3 b0;repeat (first | refine st ?_ | refine cC f0 ?_)
    refine⟨(j,need-1+zac o.kind),⟨by simp only; omega,he,by simp only; omega,by simp only; omega⟩, ?_, ?_,by simp only; omega⟩
    ·exact qe
    ·exact qe
theorem zkU (env:Env) (w:WoD) (hw:w.Ok) (hl:w.vars.length<=1000000):Con prog env 56 [.agg (woAV w)] (B true):=by
 have f0:=zbV env w.data;rw [hw.data] at f0
 have f1: ∀x∈w.vars,Con prog env 27 [I x] (B true):=fun x hx=>by
  have:=zbV env x;rwa [hw.vars x hx] at this
 unfold woAV;generalize List.map bCell w.act=X at*;refine qf func56 call56 ntmps56 results56 ?_;repeat refine st0 ?_
 refine zab (D:=Nat) (fun j vs=>[(1, .loc 1 (vs 1) 0 0),(3,I j)]) (fun _ _=>[(1,⟨3,[[ints34 w.vars,I w.data, .seq 1 X]],107,false⟩)]) (fun j _ _=>j<=w.vars.length) (fun j=>w.vars.length-j) 0 ?_ ?_ ?_ ?_
 ·exact Nat.zero_le _
 ·exact qe0
 ·exact qe0
 rintro j vs esc hj;by_cases hlt:j<w.vars.length
 ·obtain⟨x,hx⟩: ∃x,w.vars[j]? =some x:=⟨w.vars[j],List.getElem?_eq_getElem hlt⟩;have g1:=nlt hlt;have g2:=zaa hlt (by omega);have f2:=f1 x (List.mem_of_getElem? hx);have F:=ai4 intAV.eq_1 g1 g2 hx;repeat (first | refine st ?_ | refine cC f2 ?_)
  refine⟨j+1,hlt, ?_, ?_,by omega⟩
  ·exact qe
  ·exact qe
 obtain rfl:j=w.vars.length:=by omega
 have g1: ¬(w.vars.length:Int)< (w.vars.length:Int):=by omega
 have F:=g1;repeat (first | refine st ?_ | refine cC f0 ?_)
 exact aR
theorem zeu (env:Env) (w:WoD) (hw:w.Ok): ∀(f:Nat) (code:List OpD),code.length<=f->code.length<=32->hgt w.vars.length w.act.length code 0=some 1->Con prog env 200 [opsAV code, .agg (woAV w)] (.tuple [I (treeF w f code).1,B (treeF w f code).2])
 | 0,code,hf,_,h=>by
   obtain rfl:code=[]:=List.length_eq_zero_iff.1 (by omega);simp [hgt] at h
 | f+1,code,hf,h32,h=>by
   obtain⟨l,o,hco,hs,hl⟩:=zis h;have hlen:code.length=l.length+1:=by rw [hco]; simp
   have hat:code[l.length]? =some o:=by rw [hco]; simp
   have htk:code.take l.length=l:=by rw [hco]; simp
   have hres:treeF w (f+1) code=treeF w (f+1) (l++[o]):=by rw [hco]
   have hnum:=zsg hs;have k1:IntKind.i64.wrap ((code.length:Int)-1)=(l.length:Int):=(zaw (by omega) (by omega)).trans (by omega);have k2:(l.length:Int)< (code.length:Int):=by omega
   have k3:(l.length:Int)<=(code.length:Int):=by omega
   rw [zbe] at hres;obtain⟨k,n⟩:=o;simp only at hs hl hres;rcases zhd hs with⟨b1,b2,b3⟩ | ⟨b1,b3,_⟩ | ⟨b1,b2,b3,_⟩
   ·simp only at b1 b2 b3;rw [if_pos b2] at hres;rw [hres];unfold numB at hnum;simp only at hnum;obtain rfl | rfl | rfl | rfl:k=1\/k=2\/k=3\/k=4:=by omega
    ·show Con _ _ _ _ (.tuple [I n,B true]);refine qf func200 call200 ntmps200 results200 ?_;have F:=ai5 opAV.eq_1 woAV.eq_1 hat k1 k2;repeat refine st ?_
     exact aR
    ·have hnum:0<=n/\n<w.vars.length:=by simpa using hnum
     obtain⟨m,rfl⟩:=zcB hnum.1;have q1:(m:Int)< (w.vars.length:Int):=hnum.2;have q2:w.vars[m]? =some (w.vars.getD m 0):=by rw [List.getD_eq_getElem?_getD,List.getElem?_eq_getElem (by omega)]; rfl
     show Con _ _ _ _ (.tuple [I (w.vars.getD ((m:Int).toNat) 0),B true]);rw [Int.toNat_natCast];refine qf func200 call200 ntmps200 results200 ?_;have F:=ai8 opAV.eq_1 woAV.eq_1 intAV.eq_1 hat k1 k2 q1 q2;repeat refine st ?_
     exact aR
    ·show Con _ _ _ _ (.tuple [I w.data,B true]);refine qf func200 call200 ntmps200 results200 ?_;have F:=ai5 opAV.eq_1 woAV.eq_1 hat k1 k2;repeat refine st ?_
     exact aR
    ·have hnum:0<=n/\n<w.act.length:=by simpa using hnum
     obtain⟨m,rfl⟩:=zcB hnum.1;have q1:(m:Int)< (w.act.length:Int):=hnum.2;have q2:w.act[m]? =some (w.act.getD m false):=by rw [List.getD_eq_getElem?_getD,List.getElem?_eq_getElem (by omega)]; rfl
     show Con _ _ _ _ (.tuple [I (trI (w.act.getD ((m:Int).toNat) false)),B true]);rw [Int.toNat_natCast];have f0:=zch env (w.act.getD m false);generalize w.act.getD m false=t at*;refine qf func200 call200 ntmps200 results200 ?_;have F:=ai8 opAV.eq_1 woAV.eq_1 bCell.eq_1 hat k1 k2 q1 q2;repeat (first | refine st ?_ | refine cC f0 ?_)
     exact aR
   ·simp only at b1 b3;rw [b3] at hl;have hlf:l.length<=f:=by omega
    have f0:=zeu env w hw f l hlf (by omega) hl;have hbig:=(zcU hw f l hlf hl).1;generalize treeF w f l=T at*;unfold woAV at f0 |-;rcases b1 with rfl | rfl
    ·rw [if_neg (by omega),if_pos rfl] at hres;rw [hres];have q1:IntKind.i64.wrap (0-T.1)=0-T.1:=zcx (by unfold Big at hbig |-; omega);refine qf func200 call200 ntmps200 results200 ?_;have F:=ai8 Nat.sub_zero opAV.eq_1 hat htk k1 k2 k3 q1;repeat (first | refine st ?_ | refine cC f0 ?_)
     exact aR
    ·rw [if_neg (by omega),if_neg (by omega),if_pos rfl] at hres;rw [hres];have f1:=zch env (T.1==0);refine qf func200 call200 ntmps200 results200 ?_;have F:=ai7 Nat.sub_zero opAV.eq_1 hat htk k1 k2 k3;repeat (first | refine st ?_ | refine cC f0 ?_ | refine cC f1 ?_)
     exact aR
   ·simp only at b1 b2 b3;rw [b3] at hl;obtain⟨h1,h2,h3⟩:=zij hl;rw [if_neg (by omega),if_neg (by omega),if_neg (by omega)] at hres;have fl:=zoO env code l.length (by omega) h32;have ea:lastTo code l.length 1=lastTo l l.length 1:=by rw [hco]; exact zeY l _ _ _ (Nat.le_refl _)
    rw [ea] at fl;generalize lastTo l l.length 1=p at*;have f0:=zeu env w hw f (l.take p) (by rw [List.length_take]; omega) (by rw [List.length_take]; omega) h1;have f1:=zeu env w hw f (l.drop p) (by rw [List.length_drop]; omega) (by rw [List.length_drop]; omega) h2;have fa:=zcU hw f (l.take p) (by rw [List.length_take]; omega) h1;have fb:=zcU hw f (l.drop p) (by rw [List.length_drop]; omega) h2;have q1:IntKind.i64.wrap ((l.length:Int)-1)=(l.length:Int)-1:=zaw (by omega) (by omega);have q2:code.take p=l.take p:=by rw [hco,List.take_append_of_le_length (Nat.le_of_lt h3)]
    have q3:(code.drop p).take (l.length-p)=l.drop p:=by rw [<-List.drop_take,htk]
    have q4:(p:Int)<=(code.length:Int):=by omega
    have q5:(p:Int)<=(l.length:Int):=by omega
    generalize treeF w f (l.take p)=Ta at*;generalize treeF w f (l.drop p)=Tb at*;unfold woAV at f0 f1 |-;have c1:(k==1)=false:=by simp; omega
    have c2:(k==2)=false:=by simp; omega
    have c3:(k==3)=false:=by simp; omega
    have c4:(k==4)=false:=by simp; omega
    have c5:(k==5)=false:=by simp; omega
    have c6:(k==6)=false:=by simp; omega
    rcases Ta with⟨av,ab⟩;rcases Tb with⟨bv,bb⟩;simp only at fa fb f0 f1 hres;cases ab with
    | false=>
      rw [hres];show Con _ _ _ _ (.tuple [I 0,B false]);refine qf func200 call200 ntmps200 results200 ?_;have F:=ai17 Nat.sub_zero opAV.eq_1 hat q1 q2 q3 q4 q5 k1 k2 k3 c1 c2 c3 c4 c5 c6;repeat (first | refine st ?_ | refine cC fl ?_ | refine cC f0 ?_ | refine cC f1 ?_)
      exact aR
    | true=>
      cases bb with
      | false=>
        rw [hres];show Con _ _ _ _ (.tuple [I 0,B false]);refine qf func200 call200 ntmps200 results200 ?_;have F:=ai17 Nat.sub_zero opAV.eq_1 hat q1 q2 q3 q4 q5 k1 k2 k3 c1 c2 c3 c4 c5 c6;repeat (first | refine st ?_ | refine cC fl ?_ | refine cC f0 ?_ | refine cC f1 ?_)
        exact aR
      | true=>
        have f2:=znd env k av bv ⟨b1,b2⟩ (fa.2 rfl) (fb.2 rfl);rw [hres];simp only [Bool.and_self,if_true];generalize binI k av bv=R at*;refine qf func200 call200 ntmps200 results200 ?_;have F:=ai17 Nat.sub_zero opAV.eq_1 hat q1 q2 q3 q4 q5 k1 k2 k3 c1 c2 c3 c4 c5 c6;repeat (first | refine st ?_ | refine cC fl ?_ | refine cC f0 ?_ | refine cC f1 ?_ | refine cC f2 ?_)
        exact aR
def zsY:Option Int->AV
 | some v=> .tuple [I v,I 0]
 | none=> .tuple [I 0,I 2]
theorem zoP (env:Env) (w:WoD) (hw:w.Ok) (hl:w.vars.length<=1000000) (code:List OpD) (hc:zaF code w.vars.length w.act.length=true):Con prog env 156 [opsAV code, .agg (woAV w)] (zsY (zg7 w code)):=by
 obtain⟨hh,hlen⟩:=ziE hc;have h0:zdU code w.vars.length w.act.length=0:=by unfold zaF at hc; simpa using hc
 have f0:=zkU env w hw hl;have f1:=zdW env code w.vars.length w.act.length;rw [h0] at f1;have f2:=zeu env w hw code.length code (Nat.le_refl _) hlen hh;have q0:(w.act.map bCell).length=w.act.length:=List.length_map ..;unfold zg7;generalize treeF w code.length code=T at*;obtain⟨v,b⟩:=T;unfold woAV at f0 f2 |-;cases b with
 | true=>
   show Con _ _ _ _ (.tuple [I v,I 0]);refine qf func156 call156 ntmps156 results156 ?_;have F:=q0;repeat (first | refine st ?_ | refine cC f0 ?_ | refine cC f1 ?_ | refine cC f2 ?_)
   exact aR
 | false=>
   show Con _ _ _ _ (.tuple [I 0,I 2]);refine qf func156 call156 ntmps156 results156 ?_;have F:=q0;repeat (first | refine st ?_ | refine cC f0 ?_ | refine cC f1 ?_ | refine cC f2 ?_)
   exact aR
end
section
def woI (w:WoD) (g:Nat->Nat):AV:= .agg [.row 1002 (g 1002),I w.data, .seq 1 (w.act.map bCell)]
def rowV (w:WoD):Nat×Row:=(1002,⟨1,w.vars.map intAV,3,true⟩)
theorem zmQ (env:Env) (w:WoD) (o:OpD) (R:List Int) (hs:R.length<=1000) (hk:1<=o.kind/\o.kind<=4) (h:numB o w.vars.length w.act.length=true):ConI prog env 234 [1002,27] (fun k=>k==27) (fun g=>[ints34 R, .agg (opAV o),woI w g]) (fun _=>[rowV w]) (fun _=>[rowV w,(27,⟨1,(R++[leafI w o]).map intAV,3,true⟩)]) (fun g=> .tuple [.row 27 (g 27),B true]):=by
 have f0:=(zrn env w o hk h).lend rfl;have q0:o.kind<=4:=hk.2;have q1:Fits (R.length+1) 8:=zaf (by omega) (by omega);have q2:(R++[leafI w o]).map intAV=R.map intAV++[[I (leafI w o)]]:=by simp
 rw [q2];try clear q2
 generalize leafI w o=v at*;unfold opAV woAV at f0;unfold woI rowV;refine qi func234 call234 ntmps234 results234 ?_;intro vs esc hesc;have e0:=hesc 1002 (by simp);have e1:=hesc 27 (by simp);have F:=ai5 opAV.eq_1 q0 q1 e0 e1;repeat refine st ?_
 refine lL f0 ?_;repeat refine st ?_
 exact rI
theorem zmP (env:Env) (w:WoD) (o:OpD) (a:Int) (R:List Int) (hs:R.length<=1000) (hk:o.kind=5\/o.kind=6) (ha:zaj a=true):ConI prog env 234 [1002,51] (fun k=>k==51) (fun g=>[ints34 (R++[a]), .agg (opAV o),woI w g]) (fun _=>[rowV w]) (fun _=>[rowV w,(51,⟨1,(R++[unI o.kind a]).map intAV,3,true⟩)]) (fun g=> .tuple [.row 51 (g 51),B true]):=by
 have f0:=zoj env o.kind a hk ha;have q0: ¬o.kind<=4:=by omega
 have q1:o.kind<=6:=by omega
 have q2:Fits (R.length+1) 8:=zaf (by omega) (by omega);have e1: ∀x:Int,(R++[x]).map intAV=R.map intAV++[[I x]]:=fun x=>by simp
 have e2:ints34 (R++[a])= .seq 1 (R.map intAV++[[I a]]):=by rw [show R.map intAV++[[I a]]=(R++[a]).map intAV by simp]
 rw [e1,e2];have q4:(R.map intAV++[[I a]]).length=R.length+1:=by simp
 have q5:(R.map intAV++[[I a]])[R.length]? =some [I a]:=by rw [List.getElem?_append_right (by simp)]; simp
 have q6:(R.map intAV++[[I a]]).take R.length=R.map intAV:=by rw [List.take_append_of_le_length (by simp),List.take_of_length_le (by simp)]
 have q3:IntKind.i64.wrap (((R.length+1:Nat):Int)-1)=(R.length:Int):=(zaw (by omega) (by omega)).trans (by omega);have q7:(R.length:Int)< ((R.length+1:Nat):Int):=by omega
 have q8: ¬((R.length:Int)=((R.length+1:Nat):Int)):=by omega
 have q9:(R.length:Int)<=((R.length+1:Nat):Int):=by omega
 generalize hX:R.map intAV++[[I a]]=X at*;generalize unI o.kind a=v at*;unfold woI rowV;refine qi func234 call234 ntmps234 results234 ?_;intro vs esc hesc;have e0:=hesc 1002 (by simp);have e3:=hesc 51 (by simp);have F:=ai13 opAV.eq_1 q0 q1 q2 q3 q4 q5 q6 q7 q8 q9 e0 e3;repeat (first | refine st ?_ | refine cC f0 ?_)
 exact rI
theorem zmR (env:Env) (w:WoD) (o:OpD) (a b:Int) (R:List Int) (hs:R.length<=1000) (hk:7<=o.kind/\o.kind<=19) (ha:zaj a=true) (hb:zaj b=true):ConI prog env 234 [1002,77] (fun k=>k==77) (fun g=>[ints34 (R++[a,b]), .agg (opAV o),woI w g]) (fun _=>[rowV w]) (fun _=>[rowV w,(77,⟨1,(R++[(binI o.kind a b).1]).map intAV,3,true⟩)]) (fun g=> .tuple [.row 77 (g 77),B (binI o.kind a b).2]):=by
 have f0:=znR env o.kind a b hk ha hb;have q0: ¬o.kind<=4:=by omega
 have q1: ¬o.kind<=6:=by omega
 have q2:Fits (R.length+1) 8:=zaf (by omega) (by omega);have e1: ∀x:Int,(R++[x]).map intAV=R.map intAV++[[I x]]:=fun x=>by simp
 have e2:ints34 (R++[a,b])= .seq 1 (R.map intAV++[[I a],[I b]]):=by rw [show R.map intAV++[[I a],[I b]]=(R++[a,b]).map intAV by simp]
 rw [e1,e2];have q4:(R.map intAV++[[I a],[I b]]).length=R.length+2:=by simp
 have q5:(R.map intAV++[[I a],[I b]])[R.length]? =some [I a]:=by rw [List.getElem?_append_right (by simp)]; simp
 have p5:(R.map intAV++[[I a],[I b]])[R.length+1]? =some [I b]:=by rw [List.getElem?_append_right (by simp)]; simp
 have q6:(R.map intAV++[[I a],[I b]]).take R.length=R.map intAV:=by rw [List.take_append_of_le_length (by simp),List.take_of_length_le (by simp)]
 have q3:IntKind.i64.wrap (((R.length+2:Nat):Int)-2)=(R.length:Int):=(zaw (by omega) (by omega)).trans (by omega);have p3:IntKind.i64.wrap (((R.length+2:Nat):Int)-1)=((R.length+1:Nat):Int):=(zaw (by omega) (by omega)).trans (by omega);have q7:(R.length:Int)< ((R.length+2:Nat):Int):=by omega
 have p7:((R.length+1:Nat):Int)< ((R.length+2:Nat):Int):=by omega
 have q8: ¬((R.length:Int)=((R.length+2:Nat):Int)):=by omega
 have q9:(R.length:Int)<=((R.length+2:Nat):Int):=by omega
 generalize hX:R.map intAV++[[I a],[I b]]=X at*;generalize binI o.kind a b=v at*;unfold woI rowV;refine qi func234 call234 ntmps234 results234 ?_;intro vs esc hesc;have e0:=hesc 1002 (by simp);have e3:=hesc 77 (by simp);have F:=ai16 opAV.eq_1 q0 q1 q2 q3 p3 q4 q5 p5 q6 q7 p7 q8 q9 e0 e3;repeat (first | refine st ?_ | refine cC f0 ?_)
 exact rI
theorem zpV (env:Env) (a1 a2 a8:Addr) (he:ChEnv env a1 a8) (h2:env 2=some (sentV a2)) (w:WoD) (hw:w.Ok) (hl:w.vars.length<=1000000) (code:List OpD) (hc:zaF code w.vars.length w.act.length=true):ConI prog env 195 [1002] (fun _=>false) (fun g=>[opsAV code,woI w g]) (fun _=>[rowV w]) (fun _=>[rowV w]) (fun _=>zjZ a2 (zg7 w code)):=by
 have f0:=(zmL env w hw hl).lend rfl;have f1:=zdX env a1 a8 he code w.vars.length w.act.length;have g2:=zgx h2;have f9:=zbD env [118,97,108,117,101,46,69,118,97,108] a2;obtain⟨hh,hlen⟩:=ziE hc;have h0:zdU code w.vars.length w.act.length=0:=by unfold zaF at hc; simpa using hc
 unfold zdB at f1;rw [if_pos h0] at f1;have hrun:=zrC w hh;have q0:(w.act.map bCell).length=w.act.length:=List.length_map ..;have s1: ∀(o:OpD) (R:List Int),R.length<=1000->1<=o.kind/\o.kind<=4->numB o w.vars.length w.act.length=true->_:=fun o R=>zmQ env w o R;have s2: ∀(o:OpD) (a:Int) (R:List Int),_:=fun o a R=>zmP env w o a R;have s3: ∀(o:OpD) (a b:Int) (R:List Int),_:=fun o a b R=>zmR env w o a b R;unfold woAV at f0;unfold woI rowV at*;refine qi func195 call195 ntmps195 results195 ?_;intro vs esc hesc;have e0:=hesc 1002 (by simp);have F:=e0;repeat refine st ?_
 refine lL f0 ?_;repeat (first | refine st ?_ | refine cC f1 ?_)
 refine ziJ (Turned.nil 8 1 (by simp only [go_sem])) ?_;refine zab (D:=Nat×List Int) (fun d vs=>[(3, .loc 3 (vs 3) 0 0),(8,ints34 d.2.reverse),(31,opsAV code),(32,I code.length),(33,I d.1)]) (fun _ vs=>[(3,⟨3,[[.row 1002 (vs 1002),I w.data, .seq 1 (w.act.map bCell)]],199,false⟩),(1002,⟨1,w.vars.map intAV,3,true⟩)]) (fun d vs' esc=>(d.1<=code.length/\runS w (code.take d.1) []=some d.2/\hgt w.vars.length w.act.length code 0=hgt w.vars.length w.act.length (code.drop d.1) d.2.length/\(∀x∈d.2,zaj x=true)/\d.2.length<=d.1)/\vs' 1002=vs 1002/\esc 1002=false) (fun d=>code.length-d.1) (0,[]) ?_ ?_ ?_ ?_
 ·exact⟨⟨Nat.zero_le _,rfl,rfl,by simp,Nat.le_refl _⟩,by simp only [go_sem],by simp only [go_sem,e0]⟩
 ·(simp only [go_sem,F])
  try rfl
 ·exact qe
 try clear e0
 rintro⟨i,s⟩ ws esc ⟨⟨hi,hr,hg,hf,hsl⟩,v0,e0⟩;simp only at hi hr hg hf hsl;by_cases hlt:i<code.length
 ·obtain⟨o,ho,_⟩:=zal hlt;obtain⟨up,no⟩:=zir ho hg;have k1:=nlt hlt;have k2:=zaa hlt (by omega);have hnext:=zqX (w:=w) ho hr
  have hok:zbn w.vars.length w.act.length s.length o=true:=by
   cases hok:zbn w.vars.length w.act.length s.length o with
   | true=>rfl
   | false=>rw [no hok] at hh; cases hh
  have hg2:=up hok;have hnum:=zsg hok;refine zkn 9001 rfl ?_;rcases zhd hok with⟨b1,b2,b3⟩ | ⟨b1,b3,b4⟩ | ⟨b1,b2,b3,b4⟩
  ·have f2:=s1 o s.reverse (by rw [List.length_reverse]; omega) ⟨b1,b2⟩ hnum;have hst:zdk w o s=some (leafI w o::s):=by unfold zdk; rw [if_pos b2]
   rw [hst] at hnext;have e1:s.reverse++[leafI w o]=(leafI w o::s).reverse:=by simp
   rw [e1] at f2;refine zfO ?_;have F:=ai5 opAV.eq_1 ho k1 k2 e0;repeat refine st ?_
   refine iL [(1002,1002),(27,9001)] f2 ?_;repeat refine st ?_
   refine⟨_,Turned.frozen 9001 8 ⟨1,(leafI w o::s).reverse.map intAV,3,true⟩ rfl (Nat.succ_ne_zero 0) (by simp only [go_sem]) (by simp only [go_sem]),(i+1,leafI w o::s),⟨⟨hlt,hnext, ?_,zfW hw hnum hf hst, ?_⟩, ?_, ?_⟩, ?_, ?_, ?_⟩
   ·rw [hg2,b3]
    congr 1<;>simp
   ·simp only [List.length_cons]; omega
   ·simp only [go_sem,v0]
   ·simp only [go_sem,e0]
   ·exact qe
   ·exact qe
   ·simp only; omega
  ·match s,hr,hg,hf,hsl,hok,hg2,hnext,b4 with
   | a::s,hr,hg,hf,hsl,hok,hg2,hnext,b4=>
     have ha:=hf a (by simp);have f2:=s2 o a s.reverse (by rw [List.length_reverse]; simp only [List.length_cons] at hsl; omega) b1 ha;have hst:zdk w o (a::s)=some (unI o.kind a::s):=by unfold zdk; rw [if_neg (by omega),if_pos (by omega)]
     rw [hst] at hnext;have e1:s.reverse++[unI o.kind a]=(unI o.kind a::s).reverse:=by simp
     have e2:s.reverse++[a]=(a::s).reverse:=by simp
     rw [e1,e2] at f2;refine zfO ?_;have F:=ai5 opAV.eq_1 ho k1 k2 e0;repeat refine st ?_
     refine iL [(1002,1002),(51,9001)] f2 ?_;repeat refine st ?_
     refine⟨_,Turned.frozen 9001 8 ⟨1,(unI o.kind a::s).reverse.map intAV,3,true⟩ rfl (Nat.succ_ne_zero 0) (by simp only [go_sem]) (by simp only [go_sem]),(i+1,unI o.kind a::s),⟨⟨hlt,hnext, ?_,zfW hw hnum hf hst, ?_⟩, ?_, ?_⟩, ?_, ?_, ?_⟩
     ·rw [hg2,b3]
      congr 1<;>simp
     ·simp only [List.length_cons] at hsl |-; omega
     ·simp only [go_sem,v0]
     ·simp only [go_sem,e0]
     ·exact qe
     ·exact qe
     ·simp only; omega
  ·match s,hr,hg,hf,hsl,hok,hg2,hnext,b4 with
   | b::a::s,hr,hg,hf,hsl,hok,hg2,hnext,b4=>
     have hb:=hf b (by simp);have ha:=hf a (by simp);have f2:=s3 o a b s.reverse (by rw [List.length_reverse]; simp only [List.length_cons] at hsl; omega) ⟨b1,b2⟩ ha hb;have hst:zdk w o (b::a::s)=if (binI o.kind a b).2 then some ((binI o.kind a b).1::s) else none:=by unfold zdk; rw [if_neg (by omega),if_neg (by omega)]
     rw [hst] at hnext;have e1:s.reverse++[(binI o.kind a b).1]=((binI o.kind a b).1::s).reverse:=by simp
     have e2:s.reverse++[a,b]=(b::a::s).reverse:=by simp
     rw [e1,e2] at f2;cases hv:(binI o.kind a b).2 with
     | true=>
       rw [hv] at f2 hst hnext;simp only [if_true] at hst hnext;refine zfO ?_;have F:=ai5 opAV.eq_1 ho k1 k2 e0;repeat refine st ?_
       refine iL [(1002,1002),(77,9001)] f2 ?_;repeat refine st ?_
       refine⟨_,Turned.frozen 9001 8 ⟨1,((binI o.kind a b).1::s).reverse.map intAV,3,true⟩ rfl (Nat.succ_ne_zero 0) (by simp only [go_sem]) (by simp only [go_sem]),(i+1,(binI o.kind a b).1::s),⟨⟨hlt,hnext, ?_,zfW hw hnum hf hst, ?_⟩, ?_, ?_⟩, ?_, ?_, ?_⟩
       ·rw [hg2,b3]
        congr 1
        simp only [List.length_cons];omega
       ·simp only [List.length_cons] at hsl |-; omega
       ·simp only [go_sem,v0]
       ·simp only [go_sem,e0]
       ·exact qe
       ·exact qe
       ·simp only; omega
     | false=>
       rw [hv] at f2 hnext;simp only [Bool.false_eq_true,if_false] at hnext;have hn:=run_stuck hnext;rw [hrun,Option.map_eq_none_iff] at hn;rw [hn];show awp _ _ _ _ _ _;unfold zjZ;have F:=ai7 opAV.eq_1 ho k1 k2 g2 e0 v0;repeat refine st ?_
       refine iL [(1002,1002),(77,9001)] f2 ?_;repeat (first | refine st ?_ | refine cC f9 ?_)
       exact rI
 ·obtain rfl:i=code.length:=by omega
  have k1: ¬(code.length:Int)< (code.length:Int):=by omega
  have hend:=zlg (Nat.le_refl _) hg;rw [hh] at hend;rw [List.take_length,hrun] at hr;obtain⟨v,hv,rfl⟩:=Option.map_eq_some_iff.1 hr;rw [hv];unfold zjZ;have F:=ai6 intAV.eq_1 k1 @List.reverse_cons.{0} @List.reverse_nil.{0} e0 v0;repeat refine st ?_
  exact rI
end

end Go.Proofs.YtbpmkofnfgdegaaGreatDoor