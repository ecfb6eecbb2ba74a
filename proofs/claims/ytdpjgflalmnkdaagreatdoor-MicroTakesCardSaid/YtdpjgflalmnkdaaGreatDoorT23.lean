/- Package value: a stack's step, an expression's value. -/
import Derived.Test.YtdpjgflalmnkdaaGreatDoorT22
set_option maxRecDepth 100000
set_option maxHeartbeats 16000000
set_option linter.unusedSimpArgs false
namespace Go.Proofs.YtdpjgflalmnkdaaGreatDoor
open Go.Proofs.Tryz
section
open Go.RowKit
theorem r8 (c:ChD): ∀(f:Nat) (l:List Int),(l9 c f l).length<=l.length+f
 |0,l=>Kc _
 | f+1,l=>by
   unfold l9;split
   ·omega
   ·have:=r8 c f (l++[lackI c l]);rw[K8,LI]at this;omega
theorem E3 (env:Env) (c:ChD) (h:Full c) (l:List Int) (hl:l.length<=3000):Con prog env 86 [.agg (aA c), .seq 1 (l.map intAV)] (.own 3 1 ((growRL c l).map intAV)):=by
 have hlen:=h.few;have hf0:Fits l.length 8:=aC (by omega) (by omega);refine qf func86 call86 ntmps86 results86 ?_;have F:=ai aA.eq_1 hf0;repeat refine st ?_
 refine aI (D:=Nat×List Int) (fun d vs=>[(2, .loc 2 (vs 2) 0 0),(5, .row 8 (vs 8)),(6,I d.1)]) (fun d _=>[(2,⟨5,[aA c],26,false⟩),(8,⟨1,d.2.map intAV,3,true⟩)]) (fun d _ esc=>(d.1<=c.states.length+1/\l9 c (c.states.length+1-d.1) d.2=growRL c l/\d.2.length<=l.length+d.1)/\esc 8=false) (fun d=>c.states.length+1-d.1) (0,l) ?_ ?_ ?_ ?_
 ·exact⟨⟨Kj _,rfl,Kc _⟩,by simp only[go_sem]⟩
 ·(simp only[go_sem,F])
  try rfl
 ·have F:=aA.eq_1
  (simp only[go_sem,F])
  try rfl
 rintro⟨n,L⟩ ws esc ⟨⟨hn,hg,hL⟩,e0⟩;simp only at hn hg hL;by_cases hlt:n<=c.states.length
 ·have q1:(n:Int)<=(c.states.length:Int):=by omega
  have q2:=aD (show n<c.states.length+1 by omega) (by omega);have f1:=(BC env c h L (by omega)).lend rfl;unfold aA at f1;rw[show c.states.length+1-n=(c.states.length-n)+1 by omega]at hg;unfold l9 at hg;generalize lackI c L=i at*;by_cases h0:i<0
  ·rw[K5 h0]at hg;rw[<-hg];have F:=ai4 aA.eq_1 q1 e0 h0;repeat refine st ?_
   refine lL f1 ?_;repeat refine st ?_
   exact aR
  ·rw[K2 h0]at hg;have hf:Fits (L.length+1) 8:=aC (by omega) (by omega);have F:=ai6 aA.eq_1 q1 q2 e0 h0 hf;repeat refine st ?_
   refine lL f1 ?_;repeat refine st ?_
   refine⟨(n+1,L++[i]),⟨⟨by simp only;omega,?_,by simp only[K8,LI];omega⟩,by simp only[go_sem,e0]⟩,?_,?_,by simp only;omega⟩
   ·simp only;rw[show c.states.length+1-(n+1)=c.states.length-n by omega];exact hg
   ·exact qe
   ·have F:=ai aA.eq_1 @Ka.{0,0};exact qe
 ·obtain rfl:n=c.states.length+1:=by omega
  have q1: ¬((c.states.length+1:Nat):Int)<=(c.states.length:Int):=by omega
  rw[N5]at hg;have hg:L=growRL c l:=hg;rw[<-hg];have F:=ai3 aA.eq_1 q1 e0;repeat refine st ?_
  exact aR
theorem rL {c:ChD} (h:Full c) {mem:List MemD} (hm:bU c mem=true): ∀m∈mem,m.2≠[]/\m.2.length<=32:=fun m hm'=>by
 have e2:=(oQ hm).2 m hm';unfold k8 at e2;split at e2
 ·split at e2
  ·rw[K3,Kh]at e2;exact⟨fun e=>by rw[e]at e2;simp at e2,by omega⟩
  ·unfold deepB at e2;simp only[K3]at e2;have hr:=e2.2.1.1.1;have hnd:m.2.Nodup:=jg hr
   have hin: ∀x∈m.2,inZ c x=true:=fun x hx=>by
    have:=K7.1 e2.2.1.1.2 x hx;unfold dq at this;rw[K3]at this;exact aY this.1
   have:=gf hnd hin;have:=h.toRight.few;refine⟨fun e=> ?_,by omega⟩;rw[e]at hr;cases hr
 ·cases e2
theorem tq (env:Env) (c:ChD) (h:Full c) (t:TrD) (hsrc:inZ c t.src=true) (htg:inZ c t.target=true) (mem:List MemD) (hl:mem.length<=1000000) (hm:bU c mem=true):
 Con prog env 38 [.agg (aA c), .agg (az t),memsAV mem] (.own 3 1 ((GF c t.src t.target mem).map aB)):=by
 obtain⟨tsrc,tev,tgd,tac,ttg⟩:=t;simp only at hsrc htg |-;obtain⟨k,s,rfl,hsk,hat⟩:=cF htg;have hc:=h.toRight;have hlen:=h.few;obtain⟨l1,l2⟩:=DD h htg hm;have q0: ¬(k:Int)<0:=by omega
 have hk:=(K0.1 hsk).1;have q1:((k:Nat):Int)< (c.states.length:Int):=by omega
 have f1:=lR env c hc ⟨tsrc,tev,tgd,tac,(k:Int)⟩ hsrc;have f2:=uk env c hc (leadL c (k:Int) mem) l2 (domE c tsrc (k:Int));have hpl:=zU c (leadL c (k:Int) mem) (domE c tsrc (k:Int))
 have hpz: ∀x∈zL (pathL c (leadL c (k:Int) mem) (domE c tsrc (k:Int))),inZ c x=true:=fun x hx=>by
  obtain⟨i,hi,rfl⟩:=Kb.1 hx;exact aV.2 (Kw.1 (Ke.1 hi).1)
 have f3:=E3 env c h (zL (pathL c (leadL c (k:Int) mem) (domE c tsrc (k:Int)))) (by rw[an];omega)
 have hgl:(growRL c (zL (pathL c (leadL c (k:Int) mem) (domE c tsrc (k:Int))))).length<=1000000:=by
  have:=r8 c (c.states.length+1) (zL (pathL c (leadL c (k:Int) mem) (domE c tsrc (k:Int))));rw[an]at this;unfold growRL;omega
 have f4:=qx env c hc (growRL c (zL (pathL c (leadL c (k:Int) mem) (domE c tsrc (k:Int))))) hgl fun x hx=>(aH.1 (((r7 h hpz).1 hx).in h hpz)).1;unfold GF;rw[xw h l1];rw[bc]at f3;have f5:=bf env s;have f6:=Cm env mem (k:Int) hl
 have hlead:leadL c (k:Int) mem=if aT s=true then(if ofL mem (k:Int)=[] then [s.initial] else ofL mem (k:Int)) else [(k:Int)]:=by
  unfold leadL;rw[hat];simp only;cases hmm:aT s with
  |false=>rfl
  | true=>
    unfold ofL;cases hf:mem.find? (fun m=>m.1==(k:Int)) with
    | some m=>
      simp only[L1];rw[K2 (rL h hm m (MQ hf)).1]
    |none=>rfl
 generalize domE c tsrc (k:Int)=D at*;generalize growRL c (zL (pathL c (leadL c (k:Int) mem) D))=G at*;generalize pathL c (leadL c (k:Int) mem) D=PL at*;generalize ofL mem (k:Int)=O at*;unfold az at f1;simp only at f1;unfold aA at f1 f2 f3 f4;unfold aK at f5;cases hmy:aT s with
 | false=>
   rw[hmy]at f5;rw[hlead,hmy,K2 LO]at f2;refine qf func38 call38 ntmps38 results38 ?_;have F:=ai6 aA.eq_1 az.eq_1 aK.eq_1 q0 q1 hsk;repeat refine tz5 f5 f1 f2 f3 f4 ?_
   exact aR
 | true=>
   rw[hmy]at f5;rw[hlead,hmy,K5 rfl]at f2;by_cases ho:O=[]
   ·rw[K5 ho]at f2;subst ho;refine qf func38 call38 ntmps38 results38 ?_;have F:=ai6 aA.eq_1 az.eq_1 aK.eq_1 q0 q1 hsk;repeat refine tz6 f5 f6 f1 f2 f3 f4 ?_
    exact aR
   ·rw[K2 ho]at f2
    have b0:((O.length:Int)==0)=false:=by
     have:=Lw.2 ho;simp;omega
    refine qf func38 call38 ntmps38 results38 ?_;have F:=ai7 aA.eq_1 az.eq_1 aK.eq_1 q0 q1 hsk b0;repeat refine tz6 f5 f6 f1 f2 f3 f4 ?_
    exact aR
end
section
open Go.RowKit Go.Extern.Stop Go.Stop Go.Extern
end
section
open Go.RowKit
end
section
open Go.RowKit
end
section
open Go.RowKit
end
section
end
section
open Go.RowKit
def targetR (c:ChD) (t:TrD) (mem:List MemD):List Nat:=if t.target<0 then [] else GF c t.src t.target mem
theorem CO (env:Env) (a1 a8:Addr) (he:ChEnv env a1 a8) (c:ChD) (h:Full c) (hs:Small c) (mem:List MemD) (hl:mem.length<=1000000) (hF: ∀m∈mem,Fits m.2.length 8) (k:Nat) (t:TrD) (ht:c.trans[k]? =some t) (hb:bU c mem=true):Con prog env 74 [aJ c,I k,memsAV mem] (.tuple [.seq 1 ((targetR c t mem).map aB),nilE]):=by
 have f0:=pF env a1 a8 he c h hs mem hl hF;unfold IH at f0;rw[hb,K5 rfl]at f0;have f1:=nO env c hs k t ht;unfold targetR;unfold az at f1;by_cases h0:t.target<0
 ·rw[K5 h0];unfold aJ at f0 f1 |-;refine qw func74 call74 ntmps74 results74 ?_;have F:=h0;repeat refine tz2 f0 f1 ?_
  (refine aM ?_;refine⟨_,(by show (ae _ _ _).run _=some _;simp only[go_sem,F];rfl),?_⟩)
  exact .of (.tuple (.cons (.nil 1) (.cons (.refl _) .nil))) (fun _ _ _ h=>by cases h) (fun _ _ _ h=>by cases h)
 ·rw[K2 h0]
  have htg:inZ c t.target=true:=by
   rcases (h.src ht).2 with e|e
   ·omega
   ·exact e
  have f2:=A4 env c h hs t (h.src ht).1 htg mem hl (fun m hm=>by have:=(rL h hb m hm).2;omega) hb;unfold az at f2;unfold aJ at f0 f1 f2 |-;refine qf func74 call74 ntmps74 results74 ?_;have F:=h0;repeat refine tz3 f0 f1 f2 ?_
  exact aR
theorem wM (env:Env) (c:ChD) (h:Full c) (mem:List MemD) (hl:mem.length<=1000000) (k:Nat) (t:TrD) (ht:c.trans[k]? =some t) (hb:bU c mem=true):Con prog env 38 [.agg (aA c), .agg (az t),memsAV mem] (.own 3 1 ((targetR c t mem).map aB)):=by
 unfold targetR;by_cases h0:t.target<0
 ·rw[K5 h0];refine qw func38 call38 ntmps38 results38 ?_;have F:=ai3 aA.eq_1 az.eq_1 h0;repeat refine st ?_
  (refine aM ?_;refine⟨_,(by show (ae _ _ _).run _=some _;simp only[go_sem,F];rfl),?_⟩)
  exact fo.own_nil _ _ (by decide)
 ·rw[K2 h0]
  have htg:inZ c t.target=true:=by
   rcases (h.src ht).2 with e|e
   ·omega
   ·exact e
  exact tq env c h t (h.src ht).1 htg mem hl hb
end
section
open Go.RowKit
structure RunD where
 act:List Int
 vars:List Int
 mem:List MemD
 tms:List (List UInt8×Int)
 over:Bool
 outs:List Int
 rais:List (List UInt8×Int)
abbrev ErD:=Option (Nat×List Int)
def woR (c:ChD) (d:Int) (r:RunD):WoD:=⟨r.vars,d,(List.range c.states.length).map fun k:Nat=>r.act.contains (k:Int)⟩
def without (l:List (List UInt8×Int)) (s:List UInt8):List (List UInt8×Int):=l.filter fun x=> !(x.1==s)
def insT (x:List UInt8×Int):List (List UInt8×Int)->List (List UInt8×Int)
 |[]=>[x]
 |y::l=>if Op.bytesLess x.1 y.1=true then x::y::l else y::insT x l
def raiseP (r:RunD) (s:List UInt8) (v:Int):RunD×ErD:=if 16<=r.rais.length then(r,some (8,[-1])) else({ r with rais:=r.rais++[(s,v)] },none)
def startP (now:Int) (r:RunD) (s:List UInt8) (v:Int):RunD×ErD:=
 if v<0\/1099511627776-now<v then(r,some (2,[-1]))
 else if 8<=(without r.tms s).length then({ r with tms:=without r.tms s },some (8,[-1]))
 else({ r with tms:=insT (s,now+v) (without r.tms s) },none)
def Ie (r:RunD) (v:Int):RunD×ErD:=if 256<=r.outs.length then(r,some (8,[-1])) else({ r with outs:=r.outs++[v] },none)
def doP (c:ChD) (d now:Int) (r:RunD) (a:ActD):RunD×ErD:=
 if a.kind=5 then({ r with tms:=without r.tms a.name },none)
 else match lD (woR c d r) a.code with
  |none=>(r,some (2,[-1, -1]))
  | some v=>if a.kind=1 then({ r with vars:=r.vars.set a.n.toNat v },none)
    else if a.kind=2 then raiseP r a.name v
    else if a.kind=4 then startP now r a.name v
    else Ie r v
def allP (c:ChD) (d now:Int) (r:RunD):List ActD->RunD×ErD
 |[]=>(r,none)
 | a::l=>match doP c d now r a with
   |(r1,none)=>allP c d now r1 l
   |x=>x
def zV (c:ChD) (i:Int):List ActD:=match at_ c i with
 |some s=>s.out
 |none=>[]
def inA (c:ChD) (i:Int):List ActD:=match at_ c i with
 |some s=>s.inn
 |none=>[]
def bS (c:ChD) (i:Int):Int:=match at_ c i with
 |some s=>s.kind
 |none=>0
def IR (c:ChD) (i:Int):List UInt8:=match at_ c i with
 |some s=>s.name
 |none=>[]
def bP (c:ChD) (d now:Int) (r:RunD):List Int->RunD×ErD
 |[]=>(r,none)
 | i::l=>match allP c d now r (zV c i) with
   |(r1,none)=>bP c d now { r1 with act:=r1.act.filter fun k=> !(k==i) } l
   |x=>x
def da (c:ChD) (d now:Int) (r:RunD):List Nat->RunD×ErD
 |[]=>(r,none)
 | n::l=>match allP c d now r (dm c n).acts with
   |(r1,none)=>da c d now r1 l
   |x=>x
def ak (c:ChD) (d now:Int) (r:RunD) (f:List Int):List Int->(RunD×ErD)×List Int
 |[]=>((r,none),f)
 | i::l=>if r.act.contains i=true then ak c d now r f l
   else match allP c d now { r with act:=bN (r.act++[i]) } (inA c i) with
    |(r1,none)=>ak c d now r1 (if bS c i=3 then f++[i] else f) l
    |x=>(x,[])
def kg (c:ChD) (i:Int):List UInt8:=[100,111,110,101,46]++IR c i
def dC (c:ChD) (r:RunD) (o:List Int):List Int->(RunD×ErD)×List Int
 |[]=>((r,none),o)
 | i::l=>if aO c i<0 then dC c { r with over:=true } o l
   else match raiseP r (kg c (aO c i)) 0 with
    |(r1,none)=>dC c r1 (if 0<=aO c (aO c i)/\bS c (aO c (aO c i))=2 then o++[aO c (aO c i)] else o) l
    |x=>(x,[])
def np (c:ChD) (act:List Int):Nat->Int->Bool
 |0,_=>false
 | f+1,i=>if bS c i=3 then true
   else if bS c i=1 then(match (kidZ c i).find? fun k=>act.contains k with
    |some k=>bS c k==3
    |none=>false)
   else(kidZ c i).all fun k=>np c act f k
def sA (c:ChD) (act:List Int) (i:Int):Bool:=act.contains i&&np c act 40 i
def d9 (c:ChD) (r:RunD):List Int->RunD×ErD
 |[]=>(r,none)
 | g::l=>if sA c r.act g=true then(match raiseP r (kg c g) 0 with
    |(r1,none)=>d9 c r1 l
    |x=>x)
   else d9 c r l
def finishP (c:ChD) (r:RunD) (f:List Int):RunD×ErD:=match dC c r [] f with
 |((r1,none),o)=>d9 c r1 (zL (sortL c o))
 |(x,_)=>x
def enterP (c:ChD) (d now:Int) (r:RunD) (l:List Int):RunD×ErD:=match ak c d now r [] l with
 |((r1,none),f)=>finishP c r1 f
 |(x,_)=>x
def goneR (c:ChD) (act:List Int) (ts:List Nat):List Int:=ts.flatMap fun n=>leaveR c act (dm c n)
def toR (c:ChD) (mem:List MemD) (ts:List Nat):List Nat:=ts.flatMap fun n=>targetR c (dm c n) mem
def stepP (c:ChD) (d now:Int) (r:RunD) (ts:List Nat):RunD×ErD:=
 let gone:=sortL c (goneR c r.act ts)
 let mem:=remL c r.act (zL gone) r.mem
 match bP c d now { r with mem:=mem } (zL gone).reverse with
 |(r1,none)=>match da c d now r1 ts with
   |(r2,none)=>enterP c d now r2 (zL (sortL c (zL (toR c mem ts))))
   |x=>x
 |x=>x
def C3 (c:ChD) (now:Int):RunD×ErD:=enterP c 0 now ⟨[],c.vars.map (·.start),[],[],false,[],[]⟩ (zL (tbegL c (-1)))
end
section
open Go.RowKit
/-! Timers by their names -/
def KV (x:List UInt8×Int):Prop:=bd x.1=true/\0<=x.2/\x.2<=1099511627776
structure TmsOk (l:List (List UInt8×Int)):Prop where
 rise:l.Pairwise fun a b=>Op.bytesLess a.1 b.1=true
 each: ∀x∈l,KV x
theorem TmsOk.without {l:List (List UInt8×Int)} (h:TmsOk l) (s:List UInt8):TmsOk (without l s):=⟨h.rise.sublist Lp,fun x hx=>h.each x (Ke.1 hx).1⟩
theorem qZ {l:List (List UInt8×Int)} {s:List UInt8} : ∀x∈without l s,x.1≠s:=fun x hx=>by
 have:=(Ke.1 hx).2;simpa using this
theorem pG (l:List (List UInt8×Int)) (s:List UInt8):(without l s).length<=l.length:=Kq ..
theorem xB {x y:List UInt8×Int} : ∀ {l:List (List UInt8×Int)},y∈insT x l↔y=x\/y∈l
 |[]=>by simp[insT]
 | z::l=>by
   unfold insT;split
   ·simp
   ·rw[Kr,xB,Kr];constructor
    ·rintro(h|h|h)
     ·exact .inr (.inl h)
     ·exact .inl h
     ·exact .inr (.inr h)
    ·rintro(h|h|h)
     ·exact .inr (.inl h)
     ·exact .inl h
     ·exact .inr (.inr h)
theorem DI (x:List UInt8×Int): ∀l,(insT x l).length=l.length+1
 |[]=>rfl
 | z::l=>by
   unfold insT;split
   ·rfl
   ·rw[Ks,DI x l,Ks]
theorem tC {x:List UInt8×Int} : ∀ {l:List (List UInt8×Int)},(l.Pairwise fun a b=>Op.bytesLess a.1 b.1=true)->(∀y∈l,y.1≠x.1)->(insT x l).Pairwise fun a b=>Op.bytesLess a.1 b.1=true
 |[],_,_=>NF ..
 | z::l,h,hn=>by
   obtain⟨h1,h2⟩:=MI.1 h;unfold insT;split
   ·rename_i hb;refine MI.2 ⟨fun y hy=> ?_,h⟩;rcases Kr.1 hy with rfl|hy
    ·exact hb
    ·exact eX hb (h1 y hy)
   ·rename_i hb;refine MI.2 ⟨fun y hy=> ?_,tC h2 fun y hy=>hn y (Ly _ hy)⟩;rcases xB.1 hy with rfl|hy
    ·cases hq:Op.bytesLess z.1 y.1 with
     |true=>rfl
     |false=>exact absurd (de hq (by simpa using hb)) (hn z (by simp))
    ·exact h1 y hy
theorem TmsOk.ins {l:List (List UInt8×Int)} (h:TmsOk l) {x:List UInt8×Int} (hx:KV x) (hn: ∀y∈l,y.1≠x.1):TmsOk (insT x l):=⟨tC h.rise hn,fun y hy=>by
 rcases xB.1 hy with rfl|hy
 ·exact hx
 ·exact h.each y hy⟩
/-! Actions -/
structure RunOk (c:ChD) (r:RunD):Prop where
 len:r.vars.length=c.vars.length
 vars: ∀x∈r.vars,aL x=true
 tms:TmsOk r.tms
 tml:r.tms.length<=8
 outs:r.outs.length<=256
 rais:r.rais.length<=16
 raf: ∀e∈r.rais,aL e.2=true
structure RunSame (r r1:RunD):Prop where
 act:r1.act=r.act
 mem:r1.mem=r.mem
 over:r1.over=r.over
theorem RunSame.rfl {r:RunD} :RunSame r r:=⟨Eq.refl _,Eq.refl _,Eq.refl _⟩
theorem RunSame.trans {r r1 r2:RunD} (h:RunSame r r1) (k:RunSame r1 r2):RunSame r r2:=⟨k.act.trans h.act,k.mem.trans h.mem,k.over.trans h.over⟩
theorem sf {c:ChD} {r:RunD} (h:RunOk c r) (s:List UInt8) {v:Int} (hv:aL v=true):RunOk c (raiseP r s v).1/\RunSame r (raiseP r s v).1:=by
 unfold raiseP;split
 ·exact⟨h, .rfl⟩
 ·rename_i hl;refine⟨{ h with rais:= ?_,raf:=fun e he=> ?_ },⟨rfl,rfl,rfl⟩⟩
  ·simp only[K8,LI];omega
  ·rcases Kx.1 he with q|q
   ·exact h.raf e q
   ·rw[Kl.1 q];exact hv
theorem nq {l:List OpD} {vs ss:Int} (h:bg l vs ss=true):hgt vs ss l 0=some 1/\l.length<=32:=by
 unfold bg at h;rw[L5]at h;unfold iA at h;split at h
 ·omega
 ·rename_i hl;split at h
  ·rename_i hh;exact⟨hh,by omega⟩
  ·omega
theorem CS {c:ChD} {r:RunD} (h:RunOk c r) {d:Int} (hd:aL d=true):(woR c d r).Ok:=⟨h.vars,hd⟩
theorem IW {c:ChD} {d now:Int} (hd:aL d=true) (hn:0<=now/\now<=1099511627776) {r:RunD} (h:RunOk c r) {a:ActD} (ha:fh c.vars.length c.states.length a=true):RunOk c (doP c d now r a).1/\RunSame r (doP c d now r a).1:=by
 unfold doP;split
 ·exact⟨{ h with tms:=h.tms.without _,tml:=Km (pG ..) h.tml },⟨rfl,rfl,rfl⟩⟩
 rename_i h5;split
 ·exact⟨h, .rfl⟩
 rename_i v hv
 have hcode:bg a.code c.vars.length c.states.length=true:=by
  unfold fh at ha;repeat' split at ha
  all_goals (first|(exact absurd ‹a.kind=5› h5)|(simp only[K3]at ha;exact ha.2)|cases ha)
 have hfit:=F7 (CS h hd) (nq hcode).1 hv;split
 ·refine⟨{ h with len:=by simp only[M4];exact h.len,vars:=fun x hx=> ?_ },⟨rfl,rfl,rfl⟩⟩;rcases List.mem_or_eq_of_mem_set hx with hx|rfl
  ·exact h.vars x hx
  ·exact hfit
 split
 ·exact sf h _ hfit
 split
 ·rename_i h1 h2 h4;unfold startP;split
  ·exact⟨h, .rfl⟩
  rename_i hr;split
  ·exact⟨{ h with tms:=h.tms.without _,tml:=Km (pG ..) h.tml },⟨rfl,rfl,rfl⟩⟩
  rename_i hl
  have hname:bd a.name=true:=by
   unfold fh at ha;rw[K2 h1,K5 (.inr h4)]at ha;simp only[K3]at ha;exact ha.1.2
  refine⟨{ h with tms:=(h.tms.without _).ins ⟨hname,?_⟩ qZ,tml:=by simp only[DI];omega },⟨rfl,rfl,rfl⟩⟩;simp only;omega
 ·unfold Ie;split
  ·exact⟨h, .rfl⟩
  ·refine⟨{ h with outs:= ?_ },⟨rfl,rfl,rfl⟩⟩;simp only[K8,LI];omega
theorem jX {c:ChD} {d now:Int} (hd:aL d=true) (hn:0<=now/\now<=1099511627776): ∀ {l:List ActD} {r:RunD},RunOk c r->(∀a∈l,fh c.vars.length c.states.length a=true)->RunOk c (allP c d now r l).1/\RunSame r (allP c d now r l).1
 |[],r,h,_=>⟨h, .rfl⟩
 | a::l,r,h,ha=>by
   obtain⟨k1,k2⟩:=IW hd hn h (ha a (by simp));unfold allP;split
   ·rename_i r1 e;rw[e]at k1 k2;obtain⟨k3,k4⟩:=jX (l:=l) hd hn k1 fun b hb=>ha b (by simp[hb]);exact⟨k3,k2.trans k4⟩
   ·exact⟨k1,k2⟩
structure ActsOk (c:ChD):Prop where
 out: ∀i,∀a∈zV c i,fh c.vars.length c.states.length a=true
 inn: ∀i,∀a∈inA c i,fh c.vars.length c.states.length a=true
 tr: ∀(n:Nat) (t:TrD),c.trans[n]? =some t-> ∀a∈t.acts,fh c.vars.length c.states.length a=true
theorem nc {c:ChD} (hA:ActsOk c) {d now:Int} (hd:aL d=true) (hn:0<=now/\now<=1099511627776): ∀ {l:List Int} {r:RunD},RunOk c r->RunOk c (bP c d now r l).1/\(bP c d now r l).1.mem=r.mem/\(bP c d now r l).1.over=r.over/\((bP c d now r l).2=none->(bP c d now r l).1.act=r.act.filter fun k=> !l.contains k)
 |[],r,h=>⟨h,rfl,rfl,fun _=>(List.filter_eq_self.2 fun _ _=>rfl).symm⟩
 | i::l,r,h=>by
   obtain⟨k1,k2⟩:=jX hd hn h (hA.out i);unfold bP;split
   ·rename_i r1 e;rw[e]at k1 k2;obtain⟨k3,k4,k5,k6⟩:=nc hA (l:=l) hd hn (r:={ r1 with act:=r1.act.filter fun k=> !(k==i) }) { k1 with };refine⟨k3,k4.trans k2.mem,k5.trans k2.over,fun he=> ?_⟩;rw[k6 he];simp only;have k2a:r1.act=r.act:=k2.act;rw[k2a,List.filter_filter];apply MG;intro k _;rw[List.contains_cons,Bool.not_or,Bool.and_comm]
   ·rename_i x hx
    exact⟨k1,k2.mem,k2.over,fun he=>absurd he (by
     intro hh;rcases hq:allP c d now r (zV c i) with⟨r1,e1⟩;rw[hq]at hh;simp only at hh;subst hh
     exact hx r1 hq)⟩
theorem Do {c:ChD} (hA:ActsOk c) {d now:Int} (hd:aL d=true) (hn:0<=now/\now<=1099511627776): ∀ {l:List Nat} {r:RunD},(∀n∈l,∃t,c.trans[n]? =some t)->RunOk c r->RunOk c (da c d now r l).1/\RunSame r (da c d now r l).1
 |[],r,_,h=>⟨h, .rfl⟩
 | n::l,r,hl,h=>by
   obtain⟨t,ht⟩:=hl n (by simp);obtain⟨k1,k2⟩:=jX (l:=(dm c n).acts) hd hn h (by rw[eY ht];exact hA.tr n t ht);unfold da;split
   ·rename_i r1 e;rw[e]at k1 k2;obtain⟨k3,k4⟩:=Do hA (l:=l) hd hn (fun m hm=>hl m (by simp[hm])) k1;exact⟨k3,k2.trans k4⟩
   ·exact⟨k1,k2⟩
end
section
open Go.RowKit
theorem EI (env:Env) (w:WoD) (o:OpD) (R:List Int) (hs:R.length<=1000) (hk:1<=o.kind/\o.kind<=4) (h:mF o w.vars.length w.act.length=true):Con prog env 220 [ints34 R, .agg (bR o), .agg (dl w)] (.tuple [ints34 (R++[leafI w o]),B true]):=by
 have f0:=zf env w o hk h;have q0:o.kind<=4:=hk.2;have q1:Fits (R.length+1) 8:=aC (by omega) (by omega);have q2:ints34 (R++[leafI w o])= .seq 1 (R.map intAV++[[I (leafI w o)]]):=by rw[show R.map intAV++[[I (leafI w o)]]=(R++[leafI w o]).map intAV by simp]
 rw[q2];try clear q2
 generalize leafI w o=v at*;unfold bR dl at f0;refine qf func220 call220 ntmps220 results220 ?_;have F:=ai4 bR.eq_1 dl.eq_1 q0 q1;repeat refine tz1 f0 ?_
 exact aR
theorem EH (env:Env) (w:WoD) (o:OpD) (a:Int) (R:List Int) (hs:R.length<=1000) (hk:o.kind=5\/o.kind=6) (ha:aL a=true):Con prog env 220 [ints34 (R++[a]), .agg (bR o), .agg (dl w)] (.tuple [ints34 (R++[unI o.kind a]),B true]):=by
 have f0:=u9 env o.kind a hk ha;have q0: ¬o.kind<=4:=by omega
 have q1:o.kind<=6:=by omega
 have q2:Fits (R.length+1) 8:=aC (by omega) (by omega);have e1: ∀x:Int,ints34 (R++[x])= .seq 1 (R.map intAV++[[I x]]):=fun x=>by rw[show R.map intAV++[[I x]]=(R++[x]).map intAV by simp]
 rw[e1,e1];have q4:(R.map intAV++[[I a]]).length=R.length+1:=by simp
 have q5:(R.map intAV++[[I a]])[R.length]? =some [I a]:=by rw[LA (by simp)];simp
 have q6:(R.map intAV++[[I a]]).take R.length=R.map intAV:=by rw[MM (by simp),LU (by simp)]
 have q3:IntKind.i64.wrap (((R.length+1:Nat):Int)-1)=(R.length:Int):=(aU (by omega) (by omega)).trans (by omega);have q7:(R.length:Int)< ((R.length+1:Nat):Int):=by omega
 have q8: ¬((R.length:Int)=((R.length+1:Nat):Int)):=by omega
 have q9:(R.length:Int)<=((R.length+1:Nat):Int):=by omega
 generalize R.map intAV++[[I a]]=X at*;generalize unI o.kind a=v at*;refine qf func220 call220 ntmps220 results220 ?_;have F:=ai12 bR.eq_1 dl.eq_1 q0 q1 q2 q3 q4 q5 q6 q7 q8 q9;repeat refine tz1 f0 ?_
 exact aR
theorem EJ (env:Env) (w:WoD) (o:OpD) (a b:Int) (R:List Int) (hs:R.length<=1000) (hk:7<=o.kind/\o.kind<=19) (ha:aL a=true) (hb:aL b=true):Con prog env 220 [ints34 (R++[a,b]), .agg (bR o), .agg (dl w)] (.tuple [ints34 (R++[(binI o.kind a b).1]),B (binI o.kind a b).2]):=by
 have f0:=sL env o.kind a b hk ha hb;have q0: ¬o.kind<=4:=by omega
 have q1: ¬o.kind<=6:=by omega
 have q2:Fits (R.length+1) 8:=aC (by omega) (by omega);have e1: ∀x:Int,ints34 (R++[x])= .seq 1 (R.map intAV++[[I x]]):=fun x=>by rw[show R.map intAV++[[I x]]=(R++[x]).map intAV by simp]
 have e2:ints34 (R++[a,b])= .seq 1 (R.map intAV++[[I a],[I b]]):=by rw[show R.map intAV++[[I a],[I b]]=(R++[a,b]).map intAV by simp]
 rw[e1,e2];have q4:(R.map intAV++[[I a],[I b]]).length=R.length+2:=by simp
 have q5:(R.map intAV++[[I a],[I b]])[R.length]? =some [I a]:=by rw[LA (by simp)];simp
 have p5:(R.map intAV++[[I a],[I b]])[R.length+1]? =some [I b]:=by rw[LA (by simp)];simp
 have q6:(R.map intAV++[[I a],[I b]]).take R.length=R.map intAV:=by rw[MM (by simp),LU (by simp)]
 have q3:IntKind.i64.wrap (((R.length+2:Nat):Int)-2)=(R.length:Int):=(aU (by omega) (by omega)).trans (by omega);have p3:IntKind.i64.wrap (((R.length+2:Nat):Int)-1)=((R.length+1:Nat):Int):=(aU (by omega) (by omega)).trans (by omega);have q7:(R.length:Int)< ((R.length+2:Nat):Int):=by omega
 have p7:((R.length+1:Nat):Int)< ((R.length+2:Nat):Int):=by omega
 have q8: ¬((R.length:Int)=((R.length+2:Nat):Int)):=by omega
 have q9:(R.length:Int)<=((R.length+2:Nat):Int):=by omega
 generalize R.map intAV++[[I a],[I b]]=X at*;generalize binI o.kind a b=v at*;refine qf func220 call220 ntmps220 results220 ?_;have F:=ai12 bR.eq_1 dl.eq_1 q0 q1 q2 q3 p3 q4 q5 p5 q6<|ai4 q7 p7 q8 q9;repeat refine tz1 f0 ?_
 exact aR
theorem ja (env:Env) (w:WoD) (hw:w.Ok) (hl:w.vars.length<=1000000):Con prog env 179 [.agg (dl w)] nilE:=by
 have f0:=dS env w.data;rw[hw.data]at f0
 have f1: ∀x∈w.vars,Con prog env 59 [I x] (B true):=fun x hx=>by
  have:=dS env x;rwa [hw.vars x hx]at this
 refine qf func179 call179 ntmps179 results179 ?_;have F:=dl.eq_1;repeat refine tz1 f0 ?_
 refine lq w.vars.length (by omega) (fun j _=>[(3,B true),(10,ints34 w.vars),(11,I w.vars.length),(12,I j)]) (fun _ _=>[]) (fun _ _ _=>True) trivial ?_ ?_
 ·rintro j vs esc hlt g1 g2 _;obtain⟨x,hx⟩:=gE hlt;have f2:=f1 x (K4 hx);have F:=ai4 intAV.eq_1 g1 g2 hx;repeat refine tz1 f2 ?_
  exact qn (j+1) ⟨hlt,trivial⟩
 rintro vs esc g1 _;have F:=g1;repeat refine st ?_
 exact aR
def jT (a2:Addr):Option Int->AV
 |some v=> .tuple [I v,nilE]
 |none=> .tuple [I 0,errV (-1) (sentV a2)]
theorem lx {vs ss n:Int} {o:OpD} (h:bo vs ss n o=true):(1<=o.kind/\o.kind<=4/\aF o.kind=0)\/((o.kind=5\/o.kind=6)/\aF o.kind=1/\1<=n)\/(7<=o.kind/\o.kind<=19/\aF o.kind=2/\2<=n):=by
 have h1:=jC h
 have h2:aF o.kind=0/\1<=o.kind/\o.kind<=4\/aF o.kind=1/\(o.kind=5\/o.kind=6)\/aF o.kind=2/\7<=o.kind/\o.kind<=19\/aF o.kind= -1:=by
  unfold aF;split
  ·rename_i hh;exact .inl ⟨rfl,hh⟩
  split
  ·rename_i hh;exact .inr (.inl ⟨rfl,hh⟩)
  split
  ·rename_i hh;exact .inr (.inr (.inl ⟨rfl,hh⟩))
  ·exact .inr (.inr (.inr rfl))
 omega
theorem CY {vs ss n:Int} {o:OpD} (h:bo vs ss n o=true):mF o vs ss=true:=by
 simp only[bo,K3]at h;exact h.2
theorem zJ {w:WoD} {code:List OpD} {i:Nat} {o:OpD} {s:List Int} (h:code[i]? =some o) (hs:mA w (code.take i) []=some s):mA w (code.take (i+1)) []=dn w o s:=by
 rw[Ky,h,kT,hs];exact nP w o s
theorem run_stuck {w:WoD} {code:List OpD} {i:Nat} (h:mA w (code.take i) []=none):mA w code []=none:=by
 rw[<-Mh i code,kT,h];rfl
theorem zu (env:Env) (a1 a2 a8:Addr) (he:ChEnv env a1 a8) (h2:env 2=some (sentV a2)) (w:WoD) (hw:w.Ok) (hl:w.vars.length<=1000000) (code:List OpD) (hc:bg code w.vars.length w.act.length=true):Con prog env 180 [opsAV code, .agg (dl w)] (jT a2 (lD w code)):=by
 have f0:=ja env w hw hl;have f1:=gS env a1 a8 he code w.vars.length w.act.length;have g2:=jz h2;have f9:=cn env [118,97,108,117,101,46,69,118,97,108] a2;obtain⟨hh,hlen⟩:=nq hc;have h0:iA code w.vars.length w.act.length=0:=by unfold bg at hc;simpa using hc
 unfold gg at f1;rw[K5 h0]at f1;have hrun:=zt w hh;have q0:(w.act.map bCell).length=w.act.length:=Ko ..;have s1: ∀(o:OpD) (R:List Int),R.length<=1000->1<=o.kind/\o.kind<=4->mF o w.vars.length w.act.length=true->_:=fun o R=>EI env w o R;have s2: ∀(o:OpD) (a:Int) (R:List Int),_:=fun o a R=>EH env w o a R;have s3: ∀(o:OpD) (a b:Int) (R:List Int),_:=fun o a b R=>EJ env w o a b R;unfold dl at f0 s1 s2 s3 |-;refine qf func180 call180 ntmps180 results180 ?_;repeat refine Ce f0 f1 ?_
 refine iO (Turned.nil 8 1 (by simp only[go_sem])) ?_;refine lp0 (D:=Nat×List Int) (fun d vs=>[(3, .loc 3 (vs 3) 0 0),(8,ints34 d.2.reverse),(31,opsAV code),(32,I code.length),(33,I d.1)]) (fun _ _=>[(3,⟨3,[[ints34 w.vars,I w.data, .seq 1 (w.act.map bCell)]],183,false⟩)]) (fun d _ _=>d.1<=code.length/\mA w (code.take d.1) []=some d.2/\hgt w.vars.length w.act.length code 0=hgt w.vars.length w.act.length (code.drop d.1) d.2.length/\(∀x∈d.2,aL x=true)/\d.2.length<=d.1) (fun d=>code.length-d.1) (0,[]) ⟨Kj _,rfl,rfl,by simp,Kc _⟩ ?_;rintro⟨i,s⟩ vs esc ⟨hi,hr,hg,hf,hsl⟩;simp only at hi hr hg hf hsl;by_cases hlt:i<code.length
 ·obtain⟨o,ho,_⟩:=aQ hlt;obtain⟨up,no⟩:=nh ho hg;have k1:=nlt hlt;have k2:=aD hlt (by omega);have hnext:=zJ (w:=w) ho hr
  have hok:bo w.vars.length w.act.length s.length o=true:=by
   cases hok:bo w.vars.length w.act.length s.length o with
   |true=>rfl
   |false=>rw[no hok]at hh;cases hh
  have hg2:=up hok;have hnum:=CY hok;rcases lx hok with⟨b1,b2,b3⟩|⟨b1,b3,b4⟩|⟨b1,b2,b3,b4⟩
  ·have f2:=s1 o s.reverse (by rw[MO];omega) ⟨b1,b2⟩ hnum;have hst:dn w o s=some (leafI w o::s):=by unfold dn;rw[K5 b2]
   rw[hst]at hnext;have e1:s.reverse++[leafI w o]=(leafI w o::s).reverse:=by simp
   rw[e1]at f2;have F:=ai4 bR.eq_1 ho k1 k2;repeat refine tz1 f2 ?_
   refine⟨(i+1,leafI w o::s),⟨hlt,hnext,?_,gW hw hnum hf hst,?_⟩,?_,?_,?_⟩
   ·rw[hg2,b3]
    congr 1<;>simp
   ·simp only[Ks];omega
   ·exact qe
   ·exact qe
   ·simp only;omega
  ·match s,hr,hg,hf,hsl,hok,hg2,hnext,b4 with
   | a::s,hr,hg,hf,hsl,hok,hg2,hnext,b4=>
     have ha:=hf a (by simp);have f2:=s2 o a s.reverse (by rw[MO];simp only[Ks]at hsl;omega) b1 ha;have hst:dn w o (a::s)=some (unI o.kind a::s):=by unfold dn;rw[K2 (by omega),K5 (by omega)]
     rw[hst]at hnext;have e1:s.reverse++[unI o.kind a]=(unI o.kind a::s).reverse:=by simp
     have e2:s.reverse++[a]=(a::s).reverse:=by simp
     rw[e1,e2]at f2;have F:=ai4 bR.eq_1 ho k1 k2;repeat refine tz1 f2 ?_
     refine⟨(i+1,unI o.kind a::s),⟨hlt,hnext,?_,gW hw hnum hf hst,?_⟩,?_,?_,?_⟩
     ·rw[hg2,b3]
      congr 1<;>simp
     ·simp only[Ks]at hsl |-;omega
     ·exact qe
     ·exact qe
     ·simp only;omega
  ·match s,hr,hg,hf,hsl,hok,hg2,hnext,b4 with
   | b::a::s,hr,hg,hf,hsl,hok,hg2,hnext,b4=>
     have hb:=hf b (by simp);have ha:=hf a (by simp);have f2:=s3 o a b s.reverse (by rw[MO];simp only[Ks]at hsl;omega) ⟨b1,b2⟩ ha hb;have hst:dn w o (b::a::s)=if (binI o.kind a b).2 then some ((binI o.kind a b).1::s) else none:=by unfold dn;rw[K2 (by omega),K2 (by omega)]
     rw[hst]at hnext;have e1:s.reverse++[(binI o.kind a b).1]=((binI o.kind a b).1::s).reverse:=by simp
     have e2:s.reverse++[a,b]=(b::a::s).reverse:=by simp
     rw[e1,e2]at f2;cases hv:(binI o.kind a b).2 with
     | true=>
       rw[hv]at f2 hst hnext;simp only[L1]at hst hnext;have F:=ai4 bR.eq_1 ho k1 k2;repeat refine tz1 f2 ?_
       refine⟨(i+1,(binI o.kind a b).1::s),⟨hlt,hnext,?_,gW hw hnum hf hst,?_⟩,?_,?_,?_⟩
       ·rw[hg2,b3]
        congr 1
        simp only[Ks];omega
       ·simp only[Ks]at hsl |-;omega
       ·exact qe
       ·exact qe
       ·simp only;omega
     | false=>
       rw[hv]at f2 hnext;simp only[Ku,Ld]at hnext;have hn:=run_stuck hnext;rw[hrun,OU]at hn;rw[hn];show awp _ _ _ _ _ _;unfold jT;have F:=ai5 bR.eq_1 ho k1 k2 g2;repeat refine tz2 f2 f9 ?_
       exact aR
 ·obtain rfl:i=code.length:=by omega
  have k1:=nl code.length;have hend:=r6 (Kc _) hg;rw[hh]at hend;rw[Kt,hrun]at hr;obtain⟨v,hv,rfl⟩:=Lc.1 hr;rw[hv];unfold jT;have F:=ai4 intAV.eq_1 k1 @Ot.{0} @List.reverse_nil.{0};repeat refine st ?_
  exact aR
theorem GN (env:Env) (a1 a2 a8:Addr) (he:ChEnv env a1 a8) (h2:env 2=some (sentV a2)) (w:WoD) (hw:w.Ok) (hl:w.vars.length<=1000000) (code:List OpD) (hc:code=[]\/bg code w.vars.length w.act.length=true) (b:Bool) (hb:ij w code=some b):Con prog env 124 [opsAV code, .agg (dl w)] (.tuple [B b,nilE]):=by
 have f0:=ja env w hw hl;have f1:=xr env [118,97,108,117,101,46,84,114,117,101];unfold ij at hb;by_cases h0:code=[]
 ·subst h0;rw[K5 rfl]at hb;cases hb;unfold dl at f0 |-;refine qf func124 call124 ntmps124 results124 ?_;repeat refine Ce f0 f1 ?_
  exact aR0
 rw[K2 h0]at hb;have f2:=zu env a1 a2 a8 he h2 w hw hl code (hc.resolve_left h0)
 have hne:((code.length:Int)==0)=false:=by
  have:code.length≠0:=fun e=>h0 (Lz.1 e);simp;omega
 obtain⟨v,hv,rfl⟩:=Lc.1 hb;rw[hv]at f2;unfold jT at f2;unfold dl at f0 f2 |-;refine qf func124 call124 ntmps124 results124 ?_;have F:=hne;repeat refine tz2 f2 f1 ?_
 exact aR
theorem EC (env:Env) (a1 a2 a8:Addr) (he:ChEnv env a1 a8) (h2:env 2=some (sentV a2)) (w:WoD) (hw:w.Ok) (hl:w.vars.length<=1000000) (code:List OpD) (hc:code=[]\/bg code w.vars.length w.act.length=true) (hb:ij w code=none):Con prog env 124 [opsAV code, .agg (dl w)] (.tuple [B false,errV (-1) (errV (-1) (sentV a2))]):=by
 have f0:=ja env w hw hl;have f1:=nN env [118,97,108,117,101,46,84,114,117,101] (-1) (sentV a2);unfold ij at hb;by_cases h0:code=[]
 ·rw[K5 h0]at hb;cases hb
 rw[K2 h0,OU]at hb;have f2:=zu env a1 a2 a8 he h2 w hw hl code (hc.resolve_left h0)
 have hne:((code.length:Int)==0)=false:=by
  have:code.length≠0:=fun e=>h0 (Lz.1 e);simp;omega
 rw[hb]at f2;unfold jT at f2;unfold dl at f0 f2 |-;refine qf func124 call124 ntmps124 results124 ?_;have F:=hne;repeat refine tz2 f2 f1 ?_
 exact aR
end

end Go.Proofs.YtdpjgflalmnkdaaGreatDoor