/- The sort of timers of the library: the shelf's contract laid at this program (written by the kit's lay-plain.mjs, its numbers by name). -/
import Derived.Test.YtbjldjekgepopaaGreatDoorT21
import Derived.Shelf.SlSortCmp.NoneTotal
namespace Go.Proofs.YtbjldjekgepopaaGreatDoor
open Go.Proofs.Tryz
open Go.RowKit
/-! Timers by their names -/
def KS (x:List UInt8×Int):Prop:=bX x.1=true/\0<=x.2/\x.2<=1099511627776
structure TmsOk (l:List (List UInt8×Int)):Prop where
 rise:l.Pairwise fun a b=>Op.bytesLess a.1 b.1=true
 each: ∀x∈l,KS x
theorem TmsOk.without {l:List (List UInt8×Int)} (h:TmsOk l) (s:List UInt8):TmsOk (without l s):=⟨h.rise.sublist Lk,fun x hx=>h.each x (Kb.1 hx).1⟩
theorem qX {l:List (List UInt8×Int)} {s:List UInt8} : ∀x∈without l s,x.1≠s:=fun x hx=>by
 have:=(Kb.1 hx).2;simpa using this
theorem ov (l:List (List UInt8×Int)) (s:List UInt8):(without l s).length<=l.length:=Kw ..
theorem wv {x y:List UInt8×Int} : ∀ {l:List (List UInt8×Int)},y∈insT x l↔y=x\/y∈l
 |[]=>by simp[insT]
 | z::l=>by
   unfold insT;split
   ·simp
   ·rw[Kk,wv,Kk];constructor
    ·rintro(h|h|h)
     ·exact .inr (.inl h)
     ·exact .inl h
     ·exact .inr (.inr h)
    ·rintro(h|h|h)
     ·exact .inr (.inl h)
     ·exact .inl h
     ·exact .inr (.inr h)
theorem DN (x:List UInt8×Int): ∀l,(insT x l).length=l.length+1
 |[]=>rfl
 | z::l=>by
   unfold insT;split
   ·rfl
   ·rw[Kj,DN x l,Kj]
theorem so {x:List UInt8×Int} : ∀ {l:List (List UInt8×Int)},(l.Pairwise fun a b=>Op.bytesLess a.1 b.1=true)->(∀y∈l,y.1≠x.1)->(insT x l).Pairwise fun a b=>Op.bytesLess a.1 b.1=true
 |[],_,_=>NT ..
 | z::l,h,hn=>by
   obtain⟨h1,h2⟩:=MA.1 h;unfold insT;split
   ·rename_i hb;refine MA.2 ⟨fun y hy=> ?_,h⟩;rcases Kk.1 hy with rfl|hy
    ·exact hb
    ·exact eM hb (h1 y hy)
   ·rename_i hb;refine MA.2 ⟨fun y hy=> ?_,so h2 fun y hy=>hn y (Lq _ hy)⟩;rcases wv.1 hy with rfl|hy
    ·cases hq:Op.bytesLess z.1 y.1 with
     |true=>rfl
     |false=>exact absurd (eN hq (by simpa using hb)) (hn z (by simp))
    ·exact h1 y hy
theorem TmsOk.ins {l:List (List UInt8×Int)} (h:TmsOk l) {x:List UInt8×Int} (hx:KS x) (hn: ∀y∈l,y.1≠x.1):TmsOk (insT x l):=⟨so h.rise hn,fun y hy=>by
 rcases wv.1 hy with rfl|hy
 ·exact hx
 ·exact h.each y hy⟩
/-! Actions -/
structure RunOk (c:ChD) (r:RunD):Prop where
 len:r.vars.length=c.vars.length
 vars: ∀x∈r.vars,aJ x=true
 tms:TmsOk r.tms
 tml:r.tms.length<=8
 outs:r.outs.length<=256
 rais:r.rais.length<=16
 raf: ∀e∈r.rais,aJ e.2=true
structure RunSame (r r1:RunD):Prop where
 act:r1.act=r.act
 mem:r1.mem=r.mem
 over:r1.over=r.over
theorem RunSame.rfl {r:RunD} :RunSame r r:=⟨Eq.refl _,Eq.refl _,Eq.refl _⟩
theorem RunSame.trans {r r1 r2:RunD} (h:RunSame r r1) (k:RunSame r1 r2):RunSame r r2:=⟨k.act.trans h.act,k.mem.trans h.mem,k.over.trans h.over⟩
theorem sW {c:ChD} {r:RunD} (h:RunOk c r) (s:List UInt8) {v:Int} (hv:aJ v=true):RunOk c (raiseP r s v).1/\RunSame r (raiseP r s v).1:=by
 unfold raiseP;split
 ·exact⟨h, .rfl⟩
 ·rename_i hl;refine⟨{ h with rais:= ?_,raf:=fun e he=> ?_ },⟨rfl,rfl,rfl⟩⟩
  ·simp only[K4,Le];omega
  ·rcases Kt.1 he with q|q
   ·exact h.raf e q
   ·rw[Km.1 q];exact hv
theorem tH {l:List OpD} {vs ss:Int} (h:cB l vs ss=true):hgt vs ss l 0=some 1/\l.length<=32:=by
 unfold cB at h;rw[LW]at h;unfold iQ at h;split at h
 ·omega
 ·rename_i hl;split at h
  ·rename_i hh;exact⟨hh,by omega⟩
  ·omega
theorem H3 {c:ChD} {r:RunD} (h:RunOk c r) {d:Int} (hd:aJ d=true):(woR c d r).Ok:=⟨h.vars,hd⟩
theorem JN {c:ChD} {d now:Int} (hd:aJ d=true) (hn:0<=now/\now<=1099511627776) {r:RunD} (h:RunOk c r) {a:ActD} (ha:gd c.vars.length c.states.length a=true):RunOk c (doP c d now r a).1/\RunSame r (doP c d now r a).1:=by
 unfold doP;split
 ·exact⟨{ h with tms:=h.tms.without _,tml:=Kh (ov ..) h.tml },⟨rfl,rfl,rfl⟩⟩
 rename_i h5;split
 ·exact⟨h, .rfl⟩
 rename_i v hv
 have hcode:cB a.code c.vars.length c.states.length=true:=by
  unfold gd at ha;repeat' split at ha
  all_goals (first|(exact absurd ‹a.kind=5› h5)|(simp only[KY]at ha;exact ha.2)|cases ha)
 have hfit:=FY (H3 h hd) (tH hcode).1 hv;split
 ·refine⟨{ h with len:=by simp only[MV];exact h.len,vars:=fun x hx=> ?_ },⟨rfl,rfl,rfl⟩⟩;rcases List.mem_or_eq_of_mem_set hx with hx|rfl
  ·exact h.vars x hx
  ·exact hfit
 split
 ·exact sW h _ hfit
 split
 ·rename_i h1 h2 h4;unfold startP;split
  ·exact⟨h, .rfl⟩
  rename_i hr;split
  ·exact⟨{ h with tms:=h.tms.without _,tml:=Kh (ov ..) h.tml },⟨rfl,rfl,rfl⟩⟩
  rename_i hl
  have hname:bX a.name=true:=by
   unfold gd at ha;rw[KZ h1,K0 (.inr h4)]at ha;simp only[KY]at ha;exact ha.1.2
  refine⟨{ h with tms:=(h.tms.without _).ins ⟨hname,?_⟩ qX,tml:=by simp only[DN];omega },⟨rfl,rfl,rfl⟩⟩;simp only;omega
 ·unfold IV;split
  ·exact⟨h, .rfl⟩
  ·refine⟨{ h with outs:= ?_ },⟨rfl,rfl,rfl⟩⟩;simp only[K4,Le];omega
theorem lW {c:ChD} {d now:Int} (hd:aJ d=true) (hn:0<=now/\now<=1099511627776): ∀ {l:List ActD} {r:RunD},RunOk c r->(∀a∈l,gd c.vars.length c.states.length a=true)->RunOk c (allP c d now r l).1/\RunSame r (allP c d now r l).1
 |[],r,h,_=>⟨h, .rfl⟩
 | a::l,r,h,ha=>by
   obtain⟨k1,k2⟩:=JN hd hn h (ha a (by simp));unfold allP;split
   ·rename_i r1 e;rw[e]at k1 k2;obtain⟨k3,k4⟩:=lW (l:=l) hd hn k1 fun b hb=>ha b (by simp[hb]);exact⟨k3,k2.trans k4⟩
   ·exact⟨k1,k2⟩
structure ActsOk (c:ChD):Prop where
 out: ∀i,∀a∈wa c i,gd c.vars.length c.states.length a=true
 inn: ∀i,∀a∈inA c i,gd c.vars.length c.states.length a=true
 tr: ∀(n:Nat) (t:TrD),c.trans[n]? =some t-> ∀a∈t.acts,gd c.vars.length c.states.length a=true
theorem si {c:ChD} (hA:ActsOk c) {d now:Int} (hd:aJ d=true) (hn:0<=now/\now<=1099511627776): ∀ {l:List Int} {r:RunD},RunOk c r->RunOk c (bM c d now r l).1/\(bM c d now r l).1.mem=r.mem/\(bM c d now r l).1.over=r.over/\((bM c d now r l).2=none->(bM c d now r l).1.act=r.act.filter fun k=> !l.contains k)
 |[],r,h=>⟨h,rfl,rfl,fun _=>(List.filter_eq_self.2 fun _ _=>rfl).symm⟩
 | i::l,r,h=>by
   obtain⟨k1,k2⟩:=lW hd hn h (hA.out i);unfold bM;split
   ·rename_i r1 e;rw[e]at k1 k2;obtain⟨k3,k4,k5,k6⟩:=si hA (l:=l) hd hn (r:={ r1 with act:=r1.act.filter fun k=> !(k==i) }) { k1 with };refine⟨k3,k4.trans k2.mem,k5.trans k2.over,fun he=> ?_⟩;rw[k6 he];simp only;have k2a:r1.act=r.act:=k2.act;rw[k2a,List.filter_filter];apply MZ;intro k _;rw[List.contains_cons,Bool.not_or,Bool.and_comm]
   ·rename_i x hx
    exact⟨k1,k2.mem,k2.over,fun he=>absurd he (by
     intro hh;rcases hq:allP c d now r (wa c i) with⟨r1,e1⟩;rw[hq]at hh;simp only at hh;subst hh
     exact hx r1 hq)⟩
theorem Dq {c:ChD} (hA:ActsOk c) {d now:Int} (hd:aJ d=true) (hn:0<=now/\now<=1099511627776): ∀ {l:List Nat} {r:RunD},(∀n∈l,∃t,c.trans[n]? =some t)->RunOk c r->RunOk c (eo c d now r l).1/\RunSame r (eo c d now r l).1
 |[],r,_,h=>⟨h, .rfl⟩
 | n::l,r,hl,h=>by
   obtain⟨t,ht⟩:=hl n (by simp);obtain⟨k1,k2⟩:=lW (l:=(dR c n).acts) hd hn h (by rw[eP ht];exact hA.tr n t ht);unfold eo;split
   ·rename_i r1 e;rw[e]at k1 k2;obtain⟨k3,k4⟩:=Dq hA (l:=l) hd hn (fun m hm=>hl m (by simp[hm])) k1;exact⟨k3,k2.trans k4⟩
   ·exact⟨k1,k2⟩
end Go.Proofs.YtbjldjekgepopaaGreatDoor
set_option linter.unusedSimpArgs false
namespace Go.Proofs.YtbjldjekgepopaaGreatDoor
open Go.Proofs.Tryz
open Go.RowKit
set_option maxRecDepth 100000
set_option maxHeartbeats 8000000
theorem EL (env:Env) (w:WoD) (o:OpD) (R:List Int) (hs:R.length<=1000) (hk:1<=o.kind/\o.kind<=4) (h:mQ o w.vars.length w.act.length=true):Con prog env 309 [ints34 R, .agg (bp o), .agg (i8 w)] (.tuple [ints34 (R++[leafI w o]),B true]):=by
 have f0:=zc env w o hk h;have q0:o.kind<=4:=hk.2;have q1:Fits (R.length+1) 8:=aG (by omega) (by omega);have q2:ints34 (R++[leafI w o])= .seq 1 (R.map intAV++[[I (leafI w o)]]):=by rw[show R.map intAV++[[I (leafI w o)]]=(R++[leafI w o]).map intAV by simp]
 rw[q2];try clear q2
 generalize leafI w o=v at*;unfold bp i8 at f0;refine qf func309 call309 ntmps309 results309 ?_;have F:=ai4 bp.eq_1 i8.eq_1 q0 q1;repeat refine tz1 f0 ?_
 exact aR
theorem EJ (env:Env) (w:WoD) (o:OpD) (a:Int) (R:List Int) (hs:R.length<=1000) (hk:o.kind=5\/o.kind=6) (ha:aJ a=true):Con prog env 309 [ints34 (R++[a]), .agg (bp o), .agg (i8 w)] (.tuple [ints34 (R++[unI o.kind a]),B true]):=by
 have f0:=uS env o.kind a hk ha;have q0: ¬o.kind<=4:=by omega
 have q1:o.kind<=6:=by omega
 have q2:Fits (R.length+1) 8:=aG (by omega) (by omega);have e1: ∀x:Int,ints34 (R++[x])= .seq 1 (R.map intAV++[[I x]]):=fun x=>by rw[show R.map intAV++[[I x]]=(R++[x]).map intAV by simp]
 rw[e1,e1];have q4:(R.map intAV++[[I a]]).length=R.length+1:=by simp
 have q5:(R.map intAV++[[I a]])[R.length]? =some [I a]:=by rw[Ku (by simp)];simp
 have q6:(R.map intAV++[[I a]]).take R.length=R.map intAV:=by rw[MU (by simp),LP (by simp)]
 have q3:IntKind.i64.wrap (((R.length+1:Nat):Int)-1)=(R.length:Int):=(ae (by omega) (by omega)).trans (by omega);have q7:(R.length:Int)< ((R.length+1:Nat):Int):=by omega
 have q8: ¬((R.length:Int)=((R.length+1:Nat):Int)):=by omega
 have q9:(R.length:Int)<=((R.length+1:Nat):Int):=by omega
 generalize R.map intAV++[[I a]]=X at*;generalize unI o.kind a=v at*;refine qf func309 call309 ntmps309 results309 ?_;have F:=ai12 bp.eq_1 i8.eq_1 q0 q1 q2 q3 q4 q5 q6 q7 q8 q9;repeat refine tz1 f0 ?_
 exact aR
theorem EM (env:Env) (w:WoD) (o:OpD) (a b:Int) (R:List Int) (hs:R.length<=1000) (hk:7<=o.kind/\o.kind<=19) (ha:aJ a=true) (hb:aJ b=true):Con prog env 309 [ints34 (R++[a,b]), .agg (bp o), .agg (i8 w)] (.tuple [ints34 (R++[(binI o.kind a b).1]),B (binI o.kind a b).2]):=by
 have f0:=sI env o.kind a b hk ha hb;have q0: ¬o.kind<=4:=by omega
 have q1: ¬o.kind<=6:=by omega
 have q2:Fits (R.length+1) 8:=aG (by omega) (by omega);have e1: ∀x:Int,ints34 (R++[x])= .seq 1 (R.map intAV++[[I x]]):=fun x=>by rw[show R.map intAV++[[I x]]=(R++[x]).map intAV by simp]
 have e2:ints34 (R++[a,b])= .seq 1 (R.map intAV++[[I a],[I b]]):=by rw[show R.map intAV++[[I a],[I b]]=(R++[a,b]).map intAV by simp]
 rw[e1,e2];have q4:(R.map intAV++[[I a],[I b]]).length=R.length+2:=by simp
 have q5:(R.map intAV++[[I a],[I b]])[R.length]? =some [I a]:=by rw[Ku (by simp)];simp
 have p5:(R.map intAV++[[I a],[I b]])[R.length+1]? =some [I b]:=by rw[Ku (by simp)];simp
 have q6:(R.map intAV++[[I a],[I b]]).take R.length=R.map intAV:=by rw[MU (by simp),LP (by simp)]
 have q3:IntKind.i64.wrap (((R.length+2:Nat):Int)-2)=(R.length:Int):=(ae (by omega) (by omega)).trans (by omega);have p3:IntKind.i64.wrap (((R.length+2:Nat):Int)-1)=((R.length+1:Nat):Int):=(ae (by omega) (by omega)).trans (by omega);have q7:(R.length:Int)< ((R.length+2:Nat):Int):=by omega
 have p7:((R.length+1:Nat):Int)< ((R.length+2:Nat):Int):=by omega
 have q8: ¬((R.length:Int)=((R.length+2:Nat):Int)):=by omega
 have q9:(R.length:Int)<=((R.length+2:Nat):Int):=by omega
 generalize R.map intAV++[[I a],[I b]]=X at*;generalize binI o.kind a b=v at*;refine qf func309 call309 ntmps309 results309 ?_;have F:=ai12 bp.eq_1 i8.eq_1 q0 q1 q2 q3 p3 q4 q5 p5 q6<|ai4 q7 p7 q8 q9;repeat refine tz1 f0 ?_
 exact aR
theorem jW (env:Env) (w:WoD) (hw:w.Ok) (hl:w.vars.length<=1000000):Con prog env 277 [.agg (i8 w)] nilE:=by
 have f0:=bw env w.data;rw[hw.data]at f0
 have f1: ∀x∈w.vars,Con prog env 81 [I x] (B true):=fun x hx=>by
  have:=bw env x;rwa [hw.vars x hx]at this
 refine qf func277 call277 ntmps277 results277 ?_;have F:=i8.eq_1;repeat refine tz1 f0 ?_
 refine lq w.vars.length (by omega) (fun j _=>[(3,B true),(10,ints34 w.vars),(11,I w.vars.length),(12,I j)]) (fun _ _=>[]) (fun _ _ _=>True) trivial ?_ ?_
 ·rintro j vs esc hlt g1 g2 _;obtain⟨x,hx⟩:=gE hlt;have f2:=f1 x (K1 hx);have F:=ai4 intAV.eq_1 g1 g2 hx;repeat refine tz1 f2 ?_
  exact qn (j+1) ⟨hlt,trivial⟩
 rintro vs esc g1 _;have F:=g1;repeat refine st ?_
 exact aR
def jL (a2:Addr):Option Int->AV
 |some v=> .tuple [I v,nilE]
 |none=> .tuple [I 0,errV (-1) (sentV a2)]
theorem qj {vs ss n:Int} {o:OpD} (h:bh vs ss n o=true):(1<=o.kind/\o.kind<=4/\aF o.kind=0)\/((o.kind=5\/o.kind=6)/\aF o.kind=1/\1<=n)\/(7<=o.kind/\o.kind<=19/\aF o.kind=2/\2<=n):=by
 have h1:=ix h
 have h2:aF o.kind=0/\1<=o.kind/\o.kind<=4\/aF o.kind=1/\(o.kind=5\/o.kind=6)\/aF o.kind=2/\7<=o.kind/\o.kind<=19\/aF o.kind= -1:=by
  unfold aF;split
  ·rename_i hh;exact .inl ⟨rfl,hh⟩
  split
  ·rename_i hh;exact .inr (.inl ⟨rfl,hh⟩)
  split
  ·rename_i hh;exact .inr (.inr (.inl ⟨rfl,hh⟩))
  ·exact .inr (.inr (.inr rfl))
 omega
theorem He {vs ss n:Int} {o:OpD} (h:bh vs ss n o=true):mQ o vs ss=true:=by
 simp only[bh,KY]at h;exact h.2
theorem zD {w:WoD} {code:List OpD} {i:Nat} {o:OpD} {s:List Int} (h:code[i]? =some o) (hs:lc w (code.take i) []=some s):lc w (code.take (i+1)) []=d6 w o s:=by
 rw[Kv,h,kJ,hs];exact nA w o s
theorem run_stuck {w:WoD} {code:List OpD} {i:Nat} (h:lc w (code.take i) []=none):lc w code []=none:=by
 rw[<-Mq i code,kJ,h];rfl
theorem zx (env:Env) (a1 a2 a8:Addr) (he:ChEnv env a1 a8) (h2:env 2=some (sentV a2)) (w:WoD) (hw:w.Ok) (hl:w.vars.length<=1000000) (code:List OpD) (hc:cB code w.vars.length w.act.length=true):Con prog env 278 [opsAV code, .agg (i8 w)] (jL a2 (pt w code)):=by
 have f0:=jW env w hw hl;have f1:=gC env a1 a8 he code w.vars.length w.act.length;have g2:=gX h2;have f9:=bT env [118,97,108,117,101,46,69,118,97,108] a2;obtain⟨hh,hlen⟩:=tH hc;have h0:iQ code w.vars.length w.act.length=0:=by unfold cB at hc;simpa using hc
 unfold gP at f1;rw[K0 h0]at f1;have hrun:=zw w hh;have q0:(w.act.map pz).length=w.act.length:=Kl ..;have s1: ∀(o:OpD) (R:List Int),R.length<=1000->1<=o.kind/\o.kind<=4->mQ o w.vars.length w.act.length=true->_:=fun o R=>EL env w o R;have s2: ∀(o:OpD) (a:Int) (R:List Int),_:=fun o a R=>EJ env w o a R;have s3: ∀(o:OpD) (a b:Int) (R:List Int),_:=fun o a b R=>EM env w o a b R;unfold i8 at f0 s1 s2 s3 |-;refine qf func278 call278 ntmps278 results278 ?_;repeat refine yt f0 f1 ?_
 refine iB (Turned.nil 8 1 (by simp only[go_sem])) ?_;refine lp0 (D:=Nat×List Int) (fun d vs=>[(3, .loc 3 (vs 3) 0 0),(8,ints34 d.2.reverse),(31,opsAV code),(32,I code.length),(33,I d.1)]) (fun _ _=>[(3,⟨3,[[ints34 w.vars,I w.data, .seq 1 (w.act.map pz)]],306,false⟩)]) (fun d _ _=>d.1<=code.length/\lc w (code.take d.1) []=some d.2/\hgt w.vars.length w.act.length code 0=hgt w.vars.length w.act.length (code.drop d.1) d.2.length/\(∀x∈d.2,aJ x=true)/\d.2.length<=d.1) (fun d=>code.length-d.1) (0,[]) ⟨Ke _,rfl,rfl,by simp,K8 _⟩ ?_;rintro⟨i,s⟩ vs esc ⟨hi,hr,hg,hf,hsl⟩;simp only at hi hr hg hf hsl;by_cases hlt:i<code.length
 ·obtain⟨o,ho,_⟩:=aQ hlt;obtain⟨up,no⟩:=nP ho hg;have k1:=nlt hlt;have k2:=aD hlt (by omega);have hnext:=zD (w:=w) ho hr
  have hok:bh w.vars.length w.act.length s.length o=true:=by
   cases hok:bh w.vars.length w.act.length s.length o with
   |true=>rfl
   |false=>rw[no hok]at hh;cases hh
  have hg2:=up hok;have hnum:=He hok;rcases qj hok with⟨b1,b2,b3⟩|⟨b1,b3,b4⟩|⟨b1,b2,b3,b4⟩
  ·have f2:=s1 o s.reverse (by rw[M8];omega) ⟨b1,b2⟩ hnum;have hst:d6 w o s=some (leafI w o::s):=by unfold d6;rw[K0 b2]
   rw[hst]at hnext;have e1:s.reverse++[leafI w o]=(leafI w o::s).reverse:=by simp
   rw[e1]at f2;have F:=ai4 bp.eq_1 ho k1 k2;repeat refine tz1 f2 ?_
   refine⟨(i+1,leafI w o::s),⟨hlt,hnext,?_,gG hw hnum hf hst,?_⟩,?_,?_,?_⟩
   ·rw[hg2,b3]
    congr 1<;>simp
   ·simp only[Kj];omega
   ·exact qe
   ·exact qe
   ·simp only;omega
  ·match s,hr,hg,hf,hsl,hok,hg2,hnext,b4 with
   | a::s,hr,hg,hf,hsl,hok,hg2,hnext,b4=>
     have ha:=hf a (by simp);have f2:=s2 o a s.reverse (by rw[M8];simp only[Kj]at hsl;omega) b1 ha;have hst:d6 w o (a::s)=some (unI o.kind a::s):=by unfold d6;rw[KZ (by omega),K0 (by omega)]
     rw[hst]at hnext;have e1:s.reverse++[unI o.kind a]=(unI o.kind a::s).reverse:=by simp
     have e2:s.reverse++[a]=(a::s).reverse:=by simp
     rw[e1,e2]at f2;have F:=ai4 bp.eq_1 ho k1 k2;repeat refine tz1 f2 ?_
     refine⟨(i+1,unI o.kind a::s),⟨hlt,hnext,?_,gG hw hnum hf hst,?_⟩,?_,?_,?_⟩
     ·rw[hg2,b3]
      congr 1<;>simp
     ·simp only[Kj]at hsl |-;omega
     ·exact qe
     ·exact qe
     ·simp only;omega
  ·match s,hr,hg,hf,hsl,hok,hg2,hnext,b4 with
   | b::a::s,hr,hg,hf,hsl,hok,hg2,hnext,b4=>
     have hb:=hf b (by simp);have ha:=hf a (by simp);have f2:=s3 o a b s.reverse (by rw[M8];simp only[Kj]at hsl;omega) ⟨b1,b2⟩ ha hb;have hst:d6 w o (b::a::s)=if (binI o.kind a b).2 then some ((binI o.kind a b).1::s) else none:=by unfold d6;rw[KZ (by omega),KZ (by omega)]
     rw[hst]at hnext;have e1:s.reverse++[(binI o.kind a b).1]=((binI o.kind a b).1::s).reverse:=by simp
     have e2:s.reverse++[a,b]=(b::a::s).reverse:=by simp
     rw[e1,e2]at f2;cases hv:(binI o.kind a b).2 with
     | true=>
       rw[hv]at f2 hst hnext;simp only[L4]at hst hnext;have F:=ai4 bp.eq_1 ho k1 k2;repeat refine tz1 f2 ?_
       refine⟨(i+1,(binI o.kind a b).1::s),⟨hlt,hnext,?_,gG hw hnum hf hst,?_⟩,?_,?_,?_⟩
       ·rw[hg2,b3]
        congr 1
        simp only[Kj];omega
       ·simp only[Kj]at hsl |-;omega
       ·exact qe
       ·exact qe
       ·simp only;omega
     | false=>
       rw[hv]at f2 hnext;simp only[LA,Lf]at hnext;have hn:=run_stuck hnext;rw[hrun,OK]at hn;rw[hn];show awp _ _ _ _ _ _;unfold jL;have F:=ai5 bp.eq_1 ho k1 k2 g2;repeat refine tz2 f2 f9 ?_
       exact aR
 ·obtain rfl:i=code.length:=by omega
  have k1:=nl code.length;have hend:=r9 (K8 _) hg;rw[hh]at hend;rw[Kp,hrun]at hr;obtain⟨v,hv,rfl⟩:=L1.1 hr;rw[hv];unfold jL;have F:=ai4 intAV.eq_1 k1 @List.reverse_cons.{0} @List.reverse_nil.{0};repeat refine st ?_
  exact aR
theorem GB (env:Env) (a1 a2 a8:Addr) (he:ChEnv env a1 a8) (h2:env 2=some (sentV a2)) (w:WoD) (hw:w.Ok) (hl:w.vars.length<=1000000) (code:List OpD) (hc:code=[]\/cB code w.vars.length w.act.length=true) (b:Bool) (hb:iY w code=some b):Con prog env 222 [opsAV code, .agg (i8 w)] (.tuple [B b,nilE]):=by
 have f0:=jW env w hw hl;have f1:=ou env [118,97,108,117,101,46,84,114,117,101];unfold iY at hb;by_cases h0:code=[]
 ·subst h0;rw[K0 rfl]at hb;cases hb;unfold i8 at f0 |-;refine qf func222 call222 ntmps222 results222 ?_;repeat refine yt f0 f1 ?_
  exact aR0
 rw[KZ h0]at hb;have f2:=zx env a1 a2 a8 he h2 w hw hl code (hc.resolve_left h0)
 have hne:((code.length:Int)==0)=false:=by
  have:code.length≠0:=fun e=>h0 (M0.1 e);simp;omega
 obtain⟨v,hv,rfl⟩:=L1.1 hb;rw[hv]at f2;unfold jL at f2;unfold i8 at f0 f2 |-;refine qf func222 call222 ntmps222 results222 ?_;have F:=hne;repeat refine tz2 f2 f1 ?_
 exact aR
theorem EE (env:Env) (a1 a2 a8:Addr) (he:ChEnv env a1 a8) (h2:env 2=some (sentV a2)) (w:WoD) (hw:w.Ok) (hl:w.vars.length<=1000000) (code:List OpD) (hc:code=[]\/cB code w.vars.length w.act.length=true) (hb:iY w code=none):Con prog env 222 [opsAV code, .agg (i8 w)] (.tuple [B false,errV (-1) (errV (-1) (sentV a2))]):=by
 have f0:=jW env w hw hl;have f1:=fU env [118,97,108,117,101,46,84,114,117,101] (-1) (sentV a2);unfold iY at hb;by_cases h0:code=[]
 ·rw[K0 h0]at hb;cases hb
 rw[KZ h0,OK]at hb;have f2:=zx env a1 a2 a8 he h2 w hw hl code (hc.resolve_left h0)
 have hne:((code.length:Int)==0)=false:=by
  have:code.length≠0:=fun e=>h0 (M0.1 e);simp;omega
 rw[hb]at f2;unfold jL at f2;unfold i8 at f0 f2 |-;refine qf func222 call222 ntmps222 results222 ?_;have F:=hne;repeat refine tz2 f2 f1 ?_
 exact aR
end Go.Proofs.YtbjldjekgepopaaGreatDoor
set_option linter.unusedSimpArgs false
namespace Go.Proofs.YtbjldjekgepopaaGreatDoor
open Go.Proofs.Tryz
open Go.RowKit
set_option maxRecDepth 100000
set_option maxHeartbeats 8000000
end Go.Proofs.YtbjldjekgepopaaGreatDoor
set_option linter.unusedSimpArgs false
namespace Go.Proofs.YtbjldjekgepopaaGreatDoor
open Go.Proofs.Tryz
open Go.RowKit
set_option maxRecDepth 100000
set_option maxHeartbeats 16000000
def woI (w:WoD) (g:Nat->Nat):AV:= .agg [.row 1002 (g 1002),I w.data, .seq 1 (w.act.map pz)]
def tY (w:WoD):Nat×Row:=(1002,⟨1,w.vars.map intAV,3,true⟩)
theorem Ag (env:Env) (w:WoD) (o:OpD) (R:List Int) (hs:R.length<=1000) (hk:1<=o.kind/\o.kind<=4) (h:mQ o w.vars.length w.act.length=true):ConI prog env 309 [1002,27] (fun k=>k==27) (fun g=>[ints34 R, .agg (bp o),woI w g]) (fun _=>[tY w]) (fun _=>[tY w,(27,⟨1,(R++[leafI w o]).map intAV,3,true⟩)]) (fun g=> .tuple [.row 27 (g 27),B true]):=by
 have f0:=(zc env w o hk h).lend rfl;have q0:o.kind<=4:=hk.2;have q1:Fits (R.length+1) 8:=aG (by omega) (by omega);have q2:(R++[leafI w o]).map intAV=R.map intAV++[[I (leafI w o)]]:=by simp
 rw[q2];try clear q2
 generalize leafI w o=v at*;unfold bp i8 at f0;unfold woI tY;refine qi func309 call309 ntmps309 results309 ?_;intro vs esc hesc;obtain⟨e0,e1⟩:=es2 hesc;have F:=ai5 bp.eq_1 q0 q1 e0 e1;repeat refine st ?_
 refine lL f0 ?_;repeat refine st ?_
 exact rI
theorem Af (env:Env) (w:WoD) (o:OpD) (a:Int) (R:List Int) (hs:R.length<=1000) (hk:o.kind=5\/o.kind=6) (ha:aJ a=true):ConI prog env 309 [1002,51] (fun k=>k==51) (fun g=>[ints34 (R++[a]), .agg (bp o),woI w g]) (fun _=>[tY w]) (fun _=>[tY w,(51,⟨1,(R++[unI o.kind a]).map intAV,3,true⟩)]) (fun g=> .tuple [.row 51 (g 51),B true]):=by
 have f0:=uS env o.kind a hk ha;have q0: ¬o.kind<=4:=by omega
 have q1:o.kind<=6:=by omega
 have q2:Fits (R.length+1) 8:=aG (by omega) (by omega);have e1: ∀x:Int,(R++[x]).map intAV=R.map intAV++[[I x]]:=fun x=>by simp
 have e2:ints34 (R++[a])= .seq 1 (R.map intAV++[[I a]]):=by rw[show R.map intAV++[[I a]]=(R++[a]).map intAV by simp]
 rw[e1,e2];have q4:(R.map intAV++[[I a]]).length=R.length+1:=by simp
 have q5:(R.map intAV++[[I a]])[R.length]? =some [I a]:=by rw[Ku (by simp)];simp
 have q6:(R.map intAV++[[I a]]).take R.length=R.map intAV:=by rw[MU (by simp),LP (by simp)]
 have q3:IntKind.i64.wrap (((R.length+1:Nat):Int)-1)=(R.length:Int):=(ae (by omega) (by omega)).trans (by omega);have q7:(R.length:Int)< ((R.length+1:Nat):Int):=by omega
 have q8: ¬((R.length:Int)=((R.length+1:Nat):Int)):=by omega
 have q9:(R.length:Int)<=((R.length+1:Nat):Int):=by omega
 generalize hX:R.map intAV++[[I a]]=X at*;generalize unI o.kind a=v at*;unfold woI tY;refine qi func309 call309 ntmps309 results309 ?_;intro vs esc hesc;obtain⟨e0,e3⟩:=es2 hesc;have F:=ai12 bp.eq_1 q0 q1 q2 q3 q4 q5 q6 q7 q8 q9<|ai e0 e3;repeat refine tz1 f0 ?_
 exact rI
theorem Ah (env:Env) (w:WoD) (o:OpD) (a b:Int) (R:List Int) (hs:R.length<=1000) (hk:7<=o.kind/\o.kind<=19) (ha:aJ a=true) (hb:aJ b=true):ConI prog env 309 [1002,77] (fun k=>k==77) (fun g=>[ints34 (R++[a,b]), .agg (bp o),woI w g]) (fun _=>[tY w]) (fun _=>[tY w,(77,⟨1,(R++[(binI o.kind a b).1]).map intAV,3,true⟩)]) (fun g=> .tuple [.row 77 (g 77),B (binI o.kind a b).2]):=by
 have f0:=sI env o.kind a b hk ha hb;have q0: ¬o.kind<=4:=by omega
 have q1: ¬o.kind<=6:=by omega
 have q2:Fits (R.length+1) 8:=aG (by omega) (by omega);have e1: ∀x:Int,(R++[x]).map intAV=R.map intAV++[[I x]]:=fun x=>by simp
 have e2:ints34 (R++[a,b])= .seq 1 (R.map intAV++[[I a],[I b]]):=by rw[show R.map intAV++[[I a],[I b]]=(R++[a,b]).map intAV by simp]
 rw[e1,e2];have q4:(R.map intAV++[[I a],[I b]]).length=R.length+2:=by simp
 have q5:(R.map intAV++[[I a],[I b]])[R.length]? =some [I a]:=by rw[Ku (by simp)];simp
 have p5:(R.map intAV++[[I a],[I b]])[R.length+1]? =some [I b]:=by rw[Ku (by simp)];simp
 have q6:(R.map intAV++[[I a],[I b]]).take R.length=R.map intAV:=by rw[MU (by simp),LP (by simp)]
 have q3:IntKind.i64.wrap (((R.length+2:Nat):Int)-2)=(R.length:Int):=(ae (by omega) (by omega)).trans (by omega);have p3:IntKind.i64.wrap (((R.length+2:Nat):Int)-1)=((R.length+1:Nat):Int):=(ae (by omega) (by omega)).trans (by omega);have q7:(R.length:Int)< ((R.length+2:Nat):Int):=by omega
 have p7:((R.length+1:Nat):Int)< ((R.length+2:Nat):Int):=by omega
 have q8: ¬((R.length:Int)=((R.length+2:Nat):Int)):=by omega
 have q9:(R.length:Int)<=((R.length+2:Nat):Int):=by omega
 generalize hX:R.map intAV++[[I a],[I b]]=X at*;generalize binI o.kind a b=v at*;unfold woI tY;refine qi func309 call309 ntmps309 results309 ?_;intro vs esc hesc;obtain⟨e0,e3⟩:=es2 hesc;have F:=ai12 bp.eq_1 q0 q1 q2 q3 p3 q4 q5 p5 q6 q7<|ai5 p7 q8 q9 e0 e3;repeat refine tz1 f0 ?_
 exact rI
theorem FZ (env:Env) (a1 a2 a8:Addr) (he:ChEnv env a1 a8) (h2:env 2=some (sentV a2)) (w:WoD) (hw:w.Ok) (hl:w.vars.length<=1000000) (code:List OpD) (hc:cB code w.vars.length w.act.length=true):ConI prog env 278 [1002] (fun _=>false) (fun g=>[opsAV code,woI w g]) (fun _=>[tY w]) (fun _=>[tY w]) (fun _=>jL a2 (pt w code)):=by
 have f0:=(jW env w hw hl).lend rfl;have f1:=gC env a1 a8 he code w.vars.length w.act.length;have g2:=gX h2;have f9:=bT env [118,97,108,117,101,46,69,118,97,108] a2;obtain⟨hh,hlen⟩:=tH hc;have h0:iQ code w.vars.length w.act.length=0:=by unfold cB at hc;simpa using hc
 unfold gP at f1;rw[K0 h0]at f1;have hrun:=zw w hh;have q0:(w.act.map pz).length=w.act.length:=Kl ..;have s1: ∀(o:OpD) (R:List Int),R.length<=1000->1<=o.kind/\o.kind<=4->mQ o w.vars.length w.act.length=true->_:=fun o R=>Ag env w o R;have s2: ∀(o:OpD) (a:Int) (R:List Int),_:=fun o a R=>Af env w o a R;have s3: ∀(o:OpD) (a b:Int) (R:List Int),_:=fun o a b R=>Ah env w o a b R;unfold i8 at f0;unfold woI tY at*;refine qi func278 call278 ntmps278 results278 ?_;intro vs esc hesc;have e0:=hesc 1002 (by simp);have F:=e0;repeat refine st ?_
 refine lL f0 ?_;repeat refine tz1 f1 ?_
 refine iB (Turned.nil 8 1 (by simp only[go_sem])) ?_;refine lp (D:=Nat×List Int) (fun d vs=>[(3, .loc 3 (vs 3) 0 0),(8,ints34 d.2.reverse),(31,opsAV code),(32,I code.length),(33,I d.1)]) (fun _ vs=>[(3,⟨3,[[.row 1002 (vs 1002),I w.data, .seq 1 (w.act.map pz)]],306,false⟩),(1002,⟨1,w.vars.map intAV,3,true⟩)]) (fun d vs' esc=>(d.1<=code.length/\lc w (code.take d.1) []=some d.2/\hgt w.vars.length w.act.length code 0=hgt w.vars.length w.act.length (code.drop d.1) d.2.length/\(∀x∈d.2,aJ x=true)/\d.2.length<=d.1)/\vs' 1002=vs 1002/\esc 1002=false) (fun d=>code.length-d.1) (0,[]) ⟨⟨Ke _,rfl,rfl,by simp,K8 _⟩,by simp only[go_sem],by simp only[go_sem,e0]⟩ ?_;try clear e0
 rintro⟨i,s⟩ ws esc ⟨⟨hi,hr,hg,hf,hsl⟩,v0,e0⟩;simp only at hi hr hg hf hsl;by_cases hlt:i<code.length
 ·obtain⟨o,ho,_⟩:=aQ hlt;obtain⟨up,no⟩:=nP ho hg;have k1:=nlt hlt;have k2:=aD hlt (by omega);have hnext:=zD (w:=w) ho hr
  have hok:bh w.vars.length w.act.length s.length o=true:=by
   cases hok:bh w.vars.length w.act.length s.length o with
   |true=>rfl
   |false=>rw[no hok]at hh;cases hh
  have hg2:=up hok;have hnum:=He hok;refine vl 9001 rfl ?_;rcases qj hok with⟨b1,b2,b3⟩|⟨b1,b3,b4⟩|⟨b1,b2,b3,b4⟩
  ·have f2:=s1 o s.reverse (by rw[M8];omega) ⟨b1,b2⟩ hnum;have hst:d6 w o s=some (leafI w o::s):=by unfold d6;rw[K0 b2]
   rw[hst]at hnext;have e1:s.reverse++[leafI w o]=(leafI w o::s).reverse:=by simp
   rw[e1]at f2;refine eO ?_;have F:=ai5 bp.eq_1 ho k1 k2 e0;repeat refine st ?_
   refine iL [(1002,1002),(27,9001)] f2 ?_;repeat refine st ?_
   refine⟨_,Turned.frozen 9001 8 ⟨1,(leafI w o::s).reverse.map intAV,3,true⟩ rfl (LG 0) (by simp only[go_sem]) (by simp only[go_sem]),(i+1,leafI w o::s),⟨⟨hlt,hnext,?_,gG hw hnum hf hst,?_⟩,?_,?_⟩,?_,?_,?_⟩
   ·rw[hg2,b3]
    congr 1<;>simp
   ·simp only[Kj];omega
   ·simp only[go_sem,v0]
   ·simp only[go_sem,e0]
   ·exact qe
   ·exact qe
   ·simp only;omega
  ·match s,hr,hg,hf,hsl,hok,hg2,hnext,b4 with
   | a::s,hr,hg,hf,hsl,hok,hg2,hnext,b4=>
     have ha:=hf a (by simp);have f2:=s2 o a s.reverse (by rw[M8];simp only[Kj]at hsl;omega) b1 ha;have hst:d6 w o (a::s)=some (unI o.kind a::s):=by unfold d6;rw[KZ (by omega),K0 (by omega)]
     rw[hst]at hnext;have e1:s.reverse++[unI o.kind a]=(unI o.kind a::s).reverse:=by simp
     have e2:s.reverse++[a]=(a::s).reverse:=by simp
     rw[e1,e2]at f2;refine eO ?_;have F:=ai5 bp.eq_1 ho k1 k2 e0;repeat refine st ?_
     refine iL [(1002,1002),(51,9001)] f2 ?_;repeat refine st ?_
     refine⟨_,Turned.frozen 9001 8 ⟨1,(unI o.kind a::s).reverse.map intAV,3,true⟩ rfl (LG 0) (by simp only[go_sem]) (by simp only[go_sem]),(i+1,unI o.kind a::s),⟨⟨hlt,hnext,?_,gG hw hnum hf hst,?_⟩,?_,?_⟩,?_,?_,?_⟩
     ·rw[hg2,b3]
      congr 1<;>simp
     ·simp only[Kj]at hsl |-;omega
     ·simp only[go_sem,v0]
     ·simp only[go_sem,e0]
     ·exact qe
     ·exact qe
     ·simp only;omega
  ·match s,hr,hg,hf,hsl,hok,hg2,hnext,b4 with
   | b::a::s,hr,hg,hf,hsl,hok,hg2,hnext,b4=>
     have hb:=hf b (by simp);have ha:=hf a (by simp);have f2:=s3 o a b s.reverse (by rw[M8];simp only[Kj]at hsl;omega) ⟨b1,b2⟩ ha hb;have hst:d6 w o (b::a::s)=if (binI o.kind a b).2 then some ((binI o.kind a b).1::s) else none:=by unfold d6;rw[KZ (by omega),KZ (by omega)]
     rw[hst]at hnext;have e1:s.reverse++[(binI o.kind a b).1]=((binI o.kind a b).1::s).reverse:=by simp
     have e2:s.reverse++[a,b]=(b::a::s).reverse:=by simp
     rw[e1,e2]at f2;cases hv:(binI o.kind a b).2 with
     | true=>
       rw[hv]at f2 hst hnext;simp only[L4]at hst hnext;refine eO ?_;have F:=ai5 bp.eq_1 ho k1 k2 e0;repeat refine st ?_
       refine iL [(1002,1002),(77,9001)] f2 ?_;repeat refine st ?_
       refine⟨_,Turned.frozen 9001 8 ⟨1,((binI o.kind a b).1::s).reverse.map intAV,3,true⟩ rfl (LG 0) (by simp only[go_sem]) (by simp only[go_sem]),(i+1,(binI o.kind a b).1::s),⟨⟨hlt,hnext,?_,gG hw hnum hf hst,?_⟩,?_,?_⟩,?_,?_,?_⟩
       ·rw[hg2,b3]
        congr 1
        simp only[Kj];omega
       ·simp only[Kj]at hsl |-;omega
       ·simp only[go_sem,v0]
       ·simp only[go_sem,e0]
       ·exact qe
       ·exact qe
       ·simp only;omega
     | false=>
       rw[hv]at f2 hnext;simp only[LA,Lf]at hnext;have hn:=run_stuck hnext;rw[hrun,OK]at hn;rw[hn];show awp _ _ _ _ _ _;unfold jL;have F:=ai7 bp.eq_1 ho k1 k2 g2 e0 v0;repeat refine st ?_
       refine iL [(1002,1002),(77,9001)] f2 ?_;repeat refine tz1 f9 ?_
       exact rI
 ·obtain rfl:i=code.length:=by omega
  have k1:=nl code.length;have hend:=r9 (K8 _) hg;rw[hh]at hend;rw[Kp,hrun]at hr;obtain⟨v,hv,rfl⟩:=L1.1 hr;rw[hv];unfold jL;have F:=ai6 intAV.eq_1 k1 @List.reverse_cons.{0} @List.reverse_nil.{0} e0 v0;repeat refine st ?_
  exact rI
end Go.Proofs.YtbjldjekgepopaaGreatDoor
set_option linter.unusedSimpArgs false
namespace Go.Proofs.YtbjldjekgepopaaGreatDoor
open Go.Proofs.Tryz
open Go.RowKit
set_option maxRecDepth 100000
set_option maxHeartbeats 16000000
def ny (p:(List UInt8×Int)->Bool):List (List UInt8×Int)->Option Nat
 |[]=>none
 |d::l=>if p d=true then some 0 else(ny p l).map (· +1)
theorem ux {p:(List UInt8×Int)->Bool} : ∀ {l:List (List UInt8×Int)} {i:Nat},ny p l=some i->i<l.length/\l.take i=(l.take i).filter (fun d=> !p d)/\ ∃d,l[i]? =some d/\p d=true
 |[],i,h=>by simp[ny]at h
 | d::l,i,h=>by
   unfold ny at h;split at h
   ·rename_i hp;cases h;exact⟨by simp,by simp,d,rfl,hp⟩
   ·rename_i hp;cases hi:ny p l with
    |none=>rw[hi]at h;cases h
    | some j=>
      rw[hi]at h;cases h;obtain⟨h1,h2,x,h3,h4⟩:=ux hi;refine⟨by simp;omega,?_,x,by simpa using h3,h4⟩;have hp:p d=false:=by simpa using hp
      simp only[List.take_succ_cons,MO,hp,Li,L4];rw[<-h2]
theorem uy {p:(List UInt8×Int)->Bool} : ∀ {l:List (List UInt8×Int)},ny p l=none->l.filter (fun d=> !p d)=l/\ ∀d∈l,p d=false
 |[],h=>by simp
 | d::l,h=>by
   unfold ny at h;split at h
   ·cases h
   ·rename_i hp;have hp:p d=false:=by simpa using hp
    cases hi:ny p l with
    |some j=>rw[hi]at h;cases h
    | none=>
      obtain⟨h1,h2⟩:=uy hi;refine⟨by simp only[MO,hp,Li,L4,h1],fun x hx=> ?_⟩;rcases Kk.1 hx with rfl|hx
      ·exact hp
      ·exact h2 x hx
theorem FH {p:(List UInt8×Int)->Bool} {l:List (List UInt8×Int)} {n:Nat} {d:(List UInt8×Int)} (hd:l[n]? =some d):ny p (l.drop n)=if p d=true then some 0 else(ny p (l.drop (n+1))).map (· +1):=by
 rw[bE hd];rfl
theorem y8 (env:Env) (l:List (List UInt8×Int)) (p:(List UInt8×Int)->Bool) (g:FuncId) (caps:List (List AV)) (hp: ∀d,Con prog env g [.agg (tmAV d), .ref 1 caps 0 0] (B (p d))) (hl:l.length<=4096):Con prog env 353 [.seq 2 (l.map tmAV), .clo g [.ref 1 caps 0 0]] (I (lJ (ny p l))):=by
 refine qf func353 call353 ntmps353 results353 ?_;repeat refine st0 ?_
 refine lq0 l.length (by omega) (fun n vs=>[(0, .seq 2 (l.map tmAV)),(1, .clo g [.ref 1 caps 0 0]),(7,I l.length),(8,I n)]) (fun n vs=>[]) (fun n _ esc=>ny p l=(ny p (l.drop n)).map (· +n)) (by simp) ?_ ?_
 ·rintro n vs esc hlt g1 g2 hi;obtain⟨d,hd⟩:=gE hlt;have f1:=hp d;unfold tmAV at f1;rw[FH hd]at hi;cases h1:p d
  ·rw[h1]at hi f1;simp only[LA,Lf]at hi;have F:=ai4 tmAV.eq_1 hd g1 g2;repeat refine st ?_
   refine oC (bo rfl (by simp only[go_sem,F];exact iR)) (f1) (by simp only[go_sem,F];exact iR) (by simp only[go_sem,F];exact⟨rfl,rfl⟩) ?_;repeat refine st ?_
   refine⟨n+1,⟨hlt,?_⟩,?_,?_,?_⟩
   ·rw[hi];cases ny p (l.drop (n+1))
    ·rfl
    ·simp;omega
   ·exact qe
   ·exact qe
   ·omega
  ·rw[h1]at hi f1;simp only[L4,Kg,Lc]at hi;rw[hi];have F:=ai6 tmAV.eq_1 hd g1 g2 lJ.eq_1 lJ.eq_2;repeat refine st ?_
   refine oC (bo rfl (by simp only[go_sem,F];exact iR)) (f1) (by simp only[go_sem,F];exact iR) (by simp only[go_sem,F];exact⟨rfl,rfl⟩) ?_;repeat refine st ?_
   exact aR
 ·rintro vs esc g1 hi;rw[Ly (by omega)]at hi;rw[hi];have F:=ai5 g1 lJ.eq_1 lJ.eq_2 ny.eq_1 ny.eq_2;repeat refine st ?_
  exact aR
theorem wL (env:Env) (l:List (List UInt8×Int)) (p:(List UInt8×Int)->Bool) (g:FuncId) (G:List UInt8) (te:TypeId) (hp: ∀d,Con prog env g [.agg (tmAV d), .ref 1 [[Sg G]] 0 0] (B (p d))) (hl:l.length<=4096):
 ConI prog env 340 [1000,1001] (fun k=>k==1000) (fun vs=>[.row 1000 (vs 1000), .clo g [.loc 1001 (vs 1001) 0 0]]) (fun _=>[(1000,⟨2,l.map tmAV,108,true⟩),(1001,⟨1,[[Sg G]],te,false⟩)]) (fun _=>[(1000,⟨2,(l.filter fun d=> !p d).map tmAV,108,true⟩),(1001,⟨1,[[Sg G]],te,false⟩)]) (fun vs=> .row 1000 (vs 1000)):=by
 have f0:=(y8 env l p g [[Sg G]] hp hl).lend rfl;cases hi:ny p l with
 | none=>
   rw[hi]at f0;obtain⟨h1,_⟩:=uy hi;rw[h1];refine qi func340 call340 ntmps340 results340 ?_;intro vs esc hesc;obtain⟨e0,e1⟩:=es2 hesc;have F:=ai4 e0 e1 lJ.eq_1 lJ.eq_2;repeat refine st ?_
   refine lL f0 ?_;repeat refine st ?_
   exact rI
 | some i0=>
   rw[hi]at f0;obtain⟨h1,h2,d0,h3,h4⟩:=ux hi;have g0:((i0:Int) == -1)=false:=by simp
   have g1:=aD h1 (by omega);refine qi func340 call340 ntmps340 results340 ?_;intro vs esc hesc;obtain⟨e0,e1⟩:=es2 hesc;have F:=ai6 e0 e1 lJ.eq_1 lJ.eq_2 g0 g1;repeat refine st ?_
   refine lL f0 ?_;repeat refine st ?_
   refine aK (D:=Nat×List (List UInt8×Int)) (fun x vs'=>[(0, .row 1000 (vs' 1000)),(1, .clo g [.loc 1001 (vs' 1001) 0 0]),(5,I (((l.take x.1).filter fun d=> !p d).length:Int)),(6,I (x.1:Int))]) (fun x vs'=>[(1000,⟨2,x.2.map tmAV,108,true⟩),(1001,⟨1,[[Sg G]],te,false⟩)]) (fun x vs' esc'=>(x.1<=l.length/\x.2.length=l.length/\((l.take x.1).filter fun d=> !p d).length<x.1/\x.2.take ((l.take x.1).filter fun d=> !p d).length=(l.take x.1).filter (fun d=> !p d)/\x.2.drop x.1=l.drop x.1)/\vs' 1001=vs 1001/\esc' 1000=false/\esc' 1001=false) (fun x=>l.length-x.1) (i0+1,l) ?_ ?_ ?_ ?_
   ·have hq:(l.take (i0+1)).filter (fun d=> !p d)=l.take i0:=by
     rw[cg h3,LL, <-h2];simp[h4]
    refine⟨⟨h1,rfl,?_,?_,rfl⟩,by simp only[go_sem],by simp only[go_sem,e0],by simp only[go_sem,e1]⟩
    ·rw[hq,Kf];omega
    ·simp only;rw[hq,Kf,Mg (by omega)]
   ·have hq:((l.take (i0+1)).filter fun d=> !p d).length=i0:=by
     rw[cg h3,LL, <-h2];simp[h4];omega
    simp only[hq];exact qe
   ·exact qe
   try clear e0 e1 g0 g1 h1 h2 h3 h4 hi
   rintro⟨j,L⟩ ws es ⟨⟨hj,hL,hc,ht,hd⟩,v1,e0,e1⟩;simp only at hj hL hc ht hd;generalize hcn:((l.take j).filter fun d=> !p d).length=c at*;by_cases hlt:j<l.length
   ·obtain⟨d,hx⟩:=gE hlt
    have hxL:L[j]? =some d:=by
     have:=Kx (fun q:List (List UInt8×Int)=>q[0]?) hd;simpa[hx]using this
    have f1:=hp d;unfold tmAV at f1;have g1:(j:Int)< (L.length:Int):=by omega
    have g2:=aD hlt (by omega);have g3:=cg hx;cases h1:p d
    ·rw[h1]at f1;obtain⟨y,hy⟩: ∃x,L[c]? =some x:=⟨L[c]'(by omega),KV (by omega)⟩;have g4:(c:Int)< (L.length:Int):=by omega
     have g5:IntKind.i64.wrap ((c:Int)+1)=((c+1:Nat):Int):=aD (show c<l.length by omega) (by omega);have hq:((l.take (j+1)).filter fun d=> !p d)=(l.take j).filter (fun d=> !p d)++[d]:=by rw[g3,LL];simp[h1]
     have hs:(L.map tmAV).set c [Sg d.1,I d.2]=(L.set c d).map tmAV:=by rw[NX];rfl
     have F:=ai10 tmAV.eq_1 hxL hy e0 e1 g1 g2 g4 g5 hs;repeat refine st ?_
     refine oL (bo rfl (by simp only[go_sem,F];exact iR)) (f1.lend rfl) (by simp only[go_sem,F];exact iR) (by simp only[go_sem,F];exact⟨rfl,rfl⟩) ?_;repeat refine st ?_
     refine⟨(j+1,L.set c d),⟨⟨hlt,by simpa using hL,?_,?_,?_⟩,?_,?_,?_⟩,?_,?_,?_⟩
     ·simp only[hq,K4,Le,hcn];omega
     ·simp only[hq,K4,Le,hcn];rw[<-ht];apply LQ;intro k;rw[Kz,Ln];by_cases hk:k<c
      ·rw[K0 (by omega),KZ (by omega),LB (by simp;omega),Kz,K0 hk]
      ·by_cases hk2:k=c
       ·subst hk2;rw[K0 (by omega),K0 rfl,K0 (by omega),Ku (by rw[Kf];omega),Kf,Mg (by omega)];simp
       ·rw[KZ (by omega),K7 (by rw[K4,Kf,Le];omega)]
     ·simp only;rw[List.drop_set_of_lt (by omega)];have:=Kx (List.drop 1) hd;simpa[OL]using this
     ·simp only[go_sem,v1]
     ·simp only[go_sem,e0]
     ·simp only[go_sem,e1]
     ·have hq2:((l.take (j+1)).filter fun d=> !p d).length=c+1:=by rw[hq,K4,hcn];rfl
      simp only[hq2];exact qe
     ·exact qe
     ·simp only;omega
    ·rw[h1]at f1;have hq:((l.take (j+1)).filter fun d=> !p d)=(l.take j).filter (fun d=> !p d):=by rw[g3,LL];simp[h1]
     have F:=ai6 tmAV.eq_1 hxL e0 e1 g1 g2;repeat refine st ?_
     refine oL (bo rfl (by simp only[go_sem,F];exact iR)) (f1.lend rfl) (by simp only[go_sem,F];exact iR) (by simp only[go_sem,F];exact⟨rfl,rfl⟩) ?_;repeat refine st ?_
     refine⟨(j+1,L),⟨⟨hlt,hL,?_,?_,?_⟩,?_,?_,?_⟩,?_,?_,?_⟩
     ·simp only[hq,hcn];omega
     ·simp only[hq,hcn];exact ht
     ·simp only;have:=Kx (List.drop 1) hd;simpa[OL]using this
     ·simp only[go_sem,v1]
     ·simp only[go_sem,e0]
     ·simp only[go_sem,e1]
     ·simp only[hq,hcn];exact qe
     ·exact qe
     ·simp only;omega
   ·have g1: ¬(j:Int)< (L.length:Int):=by omega
    have hjl:l.take j=l:=LP (by omega);rw[hjl]at ht hcn;have g4:(c:Int)<=(L.length:Int):=by omega
    have g5:c<=L.length:=by omega
    have g6: ∀X:List (List AV),((L.take c).map tmAV++X).take c=(l.filter fun d=> !p d).map tmAV:=fun X=>by
     rw[NC (by rw[Kl,Kf];omega),ht]
    have g7:c+(L.length-c)=L.length:=by omega
    have g8:min c L.length=c:=by omega
    have F:=ai11 v1 e0 e1 @Kf.{0} @List.length_replicate.{0} g1 g4 g5 g6 g7 g8;repeat refine st ?_
    exact rI
end Go.Proofs.YtbjldjekgepopaaGreatDoor
namespace Go.Proofs.YtbjldjekgepopaaGreatDoor
open Go.Proofs.Tryz
open Go.RowKit Go.Sort Go.Shelf Go.Lib
section
variable {α:Type} [Inhabited α]
theorem rf (enc:α->List Value) (k:Nat) (hk: ∀x,(enc x).length=k) (d:List α):flatK enc k d.toArray=(d.map enc).flatten.toArray:=by
 have hz: ∀l∈d.map enc,l.length=k:=fun l hl=>by
  obtain⟨x,_,rfl⟩:=K9.1 hl;exact hk x
 have hl:=da (d.map enc) hz;apply Array.ext';apply LQ;intro p;by_cases hp:p<d.length*k
 ·have hk0:0<k:=by
   rcases Nat.eq_zero_or_pos k with h|h
   ·subst h;simp at hp
   ·exact h
  have hi:p/k<d.length:=NK (by rw[Mf];exact hp);have hj:p%k<k:=N9 _ hk0;have h1:=eh (d.map enc) hz (p/k) (p%k) (enc d[p/k]) ((enc d[p/k])[p%k]'(by rw[hk];exact hj)) (by simp[hi]) (KV _);rw[Nf]at h1;rw[Nk,h1,Mr];simp[flatK,hp,hi,hk,hj]
 ·rw[K7 (by simp;omega),K7 (by simp[hl];omega)]
theorem qR {P:Program} {ρ:Ren} (L:SlLaysF0.n6 P ρ) {e:TypeId} (k:Nat) (aE: ∀w,(isAgg (ρ.t 24)).run P w= .ok true w) (zE: ∀w,(Go.sizeOf (ρ.t 24)).run P w= .ok k w) (enc:α->List Value) (hk: ∀x,(enc x).length=k) (h1: ∀x,∀v∈enc x,v.oneCell'=true)
 (cf:α->α->Int) (hO:SWO (ltOf cf)) (g:Nat) (cb:Array Value) (d:List α) (hd:0<d.length) (hsz:d.length<4611686018427387904) (ef: ∀(args:Array Value) (w:World),(callFunc (ρ.f 6) args).run P w= .ok (.enter (ρ.f 6) args) w) (eg: ∀args w,(callFunc g args).run P w= .ok (.enter g args) w)
 (hcmp: ∀blk w,CmpLays P g cb enc k cf blk 0 d.length w) (hT: ∀x y,(ltOf cf) x y=false->(ltOf cf) y x=false->x=y):
 Turns P (ρ.f 6) [.func (.func g) #[] cb] e k (d.map enc) ((d.mergeSort fun x y=> !(ltOf cf) y x).map enc):=by
 refine jY (by simpa using hd) ef (by simp) (fun l hl=> ?_) (fun l hl=> ?_) fun w b cap hH hb=> ?_
 ·obtain⟨x,_,rfl⟩:=K9.1 hl;exact hk x
 ·obtain⟨x,_,rfl⟩:=K9.1 hl;exact⟨hk x,h1 x⟩
 ·have:=AnyQ.slices_SortFunc_total L k aE zE enc hk h1 cf hO g cb b 0 cap d.toArray w eg (by simpa using hcmp b w) (by unfold HoldsK;rw[rf enc k hk];exact hH) hb (by simpa using hsz) hT;rw[Kl];refine(by simpa using this:Calls P (ρ.f 6) #[.slice (some ⟨b,0,none⟩) d.length cap, .func (.func g) #[] cb] w _).mono ?_;rintro ex w' ⟨rfl,n,os,rfl⟩;refine⟨rfl,n,os,?_⟩;unfold sortWorldK putRowK;rw[rf enc k hk]
end
end Go.Proofs.YtbjldjekgepopaaGreatDoor
namespace Go.Proofs
open Go.Shelf
def Tryz.sortTm_ren:Go.Shelf.Ren:=⟨fun|6=>342|15=>207|14=>354|28=>265|29=>266|20=>357|21=>358|22=>359|23=>360|24=>361|25=>362|26=>363|27=>364|46=>366|47=>298|48=>299|49=>367|50=>368|57=>370|n=>n,fun|22=>29|24=>108|25=>392|3=>3|39=>286|0=>0|53=>209|55=>227|4=>4|46=>334|45=>333|50=>220|5=>5|9=>9|66=>359|70=>363|76=>378|77=>122|n=>n,fun|n=>n⟩
theorem Tryz.sortTm:Go.Proofs.SlLaysF0.n6 prog Tryz.sortTm_ren:={
 mixed:=by kernel_rfl
 f6:=⟨Tryz.f342.name,by decide,func342.trans (congrArg some (by kernel_rfl))⟩
 f14:=⟨Tryz.f354.name,by decide,func354.trans (congrArg some (by kernel_rfl))⟩
 f15:=func207.trans (congrArg some (by kernel_rfl))
 f20:=⟨Tryz.f357.name,by decide,func357.trans (congrArg some (by kernel_rfl))⟩
 f21:=⟨Tryz.f358.name,by decide,func358.trans (congrArg some (by kernel_rfl))⟩
 f22:=⟨Tryz.f359.name,by decide,func359.trans (congrArg some (by kernel_rfl))⟩
 f23:=⟨Tryz.f360.name,by decide,func360.trans (congrArg some (by kernel_rfl))⟩
 f24:=⟨Tryz.f361.name,by decide,func361.trans (congrArg some (by kernel_rfl))⟩
 f25:=⟨Tryz.f362.name,by decide,func362.trans (congrArg some (by kernel_rfl))⟩
 f26:=⟨Tryz.f363.name,by decide,func363.trans (congrArg some (by kernel_rfl))⟩
 f27:=⟨Tryz.f364.name,by decide,func364.trans (congrArg some (by kernel_rfl))⟩
 f28:=func265.trans (congrArg some (by kernel_rfl))
 f29:=func266.trans (congrArg some (by kernel_rfl))
 f46:=⟨Tryz.f366.name,by decide,func366.trans (congrArg some (by kernel_rfl))⟩
 f47:=func298.trans (congrArg some (by kernel_rfl))
 f48:=func299.trans (congrArg some (by kernel_rfl))
 f49:=⟨Tryz.f367.name,by decide,func367.trans (congrArg some (by kernel_rfl))⟩
 f50:=⟨Tryz.f368.name,by decide,func368.trans (congrArg some (by kernel_rfl))⟩
 f57:=⟨Tryz.f370.name,by decide,func370.trans (congrArg some (by kernel_rfl))⟩
 t0:=Tryz.underlying0
 a0:=Tryz.isAgg0
 z0:=Tryz.sizeOf0
 v0:=Tryz.zeroValue0
 t3:=Tryz.underlying3
 a3:=Tryz.isAgg3
 z3:=Tryz.sizeOf3
 v3:=Tryz.zeroValue3
 t4:=Tryz.underlying4
 a4:=Tryz.isAgg4
 z4:=Tryz.sizeOf4
 v4:=Tryz.zeroValue4
 t5:=Tryz.underlying5
 a5:=Tryz.isAgg5
 z5:=Tryz.sizeOf5
 v5:=Tryz.zeroValue5
 t9:=Tryz.underlying9
 a9:=Tryz.isAgg9
 z9:=Tryz.sizeOf9
 v9:=Tryz.zeroValue9
 t22:=Tryz.underlying29
 a22:=Tryz.isAgg29
 z22:=Tryz.sizeOf29
 v22:=Tryz.zeroValue29
 t25:=Tryz.underlying392
 a25:=Tryz.isAgg392
 z25:=Tryz.sizeOf392
 v25:=Tryz.zeroValue392
 t39:=Tryz.underlying286
 a39:=Tryz.isAgg286
 z39:=Tryz.sizeOf286
 v39:=Tryz.zeroValue286
 t45:=Tryz.underlying333
 a45:=Tryz.isAgg333
 z45:=Tryz.sizeOf333
 v45:=Tryz.zeroValue333
 t46:=Tryz.underlying334
 a46:=Tryz.isAgg334
 z46:=Tryz.sizeOf334
 v46:=Tryz.zeroValue334
 t50:=Tryz.underlying220
 a50:=Tryz.isAgg220
 z50:=Tryz.sizeOf220
 v50:=Tryz.zeroValue220
 t53:=Tryz.underlying209
 a53:=Tryz.isAgg209
 z53:=Tryz.sizeOf209
 v53:=Tryz.zeroValue209
 t55:=Tryz.underlying227
 a55:=Tryz.isAgg227
 z55:=Tryz.sizeOf227
 v55:=Tryz.zeroValue227
 t66:=Tryz.underlying359
 a66:=Tryz.isAgg359
 z66:=Tryz.sizeOf359
 v66:=Tryz.zeroValue359
 t70:=Tryz.underlying363
 a70:=Tryz.isAgg363
 z70:=Tryz.sizeOf363
 v70:=Tryz.zeroValue363
 t76:=Tryz.underlying378
 a76:=Tryz.isAgg378
 z76:=Tryz.sizeOf378
 v76:=Tryz.zeroValue378
 t77:=Tryz.underlying122
 a77:=Tryz.isAgg122
 z77:=Tryz.sizeOf122
 v77:=Tryz.zeroValue122 }
end Go.Proofs
