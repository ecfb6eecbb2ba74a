/- The sort of timers of the library: the shelf's contract laid at this program (written by the kit's lay-plain.mjs, its numbers by name). -/
import Derived.Test.YtbpmkofnfgdegaaGreatDoorQ22
import Derived.Test.YtbpmkofnfgdegaaGreatDoorQ8
import Derived.Test.YtbpmkofnfgdegaaGreatDoorQ6
import Derived.Test.YtbpmkofnfgdegaaGreatDoorQ17
import Derived.Test.YtbpmkofnfgdegaaGreatDoorQ11
import Derived.Test.YtbpmkofnfgdegaaGreatDoorQ20
import Derived.Test.YtbpmkofnfgdegaaGreatDoorQ4
import Derived.Shelf.SlSortCmp.NoneTotal
import Derived.Ground.SlsfProg
import Derived.Test.YtbpmkofnfgdegaaGreatDoorProg
namespace Go.Proofs.YtbpmkofnfgdegaaGreatDoor
open Go.Proofs.Tryz
open Go.RowKit
/-! Timers by their names -/
def TmOk (x:List UInt8×Int):Prop:=zbi x.1=true/\0<=x.2/\x.2<=1099511627776
structure TmsOk (l:List (List UInt8×Int)):Prop where
 rise:l.Pairwise fun a b=>Op.bytesLess a.1 b.1=true
 each: ∀x∈l,TmOk x
theorem TmsOk.without {l:List (List UInt8×Int)} (h:TmsOk l) (s:List UInt8):TmsOk (without l s):=⟨h.rise.sublist List.filter_sublist,fun x hx=>h.each x (List.mem_filter.1 hx).1⟩
theorem ziq {l:List (List UInt8×Int)} {s:List UInt8} : ∀x∈without l s,x.1≠s:=fun x hx=>by
 have:=(List.mem_filter.1 hx).2;simpa using this
theorem zgW (l:List (List UInt8×Int)) (s:List UInt8):(without l s).length<=l.length:=List.length_filter_le ..
theorem zmX {x y:List UInt8×Int} : ∀ {l:List (List UInt8×Int)},y∈insT x l↔y=x\/y∈l
 |[]=>by simp[insT]
 | z::l=>by
   unfold insT;split
   ·simp
   ·rw[List.mem_cons,zmX,List.mem_cons];constructor
    ·rintro(h|h|h)
     ·exact .inr (.inl h)
     ·exact .inl h
     ·exact .inr (.inr h)
    ·rintro(h|h|h)
     ·exact .inr (.inl h)
     ·exact .inl h
     ·exact .inr (.inr h)
theorem zr1 (x:List UInt8×Int): ∀l,(insT x l).length=l.length+1
 |[]=>rfl
 | z::l=>by
   unfold insT;split
   ·rfl
   ·rw[List.length_cons,zr1 x l,List.length_cons]
theorem zjT {x:List UInt8×Int} : ∀ {l:List (List UInt8×Int)},(l.Pairwise fun a b=>Op.bytesLess a.1 b.1=true)->(∀y∈l,y.1≠x.1)->(insT x l).Pairwise fun a b=>Op.bytesLess a.1 b.1=true
 |[],_,_=>List.pairwise_singleton ..
 | z::l,h,hn=>by
   obtain⟨h1,h2⟩:=List.pairwise_cons.1 h;unfold insT;split
   ·rename_i hb;refine List.pairwise_cons.2 ⟨fun y hy=> ?_,h⟩;rcases List.mem_cons.1 hy with rfl|hy
    ·exact hb
    ·exact zcy hb (h1 y hy)
   ·rename_i hb;refine List.pairwise_cons.2 ⟨fun y hy=> ?_,zjT h2 fun y hy=>hn y (List.mem_cons_of_mem _ hy)⟩;rcases zmX.1 hy with rfl|hy
    ·cases hq:Op.bytesLess z.1 y.1 with
     |true=>rfl
     |false=>exact absurd (zcz hq (by simpa using hb)) (hn z (by simp))
    ·exact h1 y hy
theorem TmsOk.ins {l:List (List UInt8×Int)} (h:TmsOk l) {x:List UInt8×Int} (hx:TmOk x) (hn: ∀y∈l,y.1≠x.1):TmsOk (insT x l):=⟨zjT h.rise hn,fun y hy=>by
 rcases zmX.1 hy with rfl|hy
 ·exact hx
 ·exact h.each y hy⟩
/-! Actions -/
structure RunOk (c:ChD) (r:RunD):Prop where
 len:r.vars.length=c.vars.length
 vars: ∀x∈r.vars,zai x=true
 tms:TmsOk r.tms
 tml:r.tms.length<=8
 outs:r.outs.length<=256
 rais:r.rais.length<=16
structure RunSame (r r1:RunD):Prop where
 act:r1.act=r.act
 mem:r1.mem=r.mem
 over:r1.over=r.over
theorem RunSame.rfl {r:RunD} :RunSame r r:=⟨Eq.refl _,Eq.refl _,Eq.refl _⟩
theorem RunSame.trans {r r1 r2:RunD} (h:RunSame r r1) (k:RunSame r1 r2):RunSame r r2:=⟨k.act.trans h.act,k.mem.trans h.mem,k.over.trans h.over⟩
theorem zjt {c:ChD} {r:RunD} (h:RunOk c r) (s:List UInt8) (v:Int):RunOk c (raiseP r s v).1/\RunSame r (raiseP r s v).1:=by
 unfold raiseP;split
 ·exact⟨h, .rfl⟩
 ·rename_i hl;refine⟨{ h with rais:= ?_ },⟨rfl,rfl,rfl⟩⟩;simp only[List.length_append,List.length_singleton];omega
theorem zka {l:List OpD} {vs ss:Int} (h:zbQ l vs ss=true):hgt vs ss l 0=some 1/\l.length<=32:=by
 unfold zbQ at h;rw[beq_iff_eq]at h;unfold zeM at h;split at h
 ·omega
 ·rename_i hl;split at h
  ·rename_i hh;exact⟨hh,by omega⟩
  ·omega
theorem zu7 {c:ChD} {r:RunD} (h:RunOk c r) {d:Int} (hd:zai d=true):(woR c d r).Ok:=⟨h.vars,hd⟩
theorem zwL {c:ChD} {d now:Int} (hd:zai d=true) (hn:0<=now/\now<=1099511627776) {r:RunD} (h:RunOk c r) {a:ActD} (ha:actB c.vars.length c.states.length a=true):RunOk c (doP c d now r a).1/\RunSame r (doP c d now r a).1:=by
 unfold doP;split
 ·exact⟨{ h with tms:=h.tms.without _,tml:=Nat.le_trans (zgW ..) h.tml },⟨rfl,rfl,rfl⟩⟩
 rename_i h5;split
 ·exact⟨h, .rfl⟩
 rename_i v hv
 have hcode:zbQ a.code c.vars.length c.states.length=true:=by
  unfold actB at ha;repeat' split at ha
  all_goals (first|(exact absurd ‹a.kind=5› h5)|(simp only[Bool.and_eq_true]at ha;exact ha.2)|cases ha)
 have hfit:=zsG (zu7 h hd) (zka hcode).1 hv;split
 ·refine⟨{ h with len:=by simp only[List.length_set];exact h.len,vars:=fun x hx=> ?_ },⟨rfl,rfl,rfl⟩⟩;rcases List.mem_or_eq_of_mem_set hx with hx|rfl
  ·exact h.vars x hx
  ·exact hfit
 split
 ·exact zjt h _ _
 split
 ·rename_i h1 h2 h4;unfold startP;split
  ·exact⟨h, .rfl⟩
  rename_i hr;split
  ·exact⟨{ h with tms:=h.tms.without _,tml:=Nat.le_trans (zgW ..) h.tml },⟨rfl,rfl,rfl⟩⟩
  rename_i hl
  have hname:zbi a.name=true:=by
   unfold actB at ha;rw[if_neg h1,if_pos (.inr h4)]at ha;simp only[Bool.and_eq_true]at ha;exact ha.1.2
  refine⟨{ h with tms:=(h.tms.without _).ins ⟨hname,?_⟩ ziq,tml:=by simp only[zr1];omega },⟨rfl,rfl,rfl⟩⟩;simp only;omega
 ·unfold outP;split
  ·exact⟨h, .rfl⟩
  ·refine⟨{ h with outs:= ?_ },⟨rfl,rfl,rfl⟩⟩;simp only[List.length_append,List.length_singleton];omega
theorem zgt {c:ChD} {d now:Int} (hd:zai d=true) (hn:0<=now/\now<=1099511627776): ∀ {l:List ActD} {r:RunD},RunOk c r->(∀a∈l,actB c.vars.length c.states.length a=true)->RunOk c (allP c d now r l).1/\RunSame r (allP c d now r l).1
 |[],r,h,_=>⟨h, .rfl⟩
 | a::l,r,h,ha=>by
   obtain⟨k1,k2⟩:=zwL hd hn h (ha a (by simp));unfold allP;split
   ·rename_i r1 e;rw[e]at k1 k2;obtain⟨k3,k4⟩:=zgt (l:=l) hd hn k1 fun b hb=>ha b (by simp[hb]);exact⟨k3,k2.trans k4⟩
   ·exact⟨k1,k2⟩
structure ActsOk (c:ChD):Prop where
 out: ∀i,∀a∈outA c i,actB c.vars.length c.states.length a=true
 inn: ∀i,∀a∈inA c i,actB c.vars.length c.states.length a=true
 tr: ∀(n:Nat) (t:TrD),c.trans[n]? =some t-> ∀a∈t.acts,actB c.vars.length c.states.length a=true
theorem zjM {c:ChD} (hA:ActsOk c) {d now:Int} (hd:zai d=true) (hn:0<=now/\now<=1099511627776): ∀ {l:List Int} {r:RunD},RunOk c r->RunOk c (zbn c d now r l).1/\(zbn c d now r l).1.mem=r.mem/\(zbn c d now r l).1.over=r.over/\((zbn c d now r l).2=none->(zbn c d now r l).1.act=r.act.filter fun k=> !l.contains k)
 |[],r,h=>⟨h,rfl,rfl,fun _=>(List.filter_eq_self.2 fun _ _=>rfl).symm⟩
 | i::l,r,h=>by
   obtain⟨k1,k2⟩:=zgt hd hn h (hA.out i);unfold zbn;split
   ·rename_i r1 e;rw[e]at k1 k2;obtain⟨k3,k4,k5,k6⟩:=zjM hA (l:=l) hd hn (r:={ r1 with act:=r1.act.filter fun k=> !(k==i) }) { k1 with };refine⟨k3,k4.trans k2.mem,k5.trans k2.over,fun he=> ?_⟩;rw[k6 he];simp only;have k2a:r1.act=r.act:=k2.act;rw[k2a,List.filter_filter];apply List.filter_congr;intro k _;rw[List.contains_cons,Bool.not_or,Bool.and_comm]
   ·rename_i x hx
    exact⟨k1,k2.mem,k2.over,fun he=>absurd he (by
     intro hh;rcases hq:allP c d now r (outA c i) with⟨r1,e1⟩;rw[hq]at hh;simp only at hh;subst hh
     exact hx r1 hq)⟩
theorem ztu {c:ChD} (hA:ActsOk c) {d now:Int} (hd:zai d=true) (hn:0<=now/\now<=1099511627776): ∀ {l:List Nat} {r:RunD},(∀n∈l,∃t,c.trans[n]? =some t)->RunOk c r->RunOk c (zeq c d now r l).1/\RunSame r (zeq c d now r l).1
 |[],r,_,h=>⟨h, .rfl⟩
 | n::l,r,hl,h=>by
   obtain⟨t,ht⟩:=hl n (by simp);obtain⟨k1,k2⟩:=zgt (l:=(trAt c n).acts) hd hn h (by rw[zci ht];exact hA.tr n t ht);unfold zeq;split
   ·rename_i r1 e;rw[e]at k1 k2;obtain⟨k3,k4⟩:=ztu hA (l:=l) hd hn (fun m hm=>hl m (by simp[hm])) k1;exact⟨k3,k2.trans k4⟩
   ·exact⟨k1,k2⟩
end Go.Proofs.YtbpmkofnfgdegaaGreatDoor
set_option linter.unusedSimpArgs false
namespace Go.Proofs.YtbpmkofnfgdegaaGreatDoor
open Go.Proofs.Tryz
open Go.RowKit
set_option maxRecDepth 100000
set_option maxHeartbeats 8000000
theorem zqR (env:Env) (w:WoD) (o:OpD) (R:List Int) (hs:R.length<=1000) (hk:1<=o.kind/\o.kind<=4) (h:numB o w.vars.length w.act.length=true):Con prog env 234 [ints34 R, .agg (opAV o), .agg (woAV w)] (.tuple [ints34 (R++[leafI w o]),B true]):=by
 have f0:=zod env w o hk h;have q0:o.kind<=4:=hk.2;have q1:Fits (R.length+1) 8:=zae (by omega) (by omega);have q2:ints34 (R++[leafI w o])= .seq 1 (R.map intAV++[[I (leafI w o)]]):=by rw[show R.map intAV++[[I (leafI w o)]]=(R++[leafI w o]).map intAV by simp]
 rw[q2];try clear q2
 generalize leafI w o=v at*;unfold opAV woAV at f0;refine qf func234 call234 ntmps234 results234 ?_;have F:=ai4 opAV.eq_1 woAV.eq_1 q0 q1;repeat refine tz1 f0 ?_
 exact aR
theorem zqQ (env:Env) (w:WoD) (o:OpD) (a:Int) (R:List Int) (hs:R.length<=1000) (hk:o.kind=5\/o.kind=6) (ha:zai a=true):Con prog env 234 [ints34 (R++[a]), .agg (opAV o), .agg (woAV w)] (.tuple [ints34 (R++[unI o.kind a]),B true]):=by
 have f0:=zkw env o.kind a hk ha;have q0: ¬o.kind<=4:=by omega
 have q1:o.kind<=6:=by omega
 have q2:Fits (R.length+1) 8:=zae (by omega) (by omega);have e1: ∀x:Int,ints34 (R++[x])= .seq 1 (R.map intAV++[[I x]]):=fun x=>by rw[show R.map intAV++[[I x]]=(R++[x]).map intAV by simp]
 rw[e1,e1];have q4:(R.map intAV++[[I a]]).length=R.length+1:=by simp
 have q5:(R.map intAV++[[I a]])[R.length]? =some [I a]:=by rw[List.getElem?_append_right (by simp)];simp
 have q6:(R.map intAV++[[I a]]).take R.length=R.map intAV:=by rw[List.take_append_of_le_length (by simp),List.take_of_length_le (by simp)]
 have q3:IntKind.i64.wrap (((R.length+1:Nat):Int)-1)=(R.length:Int):=(zaw (by omega) (by omega)).trans (by omega);have q7:(R.length:Int)< ((R.length+1:Nat):Int):=by omega
 have q8: ¬((R.length:Int)=((R.length+1:Nat):Int)):=by omega
 have q9:(R.length:Int)<=((R.length+1:Nat):Int):=by omega
 generalize R.map intAV++[[I a]]=X at*;generalize unI o.kind a=v at*;refine qf func234 call234 ntmps234 results234 ?_;have F:=ai12 opAV.eq_1 woAV.eq_1 q0 q1 q2 q3 q4 q5 q6 q7 q8 q9;repeat refine tz1 f0 ?_
 exact aR
theorem zqS (env:Env) (w:WoD) (o:OpD) (a b:Int) (R:List Int) (hs:R.length<=1000) (hk:7<=o.kind/\o.kind<=19) (ha:zai a=true) (hb:zai b=true):Con prog env 234 [ints34 (R++[a,b]), .agg (opAV o), .agg (woAV w)] (.tuple [ints34 (R++[(binI o.kind a b).1]),B (binI o.kind a b).2]):=by
 have f0:=zi2 env o.kind a b hk ha hb;have q0: ¬o.kind<=4:=by omega
 have q1: ¬o.kind<=6:=by omega
 have q2:Fits (R.length+1) 8:=zae (by omega) (by omega);have e1: ∀x:Int,ints34 (R++[x])= .seq 1 (R.map intAV++[[I x]]):=fun x=>by rw[show R.map intAV++[[I x]]=(R++[x]).map intAV by simp]
 have e2:ints34 (R++[a,b])= .seq 1 (R.map intAV++[[I a],[I b]]):=by rw[show R.map intAV++[[I a],[I b]]=(R++[a,b]).map intAV by simp]
 rw[e1,e2];have q4:(R.map intAV++[[I a],[I b]]).length=R.length+2:=by simp
 have q5:(R.map intAV++[[I a],[I b]])[R.length]? =some [I a]:=by rw[List.getElem?_append_right (by simp)];simp
 have p5:(R.map intAV++[[I a],[I b]])[R.length+1]? =some [I b]:=by rw[List.getElem?_append_right (by simp)];simp
 have q6:(R.map intAV++[[I a],[I b]]).take R.length=R.map intAV:=by rw[List.take_append_of_le_length (by simp),List.take_of_length_le (by simp)]
 have q3:IntKind.i64.wrap (((R.length+2:Nat):Int)-2)=(R.length:Int):=(zaw (by omega) (by omega)).trans (by omega);have p3:IntKind.i64.wrap (((R.length+2:Nat):Int)-1)=((R.length+1:Nat):Int):=(zaw (by omega) (by omega)).trans (by omega);have q7:(R.length:Int)< ((R.length+2:Nat):Int):=by omega
 have p7:((R.length+1:Nat):Int)< ((R.length+2:Nat):Int):=by omega
 have q8: ¬((R.length:Int)=((R.length+2:Nat):Int)):=by omega
 have q9:(R.length:Int)<=((R.length+2:Nat):Int):=by omega
 generalize R.map intAV++[[I a],[I b]]=X at*;generalize binI o.kind a b=v at*;refine qf func234 call234 ntmps234 results234 ?_;have F:=ai12 opAV.eq_1 woAV.eq_1 q0 q1 q2 q3 p3 q4 q5 p5 q6<|ai4 q7 p7 q8 q9;repeat refine tz1 f0 ?_
 exact aR
theorem zev (env:Env) (w:WoD) (hw:w.Ok) (hl:w.vars.length<=1000000):Con prog env 198 [.agg (woAV w)] nilE:=by
 have f0:=zbR env w.data;rw[hw.data]at f0
 have f1: ∀x∈w.vars,Con prog env 69 [I x] (B true):=fun x hx=>by
  have:=zbR env x;rwa [hw.vars x hx]at this
 refine qf func198 call198 ntmps198 results198 ?_;have F:=woAV.eq_1;repeat refine tz1 f0 ?_
 refine zab (D:=Nat) (fun j _=>[(3,B true),(10,ints34 w.vars),(11,I w.vars.length),(12,I j)]) (fun _ _=>[]) (fun j _ _=>j<=w.vars.length) (fun j=>w.vars.length-j) 0 ?_ ?_ ?_ ?_
 ·exact Nat.zero_le _
 ·exact qe
 ·exact qe
 rintro j vs esc hj;by_cases hlt:j<w.vars.length
 ·obtain⟨x,hx⟩:=gE hlt;have g1:=nlt hlt;have g2:=zaa hlt (by omega);have f2:=f1 x (List.mem_of_getElem? hx);have F:=ai4 intAV.eq_1 g1 g2 hx;repeat refine tz1 f2 ?_
  refine⟨j+1,hlt,?_,?_,by omega⟩
  ·exact qe
  ·exact qe
 obtain rfl:j=w.vars.length:=by omega
 have g1:=nl w.vars.length;have F:=g1;repeat refine st ?_
 exact aR
def zeQ (a2:Addr):Option Int->AV
 |some v=> .tuple [I v,nilE]
 |none=> .tuple [I 0,errV (-1) (sentV a2)]
theorem zit {vs ss n:Int} {o:OpD} (h:zbc vs ss n o=true):(1<=o.kind/\o.kind<=4/\zad o.kind=0)\/((o.kind=5\/o.kind=6)/\zad o.kind=1/\1<=n)\/(7<=o.kind/\o.kind<=19/\zad o.kind=2/\2<=n):=by
 have h1:=zd1 h
 have h2:zad o.kind=0/\1<=o.kind/\o.kind<=4\/zad o.kind=1/\(o.kind=5\/o.kind=6)\/zad o.kind=2/\7<=o.kind/\o.kind<=19\/zad o.kind= -1:=by
  unfold zad;split
  ·rename_i hh;exact .inl ⟨rfl,hh⟩
  split
  ·rename_i hh;exact .inr (.inl ⟨rfl,hh⟩)
  split
  ·rename_i hh;exact .inr (.inr (.inl ⟨rfl,hh⟩))
  ·exact .inr (.inr (.inr rfl))
 omega
theorem zvg {vs ss n:Int} {o:OpD} (h:zbc vs ss n o=true):numB o vs ss=true:=by
 simp only[zbc,Bool.and_eq_true]at h;exact h.2
theorem znO {w:WoD} {code:List OpD} {i:Nat} {o:OpD} {s:List Int} (h:code[i]? =some o) (hs:runS w (code.take i) []=some s):runS w (code.take (i+1)) []=zcH w o s:=by
 rw[List.take_add_one,h,zfc,hs];exact zgE w o s
theorem run_stuck {w:WoD} {code:List OpD} {i:Nat} (h:runS w (code.take i) []=none):runS w code []=none:=by
 rw[<-List.take_append_drop i code,zfc,h];rfl
theorem zoy (env:Env) (a1 a2 a8:Addr) (he:ChEnv env a1 a8) (h2:env 2=some (sentV a2)) (w:WoD) (hw:w.Ok) (hl:w.vars.length<=1000000) (code:List OpD) (hc:zbQ code w.vars.length w.act.length=true):Con prog env 195 [opsAV code, .agg (woAV w)] (zeQ a2 (zj5 w code)):=by
 have f0:=zev env w hw hl;have f1:=zda env a1 a8 he code w.vars.length w.act.length;have g2:=zfW h2;have f9:=zbA env [118,97,108,117,101,46,69,118,97,108] a2;obtain⟨hh,hlen⟩:=zka hc;have h0:zeM code w.vars.length w.act.length=0:=by unfold zbQ at hc;simpa using hc
 unfold zdT at f1;rw[if_pos h0]at f1;have hrun:=zox w hh;have q0:(w.act.map zkg).length=w.act.length:=List.length_map ..;have s1: ∀(o:OpD) (R:List Int),R.length<=1000->1<=o.kind/\o.kind<=4->numB o w.vars.length w.act.length=true->_:=fun o R=>zqR env w o R;have s2: ∀(o:OpD) (a:Int) (R:List Int),_:=fun o a R=>zqQ env w o a R;have s3: ∀(o:OpD) (a b:Int) (R:List Int),_:=fun o a b R=>zqS env w o a b R;unfold woAV at f0 s1 s2 s3 |-;refine qf func195 call195 ntmps195 results195 ?_;repeat refine tz02 f0 f1 ?_
 refine zdN (Turned.nil 8 1 (by simp only[go_sem])) ?_;refine zab (D:=Nat×List Int) (fun d vs=>[(3, .loc 3 (vs 3) 0 0),(8,ints34 d.2.reverse),(31,opsAV code),(32,I code.length),(33,I d.1)]) (fun _ _=>[(3,⟨3,[[ints34 w.vars,I w.data, .seq 1 (w.act.map zkg)]],199,false⟩)]) (fun d _ _=>d.1<=code.length/\runS w (code.take d.1) []=some d.2/\hgt w.vars.length w.act.length code 0=hgt w.vars.length w.act.length (code.drop d.1) d.2.length/\(∀x∈d.2,zai x=true)/\d.2.length<=d.1) (fun d=>code.length-d.1) (0,[]) ?_ ?_ ?_ ?_
 ·exact⟨Nat.zero_le _,rfl,rfl,by simp,Nat.le_refl _⟩
 ·(simp only[go_sem])
  try rfl
 ·exact qe0
 rintro⟨i,s⟩ vs esc ⟨hi,hr,hg,hf,hsl⟩;simp only at hi hr hg hf hsl;by_cases hlt:i<code.length
 ·obtain⟨o,ho,_⟩:=zak hlt;obtain⟨up,no⟩:=zgM ho hg;have k1:=nlt hlt;have k2:=zaa hlt (by omega);have hnext:=znO (w:=w) ho hr
  have hok:zbc w.vars.length w.act.length s.length o=true:=by
   cases hok:zbc w.vars.length w.act.length s.length o with
   |true=>rfl
   |false=>rw[no hok]at hh;cases hh
  have hg2:=up hok;have hnum:=zvg hok;rcases zit hok with⟨b1,b2,b3⟩|⟨b1,b3,b4⟩|⟨b1,b2,b3,b4⟩
  ·have f2:=s1 o s.reverse (by rw[List.length_reverse];omega) ⟨b1,b2⟩ hnum;have hst:zcH w o s=some (leafI w o::s):=by unfold zcH;rw[if_pos b2]
   rw[hst]at hnext;have e1:s.reverse++[leafI w o]=(leafI w o::s).reverse:=by simp
   rw[e1]at f2;have F:=ai4 opAV.eq_1 ho k1 k2;repeat refine tz1 f2 ?_
   refine⟨(i+1,leafI w o::s),⟨hlt,hnext,?_,zdf hw hnum hf hst,?_⟩,?_,?_,?_⟩
   ·rw[hg2,b3]
    congr 1<;>simp
   ·simp only[List.length_cons];omega
   ·exact qe
   ·exact qe
   ·simp only;omega
  ·match s,hr,hg,hf,hsl,hok,hg2,hnext,b4 with
   | a::s,hr,hg,hf,hsl,hok,hg2,hnext,b4=>
     have ha:=hf a (by simp);have f2:=s2 o a s.reverse (by rw[List.length_reverse];simp only[List.length_cons]at hsl;omega) b1 ha;have hst:zcH w o (a::s)=some (unI o.kind a::s):=by unfold zcH;rw[if_neg (by omega),if_pos (by omega)]
     rw[hst]at hnext;have e1:s.reverse++[unI o.kind a]=(unI o.kind a::s).reverse:=by simp
     have e2:s.reverse++[a]=(a::s).reverse:=by simp
     rw[e1,e2]at f2;have F:=ai4 opAV.eq_1 ho k1 k2;repeat refine tz1 f2 ?_
     refine⟨(i+1,unI o.kind a::s),⟨hlt,hnext,?_,zdf hw hnum hf hst,?_⟩,?_,?_,?_⟩
     ·rw[hg2,b3]
      congr 1<;>simp
     ·simp only[List.length_cons]at hsl |-;omega
     ·exact qe
     ·exact qe
     ·simp only;omega
  ·match s,hr,hg,hf,hsl,hok,hg2,hnext,b4 with
   | b::a::s,hr,hg,hf,hsl,hok,hg2,hnext,b4=>
     have hb:=hf b (by simp);have ha:=hf a (by simp);have f2:=s3 o a b s.reverse (by rw[List.length_reverse];simp only[List.length_cons]at hsl;omega) ⟨b1,b2⟩ ha hb;have hst:zcH w o (b::a::s)=if (binI o.kind a b).2 then some ((binI o.kind a b).1::s) else none:=by unfold zcH;rw[if_neg (by omega),if_neg (by omega)]
     rw[hst]at hnext;have e1:s.reverse++[(binI o.kind a b).1]=((binI o.kind a b).1::s).reverse:=by simp
     have e2:s.reverse++[a,b]=(b::a::s).reverse:=by simp
     rw[e1,e2]at f2;cases hv:(binI o.kind a b).2 with
     | true=>
       rw[hv]at f2 hst hnext;simp only[if_true]at hst hnext;have F:=ai4 opAV.eq_1 ho k1 k2;repeat refine tz1 f2 ?_
       refine⟨(i+1,(binI o.kind a b).1::s),⟨hlt,hnext,?_,zdf hw hnum hf hst,?_⟩,?_,?_,?_⟩
       ·rw[hg2,b3]
        congr 1
        simp only[List.length_cons];omega
       ·simp only[List.length_cons]at hsl |-;omega
       ·exact qe
       ·exact qe
       ·simp only;omega
     | false=>
       rw[hv]at f2 hnext;simp only[Bool.false_eq_true,if_false]at hnext;have hn:=run_stuck hnext;rw[hrun,Option.map_eq_none_iff]at hn;rw[hn];show awp _ _ _ _ _ _;unfold zeQ;have F:=ai5 opAV.eq_1 ho k1 k2 g2;repeat refine tz2 f2 f9 ?_
       exact aR
 ·obtain rfl:i=code.length:=by omega
  have k1:=nl code.length;have hend:=zjY (Nat.le_refl _) hg;rw[hh]at hend;rw[List.take_length,hrun]at hr;obtain⟨v,hv,rfl⟩:=Option.map_eq_some_iff.1 hr;rw[hv];unfold zeQ;have F:=ai4 intAV.eq_1 k1 @List.reverse_cons.{0} @List.reverse_nil.{0};repeat refine st ?_
  exact aR
theorem ztI (env:Env) (a1 a2 a8:Addr) (he:ChEnv env a1 a8) (h2:env 2=some (sentV a2)) (w:WoD) (hw:w.Ok) (hl:w.vars.length<=1000000) (code:List OpD) (hc:code=[]\/zbQ code w.vars.length w.act.length=true) (b:Bool) (hb:zeg w code=some b):Con prog env 146 [opsAV code, .agg (woAV w)] (.tuple [B b,nilE]):=by
 have f0:=zev env w hw hl;have f1:=zl7 env [118,97,108,117,101,46,84,114,117,101];unfold zeg at hb;by_cases h0:code=[]
 ·subst h0;rw[if_pos rfl]at hb;cases hb;unfold woAV at f0 |-;refine qf func146 call146 ntmps146 results146 ?_;repeat refine tz02 f0 f1 ?_
  exact aR0
 rw[if_neg h0]at hb;have f2:=zoy env a1 a2 a8 he h2 w hw hl code (hc.resolve_left h0)
 have hne:((code.length:Int)==0)=false:=by
  have:code.length≠0:=fun e=>h0 (List.length_eq_zero_iff.1 e);simp;omega
 obtain⟨v,hv,rfl⟩:=Option.map_eq_some_iff.1 hb;rw[hv]at f2;unfold zeQ at f2;unfold woAV at f0 f2 |-;refine qf func146 call146 ntmps146 results146 ?_;have F:=hne;repeat refine tz2 f2 f1 ?_
 exact aR
theorem zqJ (env:Env) (a1 a2 a8:Addr) (he:ChEnv env a1 a8) (h2:env 2=some (sentV a2)) (w:WoD) (hw:w.Ok) (hl:w.vars.length<=1000000) (code:List OpD) (hc:code=[]\/zbQ code w.vars.length w.act.length=true) (hb:zeg w code=none):Con prog env 146 [opsAV code, .agg (woAV w)] (.tuple [B false,errV (-1) (errV (-1) (sentV a2))]):=by
 have f0:=zev env w hw hl;have f1:=zgB env [118,97,108,117,101,46,84,114,117,101] (-1) (sentV a2);unfold zeg at hb;by_cases h0:code=[]
 ·rw[if_pos h0]at hb;cases hb
 rw[if_neg h0,Option.map_eq_none_iff]at hb;have f2:=zoy env a1 a2 a8 he h2 w hw hl code (hc.resolve_left h0)
 have hne:((code.length:Int)==0)=false:=by
  have:code.length≠0:=fun e=>h0 (List.length_eq_zero_iff.1 e);simp;omega
 rw[hb]at f2;unfold zeQ at f2;unfold woAV at f0 f2 |-;refine qf func146 call146 ntmps146 results146 ?_;have F:=hne;repeat refine tz2 f2 f1 ?_
 exact aR
end Go.Proofs.YtbpmkofnfgdegaaGreatDoor
set_option linter.unusedSimpArgs false
namespace Go.Proofs.YtbpmkofnfgdegaaGreatDoor
open Go.Proofs.Tryz
open Go.RowKit
set_option maxRecDepth 100000
set_option maxHeartbeats 8000000
end Go.Proofs.YtbpmkofnfgdegaaGreatDoor
set_option linter.unusedSimpArgs false
namespace Go.Proofs.YtbpmkofnfgdegaaGreatDoor
open Go.Proofs.Tryz
open Go.RowKit
set_option maxRecDepth 100000
set_option maxHeartbeats 16000000
def woI (w:WoD) (g:Nat->Nat):AV:= .agg [.row 1002 (g 1002),I w.data, .seq 1 (w.act.map zkg)]
def rowV (w:WoD):Nat×Row:=(1002,⟨1,w.vars.map intAV,3,true⟩)
theorem zo5 (env:Env) (w:WoD) (o:OpD) (R:List Int) (hs:R.length<=1000) (hk:1<=o.kind/\o.kind<=4) (h:numB o w.vars.length w.act.length=true):ConI prog env 234 [1002,27] (fun k=>k==27) (fun g=>[ints34 R, .agg (opAV o),woI w g]) (fun _=>[rowV w]) (fun _=>[rowV w,(27,⟨1,(R++[leafI w o]).map intAV,3,true⟩)]) (fun g=> .tuple [.row 27 (g 27),B true]):=by
 have f0:=(zod env w o hk h).lend rfl;have q0:o.kind<=4:=hk.2;have q1:Fits (R.length+1) 8:=zae (by omega) (by omega);have q2:(R++[leafI w o]).map intAV=R.map intAV++[[I (leafI w o)]]:=by simp
 rw[q2];try clear q2
 generalize leafI w o=v at*;unfold opAV woAV at f0;unfold woI rowV;refine qi func234 call234 ntmps234 results234 ?_;intro vs esc hesc;obtain⟨e0,e1⟩:=es2 hesc;have F:=ai5 opAV.eq_1 q0 q1 e0 e1;repeat refine st ?_
 refine lL f0 ?_;repeat refine st ?_
 exact rI
theorem zo4 (env:Env) (w:WoD) (o:OpD) (a:Int) (R:List Int) (hs:R.length<=1000) (hk:o.kind=5\/o.kind=6) (ha:zai a=true):ConI prog env 234 [1002,51] (fun k=>k==51) (fun g=>[ints34 (R++[a]), .agg (opAV o),woI w g]) (fun _=>[rowV w]) (fun _=>[rowV w,(51,⟨1,(R++[unI o.kind a]).map intAV,3,true⟩)]) (fun g=> .tuple [.row 51 (g 51),B true]):=by
 have f0:=zkw env o.kind a hk ha;have q0: ¬o.kind<=4:=by omega
 have q1:o.kind<=6:=by omega
 have q2:Fits (R.length+1) 8:=zae (by omega) (by omega);have e1: ∀x:Int,(R++[x]).map intAV=R.map intAV++[[I x]]:=fun x=>by simp
 have e2:ints34 (R++[a])= .seq 1 (R.map intAV++[[I a]]):=by rw[show R.map intAV++[[I a]]=(R++[a]).map intAV by simp]
 rw[e1,e2];have q4:(R.map intAV++[[I a]]).length=R.length+1:=by simp
 have q5:(R.map intAV++[[I a]])[R.length]? =some [I a]:=by rw[List.getElem?_append_right (by simp)];simp
 have q6:(R.map intAV++[[I a]]).take R.length=R.map intAV:=by rw[List.take_append_of_le_length (by simp),List.take_of_length_le (by simp)]
 have q3:IntKind.i64.wrap (((R.length+1:Nat):Int)-1)=(R.length:Int):=(zaw (by omega) (by omega)).trans (by omega);have q7:(R.length:Int)< ((R.length+1:Nat):Int):=by omega
 have q8: ¬((R.length:Int)=((R.length+1:Nat):Int)):=by omega
 have q9:(R.length:Int)<=((R.length+1:Nat):Int):=by omega
 generalize hX:R.map intAV++[[I a]]=X at*;generalize unI o.kind a=v at*;unfold woI rowV;refine qi func234 call234 ntmps234 results234 ?_;intro vs esc hesc;obtain⟨e0,e3⟩:=es2 hesc;have F:=ai12 opAV.eq_1 q0 q1 q2 q3 q4 q5 q6 q7 q8 q9<|ai e0 e3;repeat refine tz1 f0 ?_
 exact rI
theorem zo6 (env:Env) (w:WoD) (o:OpD) (a b:Int) (R:List Int) (hs:R.length<=1000) (hk:7<=o.kind/\o.kind<=19) (ha:zai a=true) (hb:zai b=true):ConI prog env 234 [1002,77] (fun k=>k==77) (fun g=>[ints34 (R++[a,b]), .agg (opAV o),woI w g]) (fun _=>[rowV w]) (fun _=>[rowV w,(77,⟨1,(R++[(binI o.kind a b).1]).map intAV,3,true⟩)]) (fun g=> .tuple [.row 77 (g 77),B (binI o.kind a b).2]):=by
 have f0:=zi2 env o.kind a b hk ha hb;have q0: ¬o.kind<=4:=by omega
 have q1: ¬o.kind<=6:=by omega
 have q2:Fits (R.length+1) 8:=zae (by omega) (by omega);have e1: ∀x:Int,(R++[x]).map intAV=R.map intAV++[[I x]]:=fun x=>by simp
 have e2:ints34 (R++[a,b])= .seq 1 (R.map intAV++[[I a],[I b]]):=by rw[show R.map intAV++[[I a],[I b]]=(R++[a,b]).map intAV by simp]
 rw[e1,e2];have q4:(R.map intAV++[[I a],[I b]]).length=R.length+2:=by simp
 have q5:(R.map intAV++[[I a],[I b]])[R.length]? =some [I a]:=by rw[List.getElem?_append_right (by simp)];simp
 have p5:(R.map intAV++[[I a],[I b]])[R.length+1]? =some [I b]:=by rw[List.getElem?_append_right (by simp)];simp
 have q6:(R.map intAV++[[I a],[I b]]).take R.length=R.map intAV:=by rw[List.take_append_of_le_length (by simp),List.take_of_length_le (by simp)]
 have q3:IntKind.i64.wrap (((R.length+2:Nat):Int)-2)=(R.length:Int):=(zaw (by omega) (by omega)).trans (by omega);have p3:IntKind.i64.wrap (((R.length+2:Nat):Int)-1)=((R.length+1:Nat):Int):=(zaw (by omega) (by omega)).trans (by omega);have q7:(R.length:Int)< ((R.length+2:Nat):Int):=by omega
 have p7:((R.length+1:Nat):Int)< ((R.length+2:Nat):Int):=by omega
 have q8: ¬((R.length:Int)=((R.length+2:Nat):Int)):=by omega
 have q9:(R.length:Int)<=((R.length+2:Nat):Int):=by omega
 generalize hX:R.map intAV++[[I a],[I b]]=X at*;generalize binI o.kind a b=v at*;unfold woI rowV;refine qi func234 call234 ntmps234 results234 ?_;intro vs esc hesc;obtain⟨e0,e3⟩:=es2 hesc;have F:=ai12 opAV.eq_1 q0 q1 q2 q3 p3 q4 q5 p5 q6 q7<|ai5 p7 q8 q9 e0 e3;repeat refine tz1 f0 ?_
 exact rI
theorem zsH (env:Env) (a1 a2 a8:Addr) (he:ChEnv env a1 a8) (h2:env 2=some (sentV a2)) (w:WoD) (hw:w.Ok) (hl:w.vars.length<=1000000) (code:List OpD) (hc:zbQ code w.vars.length w.act.length=true):ConI prog env 195 [1002] (fun _=>false) (fun g=>[opsAV code,woI w g]) (fun _=>[rowV w]) (fun _=>[rowV w]) (fun _=>zeQ a2 (zj5 w code)):=by
 have f0:=(zev env w hw hl).lend rfl;have f1:=zda env a1 a8 he code w.vars.length w.act.length;have g2:=zfW h2;have f9:=zbA env [118,97,108,117,101,46,69,118,97,108] a2;obtain⟨hh,hlen⟩:=zka hc;have h0:zeM code w.vars.length w.act.length=0:=by unfold zbQ at hc;simpa using hc
 unfold zdT at f1;rw[if_pos h0]at f1;have hrun:=zox w hh;have q0:(w.act.map zkg).length=w.act.length:=List.length_map ..;have s1: ∀(o:OpD) (R:List Int),R.length<=1000->1<=o.kind/\o.kind<=4->numB o w.vars.length w.act.length=true->_:=fun o R=>zo5 env w o R;have s2: ∀(o:OpD) (a:Int) (R:List Int),_:=fun o a R=>zo4 env w o a R;have s3: ∀(o:OpD) (a b:Int) (R:List Int),_:=fun o a b R=>zo6 env w o a b R;unfold woAV at f0;unfold woI rowV at*;refine qi func195 call195 ntmps195 results195 ?_;intro vs esc hesc;have e0:=hesc 1002 (by simp);have F:=e0;repeat refine st ?_
 refine lL f0 ?_;repeat refine tz1 f1 ?_
 refine zdN (Turned.nil 8 1 (by simp only[go_sem])) ?_;refine zab (D:=Nat×List Int) (fun d vs=>[(3, .loc 3 (vs 3) 0 0),(8,ints34 d.2.reverse),(31,opsAV code),(32,I code.length),(33,I d.1)]) (fun _ vs=>[(3,⟨3,[[.row 1002 (vs 1002),I w.data, .seq 1 (w.act.map zkg)]],199,false⟩),(1002,⟨1,w.vars.map intAV,3,true⟩)]) (fun d vs' esc=>(d.1<=code.length/\runS w (code.take d.1) []=some d.2/\hgt w.vars.length w.act.length code 0=hgt w.vars.length w.act.length (code.drop d.1) d.2.length/\(∀x∈d.2,zai x=true)/\d.2.length<=d.1)/\vs' 1002=vs 1002/\esc 1002=false) (fun d=>code.length-d.1) (0,[]) ?_ ?_ ?_ ?_
 ·exact⟨⟨Nat.zero_le _,rfl,rfl,by simp,Nat.le_refl _⟩,by simp only[go_sem],by simp only[go_sem,e0]⟩
 ·(simp only[go_sem,F])
  try rfl
 ·exact qe
 try clear e0
 rintro⟨i,s⟩ ws esc ⟨⟨hi,hr,hg,hf,hsl⟩,v0,e0⟩;simp only at hi hr hg hf hsl;by_cases hlt:i<code.length
 ·obtain⟨o,ho,_⟩:=zak hlt;obtain⟨up,no⟩:=zgM ho hg;have k1:=nlt hlt;have k2:=zaa hlt (by omega);have hnext:=znO (w:=w) ho hr
  have hok:zbc w.vars.length w.act.length s.length o=true:=by
   cases hok:zbc w.vars.length w.act.length s.length o with
   |true=>rfl
   |false=>rw[no hok]at hh;cases hh
  have hg2:=up hok;have hnum:=zvg hok;refine zl1 9001 rfl ?_;rcases zit hok with⟨b1,b2,b3⟩|⟨b1,b3,b4⟩|⟨b1,b2,b3,b4⟩
  ·have f2:=s1 o s.reverse (by rw[List.length_reverse];omega) ⟨b1,b2⟩ hnum;have hst:zcH w o s=some (leafI w o::s):=by unfold zcH;rw[if_pos b2]
   rw[hst]at hnext;have e1:s.reverse++[leafI w o]=(leafI w o::s).reverse:=by simp
   rw[e1]at f2;refine zcA ?_;have F:=ai5 opAV.eq_1 ho k1 k2 e0;repeat refine st ?_
   refine iL [(1002,1002),(27,9001)] f2 ?_;repeat refine st ?_
   refine⟨_,Turned.frozen 9001 8 ⟨1,(leafI w o::s).reverse.map intAV,3,true⟩ rfl (Nat.succ_ne_zero 0) (by simp only[go_sem]) (by simp only[go_sem]),(i+1,leafI w o::s),⟨⟨hlt,hnext,?_,zdf hw hnum hf hst,?_⟩,?_,?_⟩,?_,?_,?_⟩
   ·rw[hg2,b3]
    congr 1<;>simp
   ·simp only[List.length_cons];omega
   ·simp only[go_sem,v0]
   ·simp only[go_sem,e0]
   ·exact qe
   ·exact qe
   ·simp only;omega
  ·match s,hr,hg,hf,hsl,hok,hg2,hnext,b4 with
   | a::s,hr,hg,hf,hsl,hok,hg2,hnext,b4=>
     have ha:=hf a (by simp);have f2:=s2 o a s.reverse (by rw[List.length_reverse];simp only[List.length_cons]at hsl;omega) b1 ha;have hst:zcH w o (a::s)=some (unI o.kind a::s):=by unfold zcH;rw[if_neg (by omega),if_pos (by omega)]
     rw[hst]at hnext;have e1:s.reverse++[unI o.kind a]=(unI o.kind a::s).reverse:=by simp
     have e2:s.reverse++[a]=(a::s).reverse:=by simp
     rw[e1,e2]at f2;refine zcA ?_;have F:=ai5 opAV.eq_1 ho k1 k2 e0;repeat refine st ?_
     refine iL [(1002,1002),(51,9001)] f2 ?_;repeat refine st ?_
     refine⟨_,Turned.frozen 9001 8 ⟨1,(unI o.kind a::s).reverse.map intAV,3,true⟩ rfl (Nat.succ_ne_zero 0) (by simp only[go_sem]) (by simp only[go_sem]),(i+1,unI o.kind a::s),⟨⟨hlt,hnext,?_,zdf hw hnum hf hst,?_⟩,?_,?_⟩,?_,?_,?_⟩
     ·rw[hg2,b3]
      congr 1<;>simp
     ·simp only[List.length_cons]at hsl |-;omega
     ·simp only[go_sem,v0]
     ·simp only[go_sem,e0]
     ·exact qe
     ·exact qe
     ·simp only;omega
  ·match s,hr,hg,hf,hsl,hok,hg2,hnext,b4 with
   | b::a::s,hr,hg,hf,hsl,hok,hg2,hnext,b4=>
     have hb:=hf b (by simp);have ha:=hf a (by simp);have f2:=s3 o a b s.reverse (by rw[List.length_reverse];simp only[List.length_cons]at hsl;omega) ⟨b1,b2⟩ ha hb;have hst:zcH w o (b::a::s)=if (binI o.kind a b).2 then some ((binI o.kind a b).1::s) else none:=by unfold zcH;rw[if_neg (by omega),if_neg (by omega)]
     rw[hst]at hnext;have e1:s.reverse++[(binI o.kind a b).1]=((binI o.kind a b).1::s).reverse:=by simp
     have e2:s.reverse++[a,b]=(b::a::s).reverse:=by simp
     rw[e1,e2]at f2;cases hv:(binI o.kind a b).2 with
     | true=>
       rw[hv]at f2 hst hnext;simp only[if_true]at hst hnext;refine zcA ?_;have F:=ai5 opAV.eq_1 ho k1 k2 e0;repeat refine st ?_
       refine iL [(1002,1002),(77,9001)] f2 ?_;repeat refine st ?_
       refine⟨_,Turned.frozen 9001 8 ⟨1,((binI o.kind a b).1::s).reverse.map intAV,3,true⟩ rfl (Nat.succ_ne_zero 0) (by simp only[go_sem]) (by simp only[go_sem]),(i+1,(binI o.kind a b).1::s),⟨⟨hlt,hnext,?_,zdf hw hnum hf hst,?_⟩,?_,?_⟩,?_,?_,?_⟩
       ·rw[hg2,b3]
        congr 1
        simp only[List.length_cons];omega
       ·simp only[List.length_cons]at hsl |-;omega
       ·simp only[go_sem,v0]
       ·simp only[go_sem,e0]
       ·exact qe
       ·exact qe
       ·simp only;omega
     | false=>
       rw[hv]at f2 hnext;simp only[Bool.false_eq_true,if_false]at hnext;have hn:=run_stuck hnext;rw[hrun,Option.map_eq_none_iff]at hn;rw[hn];show awp _ _ _ _ _ _;unfold zeQ;have F:=ai7 opAV.eq_1 ho k1 k2 g2 e0 v0;repeat refine st ?_
       refine iL [(1002,1002),(77,9001)] f2 ?_;repeat refine tz1 f9 ?_
       exact rI
 ·obtain rfl:i=code.length:=by omega
  have k1:=nl code.length;have hend:=zjY (Nat.le_refl _) hg;rw[hh]at hend;rw[List.take_length,hrun]at hr;obtain⟨v,hv,rfl⟩:=Option.map_eq_some_iff.1 hr;rw[hv];unfold zeQ;have F:=ai6 intAV.eq_1 k1 @List.reverse_cons.{0} @List.reverse_nil.{0} e0 v0;repeat refine st ?_
  exact rI
end Go.Proofs.YtbpmkofnfgdegaaGreatDoor
set_option linter.unusedSimpArgs false
namespace Go.Proofs.YtbpmkofnfgdegaaGreatDoor
open Go.Proofs.Tryz
open Go.RowKit
set_option maxRecDepth 100000
set_option maxHeartbeats 16000000
def idxT (p:(List UInt8×Int)->Bool):List (List UInt8×Int)->Option Nat
 |[]=>none
 |d::l=>if p d=true then some 0 else(idxT p l).map (· +1)
theorem zlg {p:(List UInt8×Int)->Bool} : ∀ {l:List (List UInt8×Int)} {i:Nat},idxT p l=some i->i<l.length/\l.take i=(l.take i).filter (fun d=> !p d)/\ ∃d,l[i]? =some d/\p d=true
 |[],i,h=>by simp[idxT]at h
 | d::l,i,h=>by
   unfold idxT at h;split at h
   ·rename_i hp;cases h;exact⟨by simp,by simp,d,rfl,hp⟩
   ·rename_i hp;cases hi:idxT p l with
    |none=>rw[hi]at h;cases h
    | some j=>
      rw[hi]at h;cases h;obtain⟨h1,h2,x,h3,h4⟩:=zlg hi;refine⟨by simp;omega,?_,x,by simpa using h3,h4⟩;have hp:p d=false:=by simpa using hp
      simp only[List.take_succ_cons,List.filter_cons,hp,Bool.not_false,if_true];rw[<-h2]
theorem zlh {p:(List UInt8×Int)->Bool} : ∀ {l:List (List UInt8×Int)},idxT p l=none->l.filter (fun d=> !p d)=l/\ ∀d∈l,p d=false
 |[],h=>by simp
 | d::l,h=>by
   unfold idxT at h;split at h
   ·cases h
   ·rename_i hp;have hp:p d=false:=by simpa using hp
    cases hi:idxT p l with
    |some j=>rw[hi]at h;cases h
    | none=>
      obtain⟨h1,h2⟩:=zlh hi;refine⟨by simp only[List.filter_cons,hp,Bool.not_false,if_true,h1],fun x hx=> ?_⟩;rcases List.mem_cons.1 hx with rfl|hx
      ·exact hp
      ·exact h2 x hx
theorem zsd {p:(List UInt8×Int)->Bool} {l:List (List UInt8×Int)} {n:Nat} {d:(List UInt8×Int)} (hd:l[n]? =some d):idxT p (l.drop n)=if p d=true then some 0 else(idxT p (l.drop (n+1))).map (· +1):=by
 rw[zaQ hd];rfl
theorem zm0 (env:Env) (l:List (List UInt8×Int)) (p:(List UInt8×Int)->Bool) (g:FuncId) (caps:List (List AV)) (hp: ∀d,Con prog env g [.agg (tmAV d), .ref 1 caps 0 0] (B (p d))) (hl:l.length<=4096):Con prog env 264 [.seq 2 (l.map tmAV), .clo g [.ref 1 caps 0 0]] (I (idxJ (idxT p l))):=by
 refine qf func264 call264 ntmps264 results264 ?_;repeat refine st0 ?_
 refine zab (D:=Nat) (fun n vs=>[(0, .seq 2 (l.map tmAV)),(1, .clo g [.ref 1 caps 0 0]),(7,I l.length),(8,I n)]) (fun n vs=>[]) (fun n _ esc=>n<=l.length/\idxT p l=(idxT p (l.drop n)).map (· +n)) (fun n=>l.length-n) 0 ?_ ?_ ?_ ?_
 ·exact⟨Nat.zero_le _,by simp⟩
 ·exact qe0
 ·exact qe0
 rintro n vs esc ⟨hn,hi⟩;by_cases hlt:n<l.length
 ·obtain⟨d,hd⟩:=gE hlt;have g1:=nlt hlt;have g2:=zaa hlt (by omega);have f1:=hp d;unfold tmAV at f1;rw[zsd hd]at hi;cases h1:p d
  ·rw[h1]at hi f1;simp only[Bool.false_eq_true,if_false]at hi;have F:=ai4 tmAV.eq_1 hd g1 g2;repeat refine st ?_
   refine oC (za5 rfl (by simp only[go_sem,F];exact iR)) (f1) (by simp only[go_sem,F];exact iR) (by simp only[go_sem,F];exact⟨rfl,rfl⟩) ?_;repeat refine st ?_
   refine⟨n+1,⟨hlt,?_⟩,?_,?_,?_⟩
   ·rw[hi];cases idxT p (l.drop (n+1))
    ·rfl
    ·simp;omega
   ·exact qe
   ·exact qe
   ·omega
  ·rw[h1]at hi f1;simp only[if_true,Option.map_some,Nat.zero_add]at hi;rw[hi];have F:=ai6 tmAV.eq_1 hd g1 g2 idxJ.eq_1 idxJ.eq_2;repeat refine st ?_
   refine oC (za5 rfl (by simp only[go_sem,F];exact iR)) (f1) (by simp only[go_sem,F];exact iR) (by simp only[go_sem,F];exact⟨rfl,rfl⟩) ?_;repeat refine st ?_
   exact aR
 ·have g1: ¬(n:Int)< (l.length:Int):=by omega
  rw[List.drop_of_length_le (by omega)]at hi;rw[hi];have F:=ai5 g1 idxJ.eq_1 idxJ.eq_2 idxT.eq_1 idxT.eq_2;repeat refine st ?_
  exact aR
theorem zlP (env:Env) (l:List (List UInt8×Int)) (p:(List UInt8×Int)->Bool) (g:FuncId) (G:List UInt8) (te:TypeId) (hp: ∀d,Con prog env g [.agg (tmAV d), .ref 1 [[Sg G]] 0 0] (B (p d))) (hl:l.length<=4096):
 ConI prog env 231 [1000,1001] (fun k=>k==1000) (fun vs=>[.row 1000 (vs 1000), .clo g [.loc 1001 (vs 1001) 0 0]]) (fun _=>[(1000,⟨2,l.map tmAV,86,true⟩),(1001,⟨1,[[Sg G]],te,false⟩)]) (fun _=>[(1000,⟨2,(l.filter fun d=> !p d).map tmAV,86,true⟩),(1001,⟨1,[[Sg G]],te,false⟩)]) (fun vs=> .row 1000 (vs 1000)):=by
 have f0:=(zm0 env l p g [[Sg G]] hp hl).lend rfl;cases hi:idxT p l with
 | none=>
   rw[hi]at f0;obtain⟨h1,_⟩:=zlh hi;rw[h1];refine qi func231 call231 ntmps231 results231 ?_;intro vs esc hesc;obtain⟨e0,e1⟩:=es2 hesc;have F:=ai4 e0 e1 idxJ.eq_1 idxJ.eq_2;repeat refine st ?_
   refine lL f0 ?_;repeat refine st ?_
   exact rI
 | some i0=>
   rw[hi]at f0;obtain⟨h1,h2,d0,h3,h4⟩:=zlg hi;have g0:((i0:Int) == -1)=false:=by simp
   have g1:=zaa h1 (by omega);refine qi func231 call231 ntmps231 results231 ?_;intro vs esc hesc;obtain⟨e0,e1⟩:=es2 hesc;have F:=ai6 e0 e1 idxJ.eq_1 idxJ.eq_2 g0 g1;repeat refine st ?_
   refine lL f0 ?_;repeat refine st ?_
   refine zab (D:=Nat×List (List UInt8×Int)) (fun x vs'=>[(0, .row 1000 (vs' 1000)),(1, .clo g [.loc 1001 (vs' 1001) 0 0]),(5,I (((l.take x.1).filter fun d=> !p d).length:Int)),(6,I (x.1:Int))]) (fun x vs'=>[(1000,⟨2,x.2.map tmAV,86,true⟩),(1001,⟨1,[[Sg G]],te,false⟩)]) (fun x vs' esc'=>(x.1<=l.length/\x.2.length=l.length/\((l.take x.1).filter fun d=> !p d).length<x.1/\x.2.take ((l.take x.1).filter fun d=> !p d).length=(l.take x.1).filter (fun d=> !p d)/\x.2.drop x.1=l.drop x.1)/\vs' 1001=vs 1001/\esc' 1000=false/\esc' 1001=false) (fun x=>l.length-x.1) (i0+1,l) ?_ ?_ ?_ ?_
   ·have hq:(l.take (i0+1)).filter (fun d=> !p d)=l.take i0:=by
     rw[zbb h3,List.filter_append, <-h2];simp[h4]
    refine⟨⟨h1,rfl,?_,?_,rfl⟩,by simp only[go_sem],by simp only[go_sem,e0],by simp only[go_sem,e1]⟩
    ·rw[hq,List.length_take];omega
    ·simp only;rw[hq,List.length_take,Nat.min_eq_left (by omega)]
   ·have hq:((l.take (i0+1)).filter fun d=> !p d).length=i0:=by
     rw[zbb h3,List.filter_append, <-h2];simp[h4];omega
    simp only[hq];exact qe
   ·exact qe
   try clear e0 e1 g0 g1 h1 h2 h3 h4 hi
   rintro⟨j,L⟩ ws es ⟨⟨hj,hL,hc,ht,hd⟩,v1,e0,e1⟩;simp only at hj hL hc ht hd;generalize hcn:((l.take j).filter fun d=> !p d).length=c at*;by_cases hlt:j<l.length
   ·obtain⟨d,hx⟩:=gE hlt
    have hxL:L[j]? =some d:=by
     have:=congrArg (fun q:List (List UInt8×Int)=>q[0]?) hd;simpa[hx]using this
    have f1:=hp d;unfold tmAV at f1;have g1:(j:Int)< (L.length:Int):=by omega
    have g2:=zaa hlt (by omega);have g3:=zbb hx;cases h1:p d
    ·rw[h1]at f1;obtain⟨y,hy⟩: ∃x,L[c]? =some x:=⟨L[c]'(by omega),List.getElem?_eq_getElem (by omega)⟩;have g4:(c:Int)< (L.length:Int):=by omega
     have g5:IntKind.i64.wrap ((c:Int)+1)=((c+1:Nat):Int):=zaa (show c<l.length by omega) (by omega);have hq:((l.take (j+1)).filter fun d=> !p d)=(l.take j).filter (fun d=> !p d)++[d]:=by rw[g3,List.filter_append];simp[h1]
     have hs:(L.map tmAV).set c [Sg d.1,I d.2]=(L.set c d).map tmAV:=by rw[List.map_set];rfl
     have F:=ai10 tmAV.eq_1 hxL hy e0 e1 g1 g2 g4 g5 hs;repeat refine st ?_
     refine oL (za5 rfl (by simp only[go_sem,F];exact iR)) (f1.lend rfl) (by simp only[go_sem,F];exact iR) (by simp only[go_sem,F];exact⟨rfl,rfl⟩) ?_;repeat refine st ?_
     refine⟨(j+1,L.set c d),⟨⟨hlt,by simpa using hL,?_,?_,?_⟩,?_,?_,?_⟩,?_,?_,?_⟩
     ·simp only[hq,List.length_append,List.length_singleton,hcn];omega
     ·simp only[hq,List.length_append,List.length_singleton,hcn];rw[<-ht];apply List.ext_getElem?;intro k;rw[List.getElem?_take,List.getElem?_set];by_cases hk:k<c
      ·rw[if_pos (by omega),if_neg (by omega),List.getElem?_append_left (by simp;omega),List.getElem?_take,if_pos hk]
      ·by_cases hk2:k=c
       ·subst hk2;rw[if_pos (by omega),if_pos rfl,if_pos (by omega),List.getElem?_append_right (by rw[List.length_take];omega),List.length_take,Nat.min_eq_left (by omega)];simp
       ·rw[if_neg (by omega),List.getElem?_eq_none (by rw[List.length_append,List.length_take,List.length_singleton];omega)]
     ·simp only;rw[List.drop_set_of_lt (by omega)];have:=congrArg (List.drop 1) hd;simpa[List.drop_drop]using this
     ·simp only[go_sem,v1]
     ·simp only[go_sem,e0]
     ·simp only[go_sem,e1]
     ·have hq2:((l.take (j+1)).filter fun d=> !p d).length=c+1:=by rw[hq,List.length_append,hcn];rfl
      simp only[hq2];exact qe
     ·exact qe
     ·simp only;omega
    ·rw[h1]at f1;have hq:((l.take (j+1)).filter fun d=> !p d)=(l.take j).filter (fun d=> !p d):=by rw[g3,List.filter_append];simp[h1]
     have F:=ai6 tmAV.eq_1 hxL e0 e1 g1 g2;repeat refine st ?_
     refine oL (za5 rfl (by simp only[go_sem,F];exact iR)) (f1.lend rfl) (by simp only[go_sem,F];exact iR) (by simp only[go_sem,F];exact⟨rfl,rfl⟩) ?_;repeat refine st ?_
     refine⟨(j+1,L),⟨⟨hlt,hL,?_,?_,?_⟩,?_,?_,?_⟩,?_,?_,?_⟩
     ·simp only[hq,hcn];omega
     ·simp only[hq,hcn];exact ht
     ·simp only;have:=congrArg (List.drop 1) hd;simpa[List.drop_drop]using this
     ·simp only[go_sem,v1]
     ·simp only[go_sem,e0]
     ·simp only[go_sem,e1]
     ·simp only[hq,hcn];exact qe
     ·exact qe
     ·simp only;omega
   ·have g1: ¬(j:Int)< (L.length:Int):=by omega
    have hjl:l.take j=l:=List.take_of_length_le (by omega);rw[hjl]at ht hcn;have g4:(c:Int)<=(L.length:Int):=by omega
    have g5:c<=L.length:=by omega
    have g6: ∀X:List (List AV),((L.take c).map tmAV++X).take c=(l.filter fun d=> !p d).map tmAV:=fun X=>by
     rw[List.take_left' (by rw[List.length_map,List.length_take];omega),ht]
    have g7:c+(L.length-c)=L.length:=by omega
    have g8:min c L.length=c:=by omega
    have F:=ai11 v1 e0 e1 @List.length_take.{0} @List.length_replicate.{0} g1 g4 g5 g6 g7 g8;repeat refine st ?_
    exact rI
end Go.Proofs.YtbpmkofnfgdegaaGreatDoor
namespace Go.Proofs.YtbpmkofnfgdegaaGreatDoor
open Go.Proofs.Tryz
open Go.RowKit Go.Sort Go.Shelf Go.Lib
section
variable {α:Type} [Inhabited α]
theorem ziP (enc:α->List Value) (k:Nat) (hk: ∀x,(enc x).length=k) (d:List α):flatK enc k d.toArray=(d.map enc).flatten.toArray:=by
 have hz: ∀l∈d.map enc,l.length=k:=fun l hl=>by
  obtain⟨x,_,rfl⟩:=List.mem_map.1 hl;exact hk x
 have hl:=zb7 (d.map enc) hz;apply Array.ext';apply List.ext_getElem?;intro p;by_cases hp:p<d.length*k
 ·have hk0:0<k:=by
   rcases Nat.eq_zero_or_pos k with h|h
   ·subst h;simp at hp
   ·exact h
  have hi:p/k<d.length:=Nat.div_lt_of_lt_mul (by rw[Nat.mul_comm];exact hp);have hj:p%k<k:=Nat.mod_lt _ hk0;have h1:=zcD (d.map enc) hz (p/k) (p%k) (enc d[p/k]) ((enc d[p/k])[p%k]'(by rw[hk];exact hj)) (by simp[hi]) (List.getElem?_eq_getElem _);rw[Nat.div_add_mod']at h1;rw[List.toList_toArray,h1,Array.getElem?_toList];simp[flatK,hp,hi,hk,hj]
 ·rw[List.getElem?_eq_none (by simp;omega),List.getElem?_eq_none (by simp[hl];omega)]
theorem zid {P:Program} {ρ:Ren} (L:SlLaysF0.n6 P ρ) {e:TypeId} (k:Nat) (aE: ∀w,(isAgg (ρ.t 24)).run P w= .ok true w) (zE: ∀w,(Go.sizeOf (ρ.t 24)).run P w= .ok k w) (enc:α->List Value) (hk: ∀x,(enc x).length=k) (h1: ∀x,∀v∈enc x,v.oneCell'=true)
 (cf:α->α->Int) (hO:SWO (ltOf cf)) (g:Nat) (cb:Array Value) (d:List α) (hd:0<d.length) (hsz:d.length<4611686018427387904) (ef: ∀(args:Array Value) (w:World),(callFunc (ρ.f 6) args).run P w= .ok (.enter (ρ.f 6) args) w) (eg: ∀args w,(callFunc g args).run P w= .ok (.enter g args) w)
 (hcmp: ∀blk w,CmpLays P g cb enc k cf blk 0 d.length w) (hT: ∀x y,(ltOf cf) x y=false->(ltOf cf) y x=false->x=y):
 Turns P (ρ.f 6) [.func (.func g) #[] cb] e k (d.map enc) ((d.mergeSort fun x y=> !(ltOf cf) y x).map enc):=by
 refine zex (by simpa using hd) ef (by simp) (fun l hl=> ?_) (fun l hl=> ?_) fun w b cap hH hb=> ?_
 ·obtain⟨x,_,rfl⟩:=List.mem_map.1 hl;exact hk x
 ·obtain⟨x,_,rfl⟩:=List.mem_map.1 hl;exact⟨hk x,h1 x⟩
 ·have:=AnyQ.slices_SortFunc_total L k aE zE enc hk h1 cf hO g cb b 0 cap d.toArray w eg (by simpa using hcmp b w) (by unfold HoldsK;rw[ziP enc k hk];exact hH) hb (by simpa using hsz) hT;rw[List.length_map];refine(by simpa using this:Calls P (ρ.f 6) #[.slice (some ⟨b,0,none⟩) d.length cap, .func (.func g) #[] cb] w _).mono ?_;rintro ex w' ⟨rfl,n,os,rfl⟩;refine⟨rfl,n,os,?_⟩;unfold sortWorldK putRowK;rw[ziP enc k hk]
end
end Go.Proofs.YtbpmkofnfgdegaaGreatDoor
namespace Go.Proofs
open Go.Shelf
def Tryz.sortTm_ren:Go.Shelf.Ren:=⟨fun|6=>235|15=>180|14=>270|28=>221|29=>222|20=>280|21=>281|22=>282|23=>283|24=>284|25=>285|26=>286|27=>287|46=>290|47=>255|48=>256|49=>291|50=>292|57=>293|n=>n,fun|22=>29|24=>86|25=>272|3=>3|39=>223|0=>0|53=>170|55=>259|4=>4|46=>253|45=>252|50=>178|5=>5|9=>9|66=>283|70=>287|76=>296|77=>92|n=>n,fun|n=>n⟩
theorem Tryz.sortTm:Go.Proofs.SlLaysF0.n6 prog Tryz.sortTm_ren:={
 mixed:=by kernel_rfl
 f6:=⟨Tryz.f235.name,by decide,func235.trans (congrArg some (by kernel_rfl))⟩
 f14:=⟨Tryz.f270.name,by decide,func270.trans (congrArg some (by kernel_rfl))⟩
 f15:=func180.trans (congrArg some (by kernel_rfl))
 f20:=⟨Tryz.f280.name,by decide,func280.trans (congrArg some (by kernel_rfl))⟩
 f21:=⟨Tryz.f281.name,by decide,func281.trans (congrArg some (by kernel_rfl))⟩
 f22:=⟨Tryz.f282.name,by decide,func282.trans (congrArg some (by kernel_rfl))⟩
 f23:=⟨Tryz.f283.name,by decide,func283.trans (congrArg some (by kernel_rfl))⟩
 f24:=⟨Tryz.f284.name,by decide,func284.trans (congrArg some (by kernel_rfl))⟩
 f25:=⟨Tryz.f285.name,by decide,func285.trans (congrArg some (by kernel_rfl))⟩
 f26:=⟨Tryz.f286.name,by decide,func286.trans (congrArg some (by kernel_rfl))⟩
 f27:=⟨Tryz.f287.name,by decide,func287.trans (congrArg some (by kernel_rfl))⟩
 f28:=func221.trans (congrArg some (by kernel_rfl))
 f29:=func222.trans (congrArg some (by kernel_rfl))
 f46:=⟨Tryz.f290.name,by decide,func290.trans (congrArg some (by kernel_rfl))⟩
 f47:=func255.trans (congrArg some (by kernel_rfl))
 f48:=func256.trans (congrArg some (by kernel_rfl))
 f49:=⟨Tryz.f291.name,by decide,func291.trans (congrArg some (by kernel_rfl))⟩
 f50:=⟨Tryz.f292.name,by decide,func292.trans (congrArg some (by kernel_rfl))⟩
 f57:=⟨Tryz.f293.name,by decide,func293.trans (congrArg some (by kernel_rfl))⟩
 t0:=Tryz.underlying0
 a0:=Tryz.isAgg0
 z0:=Tryz.sizeOf0
 v0:=Tryz.zeroValue0
 t3:=Tryz.underlying3
 a3:=Tryz.isAgg3
 z3:=Tryz.sizeOf3
 v3:=Tryz.zeroValue3
 t4:=Tryz.underlying4
 a4:=Tryz.isAgg4
 z4:=Tryz.sizeOf4
 v4:=Tryz.zeroValue4
 t5:=Tryz.underlying5
 a5:=Tryz.isAgg5
 z5:=Tryz.sizeOf5
 v5:=Tryz.zeroValue5
 t9:=Tryz.underlying9
 a9:=Tryz.isAgg9
 z9:=Tryz.sizeOf9
 v9:=Tryz.zeroValue9
 t22:=Tryz.underlying29
 a22:=Tryz.isAgg29
 z22:=Tryz.sizeOf29
 v22:=Tryz.zeroValue29
 t25:=Tryz.underlying272
 a25:=Tryz.isAgg272
 z25:=Tryz.sizeOf272
 v25:=Tryz.zeroValue272
 t39:=Tryz.underlying223
 a39:=Tryz.isAgg223
 z39:=Tryz.sizeOf223
 v39:=Tryz.zeroValue223
 t45:=Tryz.underlying252
 a45:=Tryz.isAgg252
 z45:=Tryz.sizeOf252
 v45:=Tryz.zeroValue252
 t46:=Tryz.underlying253
 a46:=Tryz.isAgg253
 z46:=Tryz.sizeOf253
 v46:=Tryz.zeroValue253
 t50:=Tryz.underlying178
 a50:=Tryz.isAgg178
 z50:=Tryz.sizeOf178
 v50:=Tryz.zeroValue178
 t53:=Tryz.underlying170
 a53:=Tryz.isAgg170
 z53:=Tryz.sizeOf170
 v53:=Tryz.zeroValue170
 t55:=Tryz.underlying259
 a55:=Tryz.isAgg259
 z55:=Tryz.sizeOf259
 v55:=Tryz.zeroValue259
 t66:=Tryz.underlying283
 a66:=Tryz.isAgg283
 z66:=Tryz.sizeOf283
 v66:=Tryz.zeroValue283
 t70:=Tryz.underlying287
 a70:=Tryz.isAgg287
 z70:=Tryz.sizeOf287
 v70:=Tryz.zeroValue287
 t76:=Tryz.underlying296
 a76:=Tryz.isAgg296
 z76:=Tryz.sizeOf296
 v76:=Tryz.zeroValue296
 t77:=Tryz.underlying92
 a77:=Tryz.isAgg92
 z77:=Tryz.sizeOf92
 v77:=Tryz.zeroValue92 }
end Go.Proofs
