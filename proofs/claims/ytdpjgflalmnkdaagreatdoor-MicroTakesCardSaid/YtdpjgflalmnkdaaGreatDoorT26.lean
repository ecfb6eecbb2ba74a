/- An instance in the midst of a step: states are left. -/
import Derived.Test.YtdpjgflalmnkdaaGreatDoorT25
set_option maxRecDepth 100000
set_option maxHeartbeats 16000000
set_option linter.unusedSimpArgs false
namespace Go.Proofs.YtdpjgflalmnkdaaGreatDoor
open Go.Proofs.Tryz
open Go.RowKit
section
def rrA (r:RunD) (d now:Int):ErD->List AV
 |none=>[ints34 r.act,ints34 r.vars, .seq 2 (r.mem.map mmAV), .seq 2 (r.tms.map tmAV),B r.over,ints34 r.outs, .seq 2 (r.rais.map tmAV),I d,I now,I 0,I (-1)]
 |some (k,_)=>[ints34 r.act, .any, .any, .any, .any, .any, .any,I d,I now,I (k:Nat),I (-1)]
theorem I7 (r:RunD) (d now:Int) (k:Nat) (ps:List Int) (x1 x2 x3 x4 x5 x6:AV):fo (.agg [ints34 r.act,x1,x2,x3,x4,x5,x6,I d,I now,I (k:Nat),I (-1)]) (.agg (rrA r d now (some (k,ps)))):=
 .of (.agg (.cons (.refl _) (.cons (.any _) (.cons (.any _) (.cons (.any _) (.cons (.any _) (.cons (.any _) (.cons (.any _) (.cons (.refl _) (.cons (.refl _) (.cons (.refl _) (.cons (.refl _) .nil)))))))))))) (fun _ _ _ h=>by cases h) (fun _ _ _ h=>by cases h)
theorem gn (env:Env) (r:RunD) (d now:Int) (k:Nat) (ps:List Int):Con prog env 151 [.agg (rrA r d now none),I (k:Nat)] (.agg (rrA r d now (some (k,ps)))):=by
 refine qw func151 call151 ntmps151 results151 ?_;have F:=ai rrA.eq_1 rrA.eq_2;repeat refine st ?_
 (refine aM ?_;refine⟨_,(by show (ae _ _ _).run _=some _;simp only[go_sem,F];rfl),?_⟩)
 exact I7 r d now k ps _ _ _ _ _ _
theorem wL (env:Env) (l:List (List UInt8×Int)) (hl:l.length<=4000) (s:List UInt8):Con prog env 148 [.seq 2 (l.map tmAV),Sg s] (.own 92 2 ((without l s).map tmAV)):=by
 refine qf func148 call148 ntmps148 results148 ?_;repeat refine st0 ?_
 refine lq0 l.length (by omega) (fun j vs=>[(0, .seq 2 (l.map tmAV)),(1,Sg s),(5, .row 7 (vs 7)),(6,I j)]) (fun j vs=>[(7,⟨2,(without (l.take j) s).map tmAV,92,true⟩)]) (fun j _ esc=>esc 7=false) (by simp only[go_sem]) ?_ ?_
 ·rintro j ws es hlt q1 q2 e0;obtain⟨x,hx⟩:=gE hlt;have hle:(without (l.take j) s).length<=j:=Km (Kq ..) (by rw[Kg];omega);have q3:Fits ((without (l.take j) s).length+1) 24:=aC (by omega) (by omega);cases hb:x.1==s with
  | true=>
    have q4:without (l.take (j+1)) s=without (l.take j) s:=by unfold without;rw[bQ hx,LE];simp[hb]
    have F:=ai6 tmAV.eq_1 hx hb q1 q2 e0;repeat refine st ?_
    refine⟨j+1,⟨hlt,by simp only[go_sem,e0]⟩,?_,?_,by omega⟩
    ·exact qe
    ·simp only[q4];exact qe
  | false=>
    have q4:(without (l.take (j+1)) s).map tmAV=(without (l.take j) s).map tmAV++[tmAV x]:=by unfold without;rw[bQ hx,LE];simp[hb]
    have F:=ai7 tmAV.eq_1 hx hb q1 q2 q3 e0;repeat refine st ?_
    refine⟨j+1,⟨hlt,by simp only[go_sem,e0]⟩,?_,?_,by omega⟩
    ·exact qe
    ·simp only[q4];exact qe
 ·rintro ws es q1 e0;rw[Kt];have F:=ai q1 e0;repeat refine st ?_
  exact aR
theorem Gx (x y:List UInt8):(Op.bytesLess y x||y==x)= !Op.bytesLess x y:=by
 cases h:Op.bytesLess x y with
 | true=>
   rw[oE h]
   have:(y==x)=false:=by
    rw[Ny];rintro rfl;rw[eF]at h;cases h
   rw[this];rfl
 | false=>
   cases h2:Op.bytesLess y x with
   |true=>rfl
   |false=>rw[de h2 h];simp
theorem It {x y:List UInt8×Int} {L:List (List UInt8×Int)} (h:Op.bytesLess x.1 y.1=true):insT x (y::L)=x::y::L:=by simp[insT,h]
theorem Jj {x y:List UInt8×Int} {L:List (List UInt8×Int)} (h:Op.bytesLess x.1 y.1=false):insT x (y::L)=y::insT x L:=by simp[insT,h]
theorem wN (env:Env) (l:List (List UInt8×Int)) (hl:l.length<=4000) (x:List UInt8×Int):Con prog env 152 [.seq 2 (l.map tmAV), .agg (tmAV x)] (.own 92 2 ((insT x l).map tmAV)):=by
 unfold tmAV;show Con _ _ _ [.seq 2 (l.map tmAV),_] (.own _ 2 ((insT x l).map tmAV));refine qf func152 call152 ntmps152 results152 ?_;repeat refine st0 ?_
 refine lp0 (D:=Nat×Bool×List (List UInt8×Int)) (fun d vs=>[(0, .seq 2 (l.map tmAV)),(3, .loc 3 (vs 3) 0 0),(5, .row 8 (vs 8)),(6,B d.2.1),(7,I d.1)]) (fun d vs=>[(3,⟨2,[[Sg x.1,I x.2]],92,false⟩),(8,⟨2,d.2.2.map tmAV,92,true⟩)]) (fun d _ esc=>(d.1<=l.length/\d.2.2.length<=d.1+(if d.2.1=true then 1 else 0)/\insT x l=d.2.2++(if d.2.1=true then l.drop d.1 else insT x (l.drop d.1)))/\esc 8=false) (fun d=>l.length-d.1) (0,false,[]) ⟨⟨Kj _,Kj _,rfl⟩,by simp only[go_sem]⟩ ?_;rintro⟨j,b,o⟩ ws es ⟨⟨hj,hol,heq⟩,e0⟩;simp only at hj hol heq;have hol2:o.length<=j+1:=by split at hol<;>omega
 by_cases hlt:j<l.length
 ·obtain⟨y,hx⟩:=gE hlt;have q1:=nlt hlt;have q2:=aD hlt (by omega);have q3:Fits (o.length+1) 24:=aC (by omega) (by omega);have q5:Fits (o.length+1+1) 24:=aC (by omega) (by omega);have hg:=Gx x.1 y.1;have q4:(o++[y]).map tmAV=o.map tmAV++[[Sg y.1,I y.2]]:=by rw[Ka];rfl
  have q6:(o++[x,y]).map tmAV=o.map tmAV++[[Sg x.1,I x.2]]++[[Sg y.1,I y.2]]:=by rw[Ka,LM];rfl
  rw[bB hx]at heq;cases b with
  | true=>
    simp only[L1]at heq;have F:=ai6 tmAV.eq_1 hx q1 q2 q3 e0;repeat refine st ?_
    refine⟨(j+1,true,o++[y]),⟨⟨hlt,by simp only[L1,K8,LI]at hol |-;omega,by simp only[L1];rw[heq,LM];rfl⟩,by simp only[go_sem,e0]⟩,?_,?_,by simp only;omega⟩
    ·exact qe
    ·simp only[q4];exact qe
  | false=>
    simp only[Ku,Ld]at heq;cases hb:Op.bytesLess x.1 y.1 with
    | true=>
      rw[hb]at hg;rw[It hb]at heq;have F:=ai8 tmAV.eq_1 hx hg q1 q2 q3 q5 e0;repeat refine st ?_
      refine⟨(j+1,true,o++[x,y]),⟨⟨hlt,?_,?_⟩,by simp only[go_sem,e0]⟩,?_,?_,by simp only;omega⟩
      ·simp only[Ku,Ld]at hol;simp only[K8,Ks,NG,L1];omega
      ·simp only[L1];rw[heq,LM];rfl
      ·exact qe
      ·simp only[q6];exact qe
    | false=>
      rw[hb]at hg;rw[Jj hb]at heq;have F:=ai7 tmAV.eq_1 hx hg q1 q2 q3 e0;repeat refine st ?_
      refine⟨(j+1,false,o++[y]),⟨⟨hlt,by simp only[Ku,Ld,K8,LI]at hol |-;omega,by simp only[Ku,Ld];rw[heq,LM];rfl⟩,by simp only[go_sem,e0]⟩,?_,?_,by simp only;omega⟩
      ·exact qe
      ·simp only[q4];exact qe
 ·obtain rfl:j=l.length:=by omega
  have q1:=nl l.length;have q3:Fits (o.length+1) 24:=aC (by omega) (by omega);rw[Ls]at heq;cases b with
  | true=>
    rw[K5 rfl,Lo]at heq;rw[heq];have F:=ai q1 e0;repeat refine st ?_
    exact aR
  | false=>
    rw[K2 LO]at heq;have q4:(insT x l).map tmAV=o.map tmAV++[[Sg x.1,I x.2]]:=by rw[heq,Ka];rfl
    rw[q4];have F:=ai3 q1 q3 e0;repeat refine st ?_
    exact aR
theorem qy (env:Env) (r:RunD) (d now:Int) (s:List UInt8) (v:Int):Con prog env 90 [.agg (rrA r d now none),Sg s,I v] (.agg (rrA (raiseP r s v).1 d now (raiseP r s v).2)):=by
 have f0:=gn env r d now 8 [-1];unfold raiseP;by_cases hl:16<=r.rais.length
 ·rw[K5 hl];have q0:(16:Int)<=(r.rais.length:Int):=by omega
  unfold rrA at f0 |-;simp only;refine qf func90 call90 ntmps90 results90 ?_;have F:=q0;repeat refine tz1 f0 ?_
  exact aR
 ·rw[K2 hl];have q0: ¬(16:Int)<=(r.rais.length:Int):=by omega
  have q1:Fits (r.rais.length+1) 24:=aC (by omega) (by omega);have q2:Fits r.rais.length 24:=aC (by omega) (by omega);unfold rrA;simp only[Ka,LR,MD];refine qf func90 call90 ntmps90 results90 ?_;have F:=ai4 tmAV.eq_1 q0 q1 q2;repeat refine st ?_
  exact aR
end
section
theorem Ib (env:Env) (c:ChD) (hc:c.states.length<=4000) (hcv:c.vars.length<=1000) (d now:Int) (hd:aL d=true) (hn:0<=now/\now<=1099511627776) (r:RunD) (hr:RunOk c r) (hl:r.act.length<=1000000) (a:ActD) (ha:fh c.vars.length c.states.length a=true):Con prog env 88 [.agg (aA c), .agg (rrA r d now none), .agg (au a)] (.agg (rrA (doP c d now r a).1 d now (doP c d now r a).2)):=by
 have hlv:=hr.len;have hlt:=hr.tml;have w0:=(wL env r.tms (by omega) a.name).lend (ag (fun _=>rfl) _);unfold doP;by_cases h5:a.kind=5
 ·rw[K5 h5];have k5:(a.kind==5)=true:=by simp[h5]
  generalize without r.tms a.name=L at*;unfold rrA;simp only;refine qf func88 call88 ntmps88 results88 ?_;have F:=ai3 aA.eq_1 au.eq_1 k5;repeat refine st ?_
  refine lL w0 ?_;repeat refine st ?_
  exact aR
 rw[K2 h5];have k5:(a.kind==5)=false:=by simp[h5]
 have hcode:bg a.code c.vars.length c.states.length=true:=by
  unfold fh at ha;repeat' split at ha
  all_goals (first|(exact absurd ‹a.kind=5› h5)|(simp only[K3]at ha;exact ha.2)|cases ha)
 have f1:=Az env c hc (r.act,r.vars,r.mem,r.tms,r.over) hl d;have f2:=E6 env (woR c d r) (CS hr hd) (by show r.vars.length<=_;omega) a.code (by rw[show (woR c d r).act.length=c.states.length from qY c r.act r.vars d,show (woR c d r).vars.length=c.vars.length from hr.len];exact hcode);rw[show woX c (r.act,r.vars,r.mem,r.tms,r.over).1 (r.act,r.vars,r.mem,r.tms,r.over).2.1 d=woR c d r from rfl]at f1;generalize (woR c d r)=W at*;unfold aA inE at f1;simp only at f1;cases hv:lD W a.code with
 | none=>
   have f3:=gn env r d now 2 [-1, -1];rw[hv]at f2;unfold IV at f2;unfold rrA at f3 |-;simp only;refine qf func88 call88 ntmps88 results88 ?_;have F:=ai3 aA.eq_1 au.eq_1 k5;repeat refine tz3 f1 f2 f3 ?_
   exact aR
 | some v=>
   rw[hv]at f2;unfold IV at f2;simp only;have r0:=qy env r d now a.name v;by_cases k1:a.kind=1
   ·rw[K5 k1];have q1:(a.kind==1)=true:=by simp[k1]
    obtain⟨hn0,hn1⟩:0<=a.n/\a.n<c.vars.length:=by
     unfold fh at ha;rw[K5 k1]at ha;simp only[K3,Kh]at ha;exact ha.1.1
    have q2:a.n< (r.vars.length:Int):=by omega
    have q3:Fits r.vars.length 8:=aC (by omega) (by omega);obtain⟨x,hx⟩: ∃x,r.vars[a.n.toNat]? =some x:=⟨r.vars[a.n.toNat]'(by omega),KZ _⟩;unfold rrA;simp only[NT,ints34];refine qf func88 call88 ntmps88 results88 ?_;have F:=ai9 aA.eq_1 au.eq_1 intAV.eq_1 k5 q1 q2 q3 hn0 hx;repeat refine tz2 f1 f2 ?_
    exact aR
   rw[K2 k1];have q1:(a.kind==1)=false:=by simp[k1]
   by_cases k2:a.kind=2
   ·rw[K5 k2];have q2:(a.kind==2)=true:=by simp[k2]
    generalize raiseP r a.name v=X at*;rcases X with⟨r1,_|⟨k,ps⟩⟩
    ·unfold rrA at r0 |-;simp only at r0 |-;refine qf func88 call88 ntmps88 results88 ?_;have F:=ai5 aA.eq_1 au.eq_1 k5 q1 q2;repeat refine tz3 f1 f2 r0 ?_
     exact aR
    ·unfold rrA at r0 |-;simp only at r0 |-;refine qf func88 call88 ntmps88 results88 ?_;have F:=ai5 aA.eq_1 au.eq_1 k5 q1 q2;repeat refine tz3 f1 f2 r0 ?_
     exact aR
   rw[K2 k2];have q2:(a.kind==2)=false:=by simp[k2]
   by_cases k4:a.kind=4
   ·rw[K5 k4];have q4:(a.kind==4)=true:=by simp[k4]
    have k0:IntKind.i64.wrap (1099511627776-now)=1099511627776-now:=aU (by omega) (by omega);unfold startP;by_cases hw:v<0\/1099511627776-now<v
    ·rw[K5 hw];have f3:=gn env r d now 2 [-1];unfold rrA at f3 |-;simp only;by_cases hv0:v<0
     ·refine qf func88 call88 ntmps88 results88 ?_;have F:=ai7 aA.eq_1 au.eq_1 k5 q1 q2 q4 hv0;repeat refine tz3 f1 f2 f3 ?_
      exact aR
     ·have hv1:1099511627776-now<v:=by omega
      refine qf func88 call88 ntmps88 results88 ?_;have F:=ai9 aA.eq_1 au.eq_1 k5 q1 q2 q4 hv0 hv1 k0;repeat refine tz3 f1 f2 f3 ?_
      exact aR
    rw[K2 hw];have hv0: ¬v<0:=by omega
    have hv1: ¬1099511627776-now<v:=by omega
    by_cases h8:8<=(without r.tms a.name).length
    ·rw[K5 h8];have q0:(8:Int)<=((without r.tms a.name).length:Int):=by omega
     have f3:=gn env r d now 8 [-1];generalize without r.tms a.name=L at*;unfold rrA at f3 |-;simp only;refine qf func88 call88 ntmps88 results88 ?_;have F:=ai10 aA.eq_1 au.eq_1 k5 q1 q2 q4 hv0 hv1 k0 q0;repeat refine tz2 f1 f2 ?_
     refine lL w0 ?_;repeat refine tz1 f3 ?_
     exact aR
    ·rw[K2 h8];have q0: ¬(8:Int)<=((without r.tms a.name).length:Int):=by omega
     have q3:IntKind.i64.wrap (now+v)=now+v:=aU (by omega) (by omega);have f3:=(wN env (without r.tms a.name) (by omega) (a.name,now+v)).lend (ag (fun _=>rfl) _);generalize insT (a.name,now+v) (without r.tms a.name)=L2 at*;generalize without r.tms a.name=L at*;unfold tmAV at f3;change ConF _ _ _ [.seq 2 (L.map tmAV),_] (.own _ 2 (L2.map tmAV)) at f3;unfold rrA;simp only;refine qf func88 call88 ntmps88 results88 ?_;have F:=ai11 aA.eq_1 au.eq_1 k5 q1 q2 q4 hv0 hv1 k0 q0 q3;repeat refine tz2 f1 f2 ?_
     refine lL w0 ?_;repeat refine st ?_
     refine lL f3 ?_;repeat refine st ?_
     exact aR
   rw[K2 k4];have q4:(a.kind==4)=false:=by simp[k4]
   unfold Ie;by_cases ho:256<=r.outs.length
   ·rw[K5 ho];have q0:(256:Int)<=(r.outs.length:Int):=by omega
    have f3:=gn env r d now 8 [-1];unfold rrA at f3 |-;simp only;refine qf func88 call88 ntmps88 results88 ?_;have F:=ai7 aA.eq_1 au.eq_1 k5 q1 q2 q4 q0;repeat refine tz3 f1 f2 f3 ?_
    exact aR
   ·rw[K2 ho];have q0: ¬(256:Int)<=(r.outs.length:Int):=by omega
    have q3:Fits (r.outs.length+1) 8:=aC (by omega) (by omega);have q5:Fits r.outs.length 8:=aC (by omega) (by omega);unfold rrA;simp only[Ka,LR,MD,ints34];refine qf func88 call88 ntmps88 results88 ?_;have F:=ai10 aA.eq_1 au.eq_1 intAV.eq_1 k5 q1 q2 q4 q0 q3 q5;repeat refine tz2 f1 f2 ?_
    exact aR
def wC (e:ErD):Prop:= ∀x,e=some x->x.1=2\/x.1=8
theorem si (r:RunD) (s:List UInt8) (v:Int):wC (raiseP r s v).2:=by
 unfold raiseP;split<;>(intro x h;cases h);exact .inr rfl
theorem KM (c:ChD) (d now:Int) (r:RunD) (a:ActD):wC (doP c d now r a).2:=by
 unfold doP;split
 ·intro x h;cases h
 split
 ·intro x h;cases h;exact .inl rfl
 split
 ·intro x h;cases h
 split
 ·exact si _ _ _
 split
 ·unfold startP;split
  ·intro x h;cases h;exact .inl rfl
  split
  ·intro x h;cases h;exact .inr rfl
  ·intro x h;cases h
 ·unfold Ie;split
  ·intro x h;cases h;exact .inr rfl
  ·intro x h;cases h
theorem uQ (c:ChD) (d now:Int): ∀(l:List ActD) (r:RunD),wC (allP c d now r l).2
 |[],r=>fun x h=>by cases h
 | a::l,r=>by
   unfold allP;split
   ·exact uQ c d now l _
   ·exact KM c d now r a
theorem zO (env:Env) (c:ChD) (hc:c.states.length<=4000) (hcv:c.vars.length<=1000) (d now:Int) (hd:aL d=true) (hn:0<=now/\now<=1099511627776) (r:RunD) (hr:RunOk c r) (hl:r.act.length<=1000000) (l:List ActD) (hll:l.length<=1000) (ha: ∀a∈l,fh c.vars.length c.states.length a=true):Con prog env 39 [.agg (aA c), .agg (rrA r d now none), .seq 4 (l.map au)] (.agg (rrA (allP c d now r l).1 d now (allP c d now r l).2)):=by
 have hdo:=fun(r:RunD) hr hl (a:ActD) ha=>Ib env c hc hcv d now hd hn r hr hl a ha;have hok:=fun(r:RunD) (hr:RunOk c r) (a:ActD) ha=>IW hd hn hr (a:=a) ha;refine qf func39 call39 ntmps39 results39 ?_;have F:=ai3 rrA.eq_1 rrA.eq_2 aA.eq_1;repeat refine st ?_
 refine aI (D:=Nat×RunD×ErD) (fun x vs=>[(2, .seq 4 (l.map au)),(3, .loc 3 (vs 3) 0 0),(4, .loc 4 (vs 4) 0 0),(6, .loc 6 (vs 6) 0 0),(7,I x.1)]) (fun x vs=>[(3,⟨5,[aA c],26,false⟩),(4,⟨11,[rrA x.2.1 d now x.2.2],50,false⟩),(6,⟨11,[[nilS,nilS,nilS,nilS,B false,nilS,nilS,I 0,I 0,I 0,I 0]],50,false⟩)]) (fun x _ esc=>(x.1<=l.length/\(match x.2.2 with
  |none=>allP c d now r l=allP c d now x.2.1 (l.drop x.1)/\RunOk c x.2.1/\x.2.1.act=r.act
  |some e=>allP c d now r l=(x.2.1,some e)))/\esc 4=false/\esc 6=false) (fun x=>(l.length-x.1)+(if x.2.2.isSome=true then 0 else 1)) (0,r,none) ?_ ?_ ?_ ?_
 ·exact⟨⟨Kj _,rfl,hr,rfl⟩,by simp only[go_sem,Kk]⟩
 ·exact qe
 ·exact qe
 rintro⟨j,r1,e⟩ ws es ⟨⟨hj,heq⟩,e0,e1⟩;simp only at hj heq;rcases e with _|⟨k,ps⟩
 ·obtain⟨heq,hr1,hact⟩:=heq;by_cases hlt:j<l.length
  ·obtain⟨a,hx⟩:=gE hlt;have ham:=ha a (K4 hx);have f0:=hdo r1 hr1 (by rw[hact];exact hl) a ham;obtain⟨k1,k2⟩:=hok r1 hr1 a ham;have q1:=nlt hlt;have q2:=aD hlt (by omega);rw[AR hx]at heq;unfold aA au at f0;rcases hX:doP c d now r1 a with⟨r2,_|⟨k,ps⟩⟩
   ·rw[hX]at heq f0 k1 k2;simp only at heq k1 k2;unfold rrA at f0;simp only at f0;have F:=ai9 rrA.eq_1 rrA.eq_2 aA.eq_1 au.eq_1 hx q1 q2 e0 e1;repeat refine tz1 f0 ?_
    refine⟨(j+1,r2,none),⟨⟨hlt,heq,k1,k2.act.trans hact⟩,?_⟩,?_,?_,?_⟩
    ·simp only[go_sem,e0,e1,Kk]
    ·exact qe
    ·exact qe
    ·simp;omega
   ·rw[hX]at heq f0;simp only at heq;unfold rrA at f0;simp only at f0;have F:=ai9 rrA.eq_1 rrA.eq_2 aA.eq_1 au.eq_1 hx q1 q2 e0 e1;repeat refine tz1 f0 ?_
    refine⟨(j+1,r2,some (k,ps)),⟨⟨hlt,heq⟩,?_⟩,?_,?_,?_⟩
    ·simp only[go_sem,e0,e1,Kk]
    ·exact qe
    ·exact qe
    ·simp;omega
  ·obtain rfl:j=l.length:=by omega
   have q1:=nl l.length;rw[Ls]at heq;rw[show allP c d now r1 []=(r1,none) from rfl]at heq;rw[heq];show awp _ _ _ _ _ _;have F:=ai6 rrA.eq_1 rrA.eq_2 aA.eq_1 q1 e0 e1;repeat refine st ?_
   exact aR
 ·have hk:((k:Int)==0)=false:=by
   have:=uQ c d now l r (k,ps) (by rw[heq]);simp;simp only at this;omega
  rw[heq];show awp _ _ _ _ _ _;by_cases hlt:j<l.length
  ·have q1:=nlt hlt;have F:=ai7 rrA.eq_1 rrA.eq_2 aA.eq_1 q1 hk e0 e1;repeat refine st ?_
   exact aR
  ·obtain rfl:j=l.length:=by omega
   have q1:=nl l.length;have F:=ai7 rrA.eq_1 rrA.eq_2 aA.eq_1 q1 hk e0 e1;repeat refine st ?_
   exact aR
end
section
theorem gy {c:ChD} {k:Nat} {s:StD} (hs:c.states[k]? =some s):bS c k=s.kind:=by unfold bS;rw[bI,hs]
theorem vk (env:Env) (c:ChD) (h:Full c) (act:List Int): ∀(f i:Nat),i<c.states.length->c.states.length-i<=f->Con prog env 217 [.agg (aA c),aJ c, .seq 1 (flagA c.states.length act),I i] (B (np c act f i))
 |0,i,hi,hf=>by omega
 | f+1,i,hi,hf=>by
   have hlen:=h.few;obtain⟨s,hs⟩:=gE hi;have ih:=fun(k:Nat) hk hf=>vk env c h act f k hk hf;have q0:=nlt hi;have f0:=bV env c h i;rw[K5 (.inr (aV.2 hi))]at f0;have f0:=(f0.lend (ag (fun _=>rfl) _)).seen;have hK:=bD h.toRight i true;have hKm: ∀j∈kidsL c i true,i<j/\j<c.states.length:=fun j hj=>by have:=bE h.toRight (aX hj).1;omega
   have hfl:=eT c.states.length act;unfold np;rw[gy hs,show kidZ c (i:Int)=zL (kidsL c i true) from rfl];generalize kidsL c i true=K at*;unfold aJ at f0 ih |-;by_cases k3:s.kind=3
   ·rw[K5 k3];have b3:(s.kind==3)=true:=by simp[k3]
    refine qf func217 call217 ntmps217 results217 ?_;have F:=ai5 aA.eq_1 aK.eq_1 hs q0 b3;repeat refine st ?_
    exact aR
   rw[K2 k3];have b3:(s.kind==3)=false:=by simp[k3]
   by_cases k1:s.kind=1
   ·rw[K5 k1];have b1:(s.kind==1)=true:=by simp[k1]
    refine qf func217 call217 ntmps217 results217 ?_;have F:=ai6 aA.eq_1 aK.eq_1 hs q0 b3 b1;repeat refine st ?_
    refine lL f0 ?_;repeat refine st ?_
    refine lq K.length (by omega) (fun j vs=>[(2, .seq 1 (flagA c.states.length act)),(4, .loc 4 (vs 4) 0 0),(25, .seq 1 (K.map aB)),(26,I K.length),(27,I j)]) (fun j vs=>[(4,⟨5,[aA c],26,false⟩)]) (fun j _ esc=>(zL K).find? (fun k=>act.contains k)=((zL K).drop j).find? fun k=>act.contains k) rfl ?_ ?_
    ·rintro j ws es hlt q1 q2 heq;obtain⟨k,hx⟩:=gE hlt;obtain⟨_,hk⟩:=hKm k (K4 hx);obtain⟨t,ht⟩:=gE hk;have q3:=nlt hk;have hat:=js (act:=act) hk;rw[bB (pm hx),List.find?_cons]at heq;cases hb:act.contains (k:Int) with
     | true=>
       rw[hb]at hat heq;simp only at heq;rw[heq];simp only[gy ht];show awp _ _ _ _ _ _;have F:=ai11 aA.eq_1 aK.eq_1 aB.eq_1 hs ht hx q1 q2 q3 hat hfl;repeat refine st ?_
       exact aR
     | false=>
       rw[hb]at hat heq;simp only at heq;have F:=ai11 aA.eq_1 aK.eq_1 aB.eq_1 hs ht hx q1 q2 q3 hat hfl;repeat refine st ?_
       exact qn (j+1) ⟨hlt,heq⟩
    ·rintro ws es q1 heq;rw[La (by rw[an];omega)]at heq;rw[heq];show awp _ _ _ _ _ _;simp only[NZ];have F:=q1;repeat refine st ?_
     exact aR
   ·rw[K2 k1];have b1:(s.kind==1)=false:=by simp[k1]
    refine qf func217 call217 ntmps217 results217 ?_;have F:=ai6 aA.eq_1 aK.eq_1 hs q0 b3 b1;repeat refine st ?_
    refine lL f0 ?_;repeat refine st ?_
    refine lq K.length (by omega) (fun j vs=>[(1, .ref 9 [tabCells c] 0 0),(2, .seq 1 (flagA c.states.length act)),(4, .loc 4 (vs 4) 0 0),(45, .seq 1 (K.map aB)),(46,I K.length),(47,I j)]) (fun j vs=>[(4,⟨5,[aA c],26,false⟩)]) (fun j _ esc=>((zL K).all fun k=>np c act f k)=((zL K).drop j).all fun k=>np c act f k) rfl ?_ ?_
    ·rintro j ws es hlt q1 q2 heq;obtain⟨k,hx⟩:=gE hlt;obtain⟨hk0,hk⟩:=hKm k (K4 hx);have f1:=ih k hk (by omega);rw[bB (pm hx),OA]at heq;cases hb:np c act f (k:Int) with
     | true=>
       rw[hb]at f1 heq;rw[LN]at heq;unfold aA at f1;have F:=ai5 aA.eq_1 aB.eq_1 hx q1 q2;repeat refine tz1 f1 ?_
       exact qn (j+1) ⟨hlt,heq⟩
     | false=>
       rw[hb]at f1 heq;rw[LJ]at heq;rw[heq];unfold aA at f1;show awp _ _ _ _ _ _;have F:=ai5 aA.eq_1 aB.eq_1 hx q1 q2;repeat refine tz1 f1 ?_
       exact aR
    ·rintro ws es q1 heq;rw[La (by rw[an];omega)]at heq;rw[heq];show awp _ _ _ _ _ _;have F:=q1;repeat refine st ?_
     exact aR
theorem Fa (env:Env) (a1 a8:Addr) (he:ChEnv env a1 a8) (c:ChD) (h:Full c) (hs:Small c) (act:List Int) (hl:act.length<=1000000) (hb:lgB c act=true) (i:Nat) (hi:i<c.states.length):Con prog env 177 [aJ c, .seq 1 (act.map intAV),I i] (.tuple [B (sA c act i),nilE]):=by
 have hlen:=h.few;have f0:=cQ env a1 a8 he c h hs act hl;unfold uO at f0;rw[hb]at f0;simp only[L1]at f0;have f1:=((jJ env c (by omega) act hl).lend (ag (fun _=>rfl) _)).seen;have f2:=ao env c hs;have f3:=vk env c h act 40 i hi (by omega);have hfl:=eT c.states.length act;have hat:=js (act:=act) hi;have q0:=nlt hi;unfold sA;cases hc:act.contains (i:Int) with
 | true=>
   rw[hc]at hat;rw[LN];unfold aJ at*;unfold aA at f2 f3;refine qf func177 call177 ntmps177 results177 ?_;have F:=ai3 hfl hat q0;repeat refine tz1 f0 ?_
   refine lL f1 ?_;repeat refine tz2 f2 f3 ?_
   exact aR
 | false=>
   rw[hc]at hat;rw[LJ];unfold aJ at*;refine qf func177 call177 ntmps177 results177 ?_;have F:=ai3 hfl hat q0;repeat refine tz1 f0 ?_
   refine lL f1 ?_;repeat refine st ?_
   exact aR
end
section
def doneD (c:ChD) (act:List Int):Nat->Int->Bool
 |0,_=>false
 | f+1,i=>if bS c i=2 then(kidZ c i).all fun k=>doneD c act f k
   else if bS c i=1 then(kidZ c i).any fun k=>act.contains k&&bS c k==3
   else bS c i==3
theorem vj {c:ChD} (h:Full c) {act:List Int} (hb:lgB c act=true): ∀(f:Nat) (x:Int),x∈act->np c act f x=doneD c act f x
 |0,x,_=>rfl
 | f+1,x,hx=>by
   have hL:=cx hb;obtain⟨s,hs,hz,hm,hp,h1,h2⟩:=hL.of hx;have hk:bS c x=s.kind:=by unfold bS;rw[hs]
   unfold aT at hm;simp only[Np,Ny]at hm;have hkz:kidZ c x=zL (kidsL c x true):=rfl;unfold np doneD;rw[hk,hkz];by_cases k3:s.kind=3
   ·rw[K5 k3,K2 (by omega),K2 (by omega),k3];rfl
   rw[K2 k3];by_cases k1:s.kind=1
   ·rw[K5 k1,K2 (by omega),K5 k1];by_cases hK:kidsL c x true=[]
    ·rw[hK];rfl
    ·have hone:=h1 k1 hK;unfold manyI at hone;obtain⟨a,ha⟩:=NJ.1 hone
     have hmem: ∀k∈kidsL c x true,act.contains (k:Int)=true->k=a:=fun k hk hc=>by
      have:k∈(kidsL c x true).filter fun k:Nat=>act.contains (k:Int):=Ke.2 ⟨hk,hc⟩;rw[ha]at this;simpa using this
     have hak:a∈kidsL c x true/\act.contains (a:Int)=true:=by
      have:a∈(kidsL c x true).filter fun k:Nat=>act.contains (k:Int):=by rw[ha];simp
      exact Ke.1 this
     cases hfd:(zL (kidsL c x true)).find? fun k=>act.contains k with
     | none=>
       exfalso
       have:=NM.1 hfd a (Kb.2 ⟨a,hak.1,rfl⟩);exact this hak.2
     | some y=>
       have hy:=N8 hfd;obtain⟨k,hk1,rfl⟩:=Kb.1 (MQ hfd);obtain rfl:=hmem k hk1 hy;simp only;rw[LC,Lj];constructor
       ·intro e;exact⟨_,Kb.2 ⟨k,hk1,rfl⟩,by rw[hy,e];rfl⟩
       ·rintro⟨z,hz1,hz2⟩;obtain⟨m,hm1,rfl⟩:=Kb.1 hz1;rw[K3]at hz2;obtain rfl:=hmem m hm1 hz2.1;exact hz2.2
   rw[K2 k1];by_cases k2:s.kind=2
   ·rw[K5 k2];have hall:=h2 k2;unfold manyI at hall;have hall:=NU.1 hall;rw[LC,K7,K7]
    have e: ∀y∈zL (kidsL c x true),np c act f y=doneD c act f y:=fun y hy=>by
     obtain⟨k,hk1,rfl⟩:=Kb.1 hy;exact vj h hb f k (K6.1 (hall k hk1))
    exact⟨fun q y hy=>by rw[<-e y hy];exact q y hy,fun q y hy=>by rw[e y hy];exact q y hy⟩
   ·exfalso
    have hz:=aH.1 hz
    have:=h.shape (k:=x.toNat) (s:=s) (by
     unfold at_ at hs;rw[K5 hz.1]at hs
     exact hs)
    unfold cw at this;rw[K2 k1,K2 k2,K2 k3]at this;split at this
    ·omega
    ·cases this
theorem ul (env:Env) (c:ChD) (h:Full c) (act:List Int) (hl:act.length<=1000000): ∀(f i:Nat),i<c.states.length->c.states.length-i<=f->Con prog env 92 [.agg (aA c), .seq 1 (act.map intAV),I i] (B (doneD c act f i))
 |0,i,hi,hf=>by omega
 | f+1,i,hi,hf=>by
   have hlen:=h.few;obtain⟨s,hs⟩:=gE hi;have ih:=fun(k:Nat) hk hf=>ul env c h act hl f k hk hf;have q0:=nlt hi;have f0:=((bj env c i true (by omega)).lend (ag (fun _=>rfl) _)).seen;have fI:=fun(k:Nat)=>cL env act k hl;have hK:=bD h.toRight i true;have hKm: ∀j∈kidsL c i true,i<j/\j<c.states.length:=fun j hj=>by have:=bE h.toRight (aX hj).1;omega
   unfold doneD;rw[gy hs,show kidZ c (i:Int)=zL (kidsL c i true) from rfl];generalize kidsL c i true=K at*;unfold aA at f0 ih;by_cases k2:s.kind=2
   ·rw[K5 k2];have b2:(s.kind==2)=true:=by simp[k2]
    have b1:(s.kind==1)=false:=by simp[k2]
    have b3:(s.kind==3)=false:=by simp[k2]
    refine qf func92 call92 ntmps92 results92 ?_;have F:=ai4 aA.eq_1 aK.eq_1 hs q0;repeat refine st ?_
    refine lL f0 ?_;repeat refine st ?_
    refine lq K.length (by omega) (fun j vs=>[(1, .seq 1 (act.map intAV)),(3, .loc 3 (vs 3) 0 0),(7, .loc 7 (vs 7) 0 0),(8, .seq 1 (K.map aB)),(9,I j)]) (fun j vs=>[(3,⟨5,[aA c],26,false⟩),(7,⟨6,[aK s],61,false⟩)]) (fun j _ esc=>((zL K).all fun k=>doneD c act f k)=((zL K).drop j).all fun k=>doneD c act f k) rfl ?_ ?_
    ·rintro j ws es hlt q1 q2 heq;obtain⟨k,hx⟩:=gE hlt;obtain⟨hk0,hk⟩:=hKm k (K4 hx);have f1:=ih k hk (by omega);rw[bB (pm hx),OA]at heq;cases hb:doneD c act f (k:Int) with
     | true=>
       rw[hb]at f1 heq;rw[LN]at heq;have F:=ai8 aA.eq_1 aK.eq_1 aB.eq_1 hx q1 q2 b1 b2;repeat refine tz1 f1 ?_
       exact qn (j+1) ⟨hlt,heq⟩
     | false=>
       rw[hb]at f1 heq;rw[LJ]at heq;rw[heq];show awp _ _ _ _ _ _;have F:=ai8 aA.eq_1 aK.eq_1 aB.eq_1 hx q1 q2 b1 b2;repeat refine tz1 f1 ?_
       exact aR
    ·rintro ws es q1 heq;rw[La (by rw[an];omega)]at heq;rw[heq];show awp _ _ _ _ _ _;have F:=ai4 aK.eq_1 q1 b2 b3;repeat refine st ?_
     exact aR
   rw[K2 k2];have b2:(s.kind==2)=false:=by simp[k2]
   by_cases k1:s.kind=1
   ·rw[K5 k1];have b1:(s.kind==1)=true:=by simp[k1]
    have b3:(s.kind==3)=false:=by simp[k1]
    refine qf func92 call92 ntmps92 results92 ?_;have F:=ai4 aA.eq_1 aK.eq_1 hs q0;repeat refine st ?_
    refine lL f0 ?_;repeat refine st ?_
    refine lq K.length (by omega) (fun j vs=>[(1, .seq 1 (act.map intAV)),(3, .loc 3 (vs 3) 0 0),(7, .loc 7 (vs 7) 0 0),(8, .seq 1 (K.map aB)),(9,I j)]) (fun j vs=>[(3,⟨5,[aA c],26,false⟩),(7,⟨6,[aK s],61,false⟩)]) (fun j _ esc=>((zL K).any fun k=>act.contains k&&bS c k==3)=((zL K).drop j).any fun k=>act.contains k&&bS c k==3) rfl ?_ ?_
    ·rintro j ws es hlt q1 q2 heq;obtain⟨k,hx⟩:=gE hlt;obtain⟨_,hk⟩:=hKm k (K4 hx);obtain⟨t,ht⟩:=gE hk;have q3:=nlt hk;have f1:=fI k;rw[bB (pm hx),NX,gy ht]at heq;cases hb:act.contains (k:Int) with
     | false=>
       rw[hb]at f1 heq;rw[LJ,M2]at heq;have F:=ai10 aA.eq_1 aK.eq_1 aB.eq_1 ht hx q1 q2 q3 b1 b2;repeat refine tz1 f1 ?_
       exact qn (j+1) ⟨hlt,heq⟩
     | true=>
       rw[hb]at f1 heq;cases h3:t.kind==3 with
       | false=>
         rw[h3]at heq;rw[L8,M2]at heq;have F:=ai11 aA.eq_1 aK.eq_1 aB.eq_1 ht hx h3 q1 q2 q3 b1 b2;repeat refine tz1 f1 ?_
         exact qn (j+1) ⟨hlt,heq⟩
       | true=>
         rw[h3]at heq;rw[O4,OS]at heq;rw[heq];show awp _ _ _ _ _ _;have F:=ai11 aA.eq_1 aK.eq_1 aB.eq_1 ht hx h3 q1 q2 q3 b1 b2;repeat refine tz1 f1 ?_
         exact aR
    ·rintro ws es q1 heq;rw[La (by rw[an];omega)]at heq;rw[heq];show awp _ _ _ _ _ _;simp only[OT];have F:=ai4 aK.eq_1 q1 b2 b3;repeat refine st ?_
     exact aR
   ·rw[K2 k1];have b1:(s.kind==1)=false:=by simp[k1]
    refine qf func92 call92 ntmps92 results92 ?_;have F:=ai4 aA.eq_1 aK.eq_1 hs q0;repeat refine st ?_
    refine lL f0 ?_;repeat refine st ?_
    refine lq K.length (by omega) (fun j vs=>[(1, .seq 1 (act.map intAV)),(3, .loc 3 (vs 3) 0 0),(7, .loc 7 (vs 7) 0 0),(8, .seq 1 (K.map aB)),(9,I j)]) (fun j vs=>[(3,⟨5,[aA c],26,false⟩),(7,⟨6,[aK s],61,false⟩)]) (fun _ _ _=>True) trivial ?_ ?_
    ·rintro j ws es hlt q1 q2 _;have F:=ai6 aA.eq_1 aK.eq_1 q1 q2 b1 b2;repeat refine st ?_
     exact qn (j+1) ⟨hlt,trivial⟩
    ·rintro ws es q1 _;cases b3:s.kind==3 with
     | true=>
       have F:=ai4 aK.eq_1 q1 b2 b3;repeat refine st ?_
       exact aR
     | false=>
       have F:=ai4 aK.eq_1 q1 b2 b3;repeat refine st ?_
       exact aR
end
section
theorem wZ (env:Env) (l:List Int) (p:Int->Bool) (g:FuncId) (G:Int) (te:TypeId) (hp: ∀d,Con prog env g [I d, .ref 1 [[I G]] 0 0] (B (p d))) (hl:l.length<=4096):
 ConI prog env 141 [1000,1001] (fun k=>k==1000) (fun vs=>[.row 1000 (vs 1000), .clo g [.loc 1001 (vs 1001) 0 0]]) (fun _=>[(1000,⟨1,l.map intAV,3,true⟩),(1001,⟨1,[[I G]],te,false⟩)]) (fun _=>[(1000,⟨1,(l.filter fun d=> !p d).map intAV,3,true⟩),(1001,⟨1,[[I G]],te,false⟩)]) (fun vs=> .row 1000 (vs 1000)):=by
 have f0:=(pV env l p g [[I G]] hp hl).lend rfl;cases hi:l6 p l with
 | none=>
   rw[hi]at f0;obtain⟨h1,_⟩:=ow hi;rw[h1];refine qi func141 call141 ntmps141 results141 ?_;intro vs esc hesc;obtain⟨e0,e1⟩:=es2 hesc;have F:=ai4 e0 e1 l7.eq_1 l7.eq_2;repeat refine st ?_
   refine lL f0 ?_;repeat refine st ?_
   exact rI
 | some i0=>
   rw[hi]at f0;obtain⟨h1,h2,d0,h3,h4⟩:=ov hi;have g0:((i0:Int) == -1)=false:=by simp
   have g1:=aD h1 (by omega);refine qi func141 call141 ntmps141 results141 ?_;intro vs esc hesc;obtain⟨e0,e1⟩:=es2 hesc;have F:=ai6 e0 e1 l7.eq_1 l7.eq_2 g0 g1;repeat refine st ?_
   refine lL f0 ?_;repeat refine st ?_
   refine aI (D:=Nat×List Int) (fun x vs'=>[(0, .row 1000 (vs' 1000)),(1, .clo g [.loc 1001 (vs' 1001) 0 0]),(5,I (((l.take x.1).filter fun d=> !p d).length:Int)),(6,I (x.1:Int))]) (fun x vs'=>[(1000,⟨1,x.2.map intAV,3,true⟩),(1001,⟨1,[[I G]],te,false⟩)]) (fun x vs' esc'=>(x.1<=l.length/\x.2.length=l.length/\((l.take x.1).filter fun d=> !p d).length<x.1/\x.2.take ((l.take x.1).filter fun d=> !p d).length=(l.take x.1).filter (fun d=> !p d)/\x.2.drop x.1=l.drop x.1)/\vs' 1001=vs 1001/\esc' 1000=false/\esc' 1001=false) (fun x=>l.length-x.1) (i0+1,l) ?_ ?_ ?_ ?_
   ·have hq:(l.take (i0+1)).filter (fun d=> !p d)=l.take i0:=by
     rw[bQ h3,LE, <-h2];simp[h4]
    refine⟨⟨h1,rfl,?_,?_,rfl⟩,by simp only[go_sem],by simp only[go_sem,e0],by simp only[go_sem,e1]⟩
    ·rw[hq,Kg];omega
    ·simp only;rw[hq,Kg,Mn (by omega)]
   ·have hq:((l.take (i0+1)).filter fun d=> !p d).length=i0:=by
     rw[bQ h3,LE, <-h2];simp[h4];omega
    simp only[hq];exact qe
   ·exact qe
   try clear e0 e1 g0 g1 h1 h2 h3 h4 hi
   rintro⟨j,L⟩ ws es ⟨⟨hj,hL,hc,ht,hd⟩,v1,e0,e1⟩;simp only at hj hL hc ht hd;generalize hcn:((l.take j).filter fun d=> !p d).length=c at*;by_cases hlt:j<l.length
   ·obtain⟨d,hx⟩:=gE hlt
    have hxL:L[j]? =some d:=by
     have:=LF (fun q:List Int=>q[0]?) hd;simpa[hx]using this
    have f1:=hp d;have g1:(j:Int)< (L.length:Int):=by omega
    have g2:=aD hlt (by omega);have g3:=bQ hx;cases h1:p d
    ·rw[h1]at f1;obtain⟨y,hy⟩: ∃x,L[c]? =some x:=⟨L[c]'(by omega),KZ (by omega)⟩;have g4:(c:Int)< (L.length:Int):=by omega
     have g5:IntKind.i64.wrap ((c:Int)+1)=((c+1:Nat):Int):=aD (show c<l.length by omega) (by omega);have hq:((l.take (j+1)).filter fun d=> !p d)=(l.take j).filter (fun d=> !p d)++[d]:=by rw[g3,LE];simp[h1]
     have hs:(L.map intAV).set c [I d]=(L.set c d).map intAV:=by rw[NT]
     have F:=ai9 hxL hy e0 e1 g1 g2 g4 g5 hs;repeat refine st ?_
     refine oL (bw rfl (by simp only[go_sem,F];exact iR)) (f1.lend rfl) (by simp only[go_sem,F];exact iR) (by simp only[go_sem,F];exact⟨rfl,rfl⟩) ?_;repeat refine st ?_
     refine⟨(j+1,L.set c d),⟨⟨hlt,by simpa using hL,?_,?_,?_⟩,?_,?_,?_⟩,?_,?_,?_⟩
     ·simp only[hq,K8,LI,hcn];omega
     ·simp only[hq,K8,LI,hcn];rw[<-ht];apply LY;intro k;rw[LG,Lu];by_cases hk:k<c
      ·rw[K5 (by omega),K2 (by omega),LH (by simp;omega),LG,K5 hk]
      ·by_cases hk2:k=c
       ·subst hk2;rw[K5 (by omega),K5 rfl,K5 (by omega),LA (by rw[Kg];omega),Kg,Mn (by omega)];simp
       ·rw[K2 (by omega),Kf (by rw[K8,Kg,LI];omega)]
     ·simp only;rw[List.drop_set_of_lt (by omega)];have:=LF (List.drop 1) hd;simpa[OV]using this
     ·simp only[go_sem,v1]
     ·simp only[go_sem,e0]
     ·simp only[go_sem,e1]
     ·have hq2:((l.take (j+1)).filter fun d=> !p d).length=c+1:=by rw[hq,K8,hcn];rfl
      simp only[hq2];exact qe
     ·exact qe
     ·simp only;omega
    ·rw[h1]at f1;have hq:((l.take (j+1)).filter fun d=> !p d)=(l.take j).filter (fun d=> !p d):=by rw[g3,LE];simp[h1]
     have F:=ai5 hxL e0 e1 g1 g2;repeat refine st ?_
     refine oL (bw rfl (by simp only[go_sem,F];exact iR)) (f1.lend rfl) (by simp only[go_sem,F];exact iR) (by simp only[go_sem,F];exact⟨rfl,rfl⟩) ?_;repeat refine st ?_
     refine⟨(j+1,L),⟨⟨hlt,hL,?_,?_,?_⟩,?_,?_,?_⟩,?_,?_,?_⟩
     ·simp only[hq,hcn];omega
     ·simp only[hq,hcn];exact ht
     ·simp only;have:=LF (List.drop 1) hd;simpa[OV]using this
     ·simp only[go_sem,v1]
     ·simp only[go_sem,e0]
     ·simp only[go_sem,e1]
     ·simp only[hq,hcn];exact qe
     ·exact qe
     ·simp only;omega
   ·have g1: ¬(j:Int)< (L.length:Int):=by omega
    have hjl:l.take j=l:=LU (by omega);rw[hjl]at ht hcn;have g4:(c:Int)<=(L.length:Int):=by omega
    have g5:c<=L.length:=by omega
    have g6: ∀X:List (List AV),((L.take c).map intAV++X).take c=(l.filter fun d=> !p d).map intAV:=fun X=>by
     rw[NH (by rw[Ko,Kg];omega),ht]
    have g7:c+(L.length-c)=L.length:=by omega
    have g8:min c L.length=c:=by omega
    have F:=ai11 v1 e0 e1 @Kg.{0} @List.length_replicate.{0} g1 g4 g5 g6 g7 g8;repeat refine st ?_
    exact rI
end
section
theorem rU {c:ChD} {d now:Int} {r:RunD} {l:List Int} {j:Nat} {i:Int} (hi:l[j]? =some i):bP c d now r (l.drop j)=match allP c d now r (zV c i) with
 |(r1,none)=>bP c d now { r1 with act:=r1.act.filter fun k=> !(k==i) } (l.drop (j+1))
 |x=>x:=by
 rw[bB hi]
 conv=>lhs;unfold bP
 rcases allP c d now r (zV c i) with⟨r1,_|_⟩<;>rfl
theorem sU {c:ChD} (h:Full c) {k:Nat} {s:StD} (hs:c.states[k]? =some s):(s.out.length<=32/\ ∀a∈s.out,fh c.vars.length c.states.length a=true)/\s.inn.length<=32/\ ∀a∈s.inn,fh c.vars.length c.states.length a=true:=by
 have hk:=h.st k s hs;unfold bz eI at hk;simp only[K3,Kh,K7]at hk;exact⟨⟨hk.2.1,hk.2.2⟩,hk.1.2.1,hk.1.2.2⟩
theorem B1 (env:Env) (G d:Int):Con prog env 142 [I d, .ref 1 [[I G]] 0 0] (B (d==G)):=by
 refine qf func142 call142 ntmps142 results142 ?_;repeat refine st0 ?_
 exact aR0
def RYs (c:ChD) (d now:Int) (G:List Nat) (r:RunD) (g:Nat->Nat):List (Nat×Row):=(1006,⟨1,G.map aB,3,true⟩)::RY c d now r g
theorem Ex (env:Env) (a1 a2 a8:Addr) (c:ChD) (d now:Int) (E:RunEnv env a1 a2 a8 c d now) (r:RunD) (hr:RunOk c r) (hl:r.act.length<=4096) (G:List Nat) (hG: ∀i∈G,i<c.states.length) (hGl:G.length<=4096):
 ConI prog env 75 [1000,1001,1002,1003,1004,1005,1006] gr5 (fun g=>[.loc 1000 (g 1000) 0 0, .row 1006 (g 1006)]) (RYs c d now G r) (RYs c d now G.reverse (bP c d now r (zL G.reverse)).1) (fun _=>cv a2 a8 (bP c d now r (zL G.reverse)).2):=by
 have hfew:=E.h.few;have hcv:=E.hs.vars;have hdo:=fun(r:RunD) hr hl (l:List ActD) hll ha=>xV env a1 a2 a8 c d now E r hr hl l hll ha;have hok:=fun(r:RunD) (hr:RunOk c r) (l:List ActD) ha=>jX E.hd E.hn (l:=l) hr ha;have hdel:=fun(l:List Int) (i:Int) (hl:l.length<=4096)=>wZ env l (fun k=>k==i) 142 i 3 (fun k=>B1 env i k) hl;have g1:=qu (zL G) (by rw[an];omega);have g2:bJ ((zL G).map rY)=G.map aB:=by rw[bl,bc]
 have g3:bJ ((zL G).reverse.map rY)=G.reverse.map aB:=by rw[bl, <-bc];simp
 have hR: ∀i∈G.reverse,i<c.states.length:=fun i hi=>hG i (Ns.1 hi);have hRl:G.reverse.length<=4096:=by rw[MO];exact hGl
 generalize G.reverse=R at*;refine qi func75 call75 ntmps75 results75 ?_;intro vs esc hesc;obtain⟨e0,e1,e2,e3,e4,e5,e6⟩:=es7 hesc;have F:=ai11 RYs.eq_1 RY.eq_1 RYe.eq_1 gr5.eq_1 e0 e1 e2 e3 e4 e5 e6;repeat refine st ?_
 refine nL 1006 rfl (row:=⟨1,G.map aB,3,true⟩) g1 (LL 0) rfl g2.symm (by simp only[go_sem,e6]<;>exact iR) (by simp only[go_sem,e6]<;>exact iR) (by simp only[go_sem,e6]<;>exact iR) (by simp only[go_sem,e6]<;>exact iR) ?_;rw[g3];repeat refine st ?_
 refine lp (D:=Nat×RunD) (fun x vs'=>[(0, .loc 1000 (vs' 1000) 0 0),(10, .row 1006 (vs' 1006)),(11,I R.length),(12,I x.1)]) (fun x vs'=>RYs c d now R x.2 vs') (fun x vs' esc'=>(x.1<=R.length/\bP c d now r (zL R)=bP c d now x.2 ((zL R).drop x.1)/\RunOk c x.2/\x.2.act.length<=4096)/\(vs' 1000=vs 1000/\vs' 1002=vs 1002/\vs' 1006=vs 1006)/\esc' 1000=false/\esc' 1001=false/\esc' 1002=false/\esc' 1003=false/\esc' 1004=false/\esc' 1005=false/\esc' 1006=false) (fun x=>R.length-x.1) (0,r) ⟨⟨Kj _,rfl,hr,hl⟩,by simp only[go_sem,Kk],by simp only[go_sem,e0,e1,e2,e3,e4,e5,e6,Kk]⟩ ?_;try clear e0 e1 e2 e3 e4 e5 e6 g1 g2 g3
 rintro⟨j,r1⟩ ws es ⟨⟨hj,heq,hr1,hact⟩,⟨v0,v2,v6⟩,e0,e1,e2,e3,e4,e5,e6⟩;simp only at hj heq hr1 hact;by_cases hlt:j<R.length
 ·obtain⟨i,hx⟩:=gE hlt;have hil:=hR i (K4 hx);obtain⟨s,hs⟩:=gE hil;obtain⟨⟨s1,s2⟩,_⟩:=sU E.h hs;have ho:zV c i=s.out:=by unfold zV;rw[bI,hs]
  have f0:=hdo r1 hr1 (by omega) s.out (by omega) s2;obtain⟨k1,k2⟩:=hok r1 hr1 s.out s2;have q1:=nlt hlt;have q2:=aD hlt (by omega);have q3:=nlt hil;rw[rU (pm hx),ho]at heq;rcases hX:allP c d now r1 s.out with⟨r2,_|⟨k,ps⟩⟩
  ·rw[hX]at heq f0 k1 k2;simp only at heq k1 k2;have hact2:r2.act.length<=4096:=by have:=k2.act;rw[this];exact hact
   have f3:=hdel r2.act i hact2;have hact3:(r2.act.filter fun k=> !(k==(i:Int))).length<=4096:=Km (Kq ..) hact2;generalize hF:(r2.act.filter fun k=> !(k==(i:Int)))=L2 at*;unfold cv RY RYe at f0;simp only at f0;have F:=ai12 aK.eq_1 aB.eq_1 actsAV.eq_1 RYs.eq_1 RY.eq_1 RYe.eq_1 gr5.eq_1 hx hs q1 q2<|ai8 q3 e0 e1 e2 e3 e4 e5 e6;repeat refine st ?_
   refine iL L6 f0 ?_;repeat refine st ?_
   refine iL [(1000,1001),(1001,6)] f3 ?_;repeat refine st ?_
   refine⟨(j+1,{ r2 with act:=L2 }),⟨⟨hlt,heq,{ k1 with },hact3⟩,?_,?_⟩,?_,?_,?_⟩
   ·simp only[go_sem,v0,v2,v6,Kk]
   ·simp only[go_sem,e0,e1,e2,e3,e4,e5,e6,Kk]
   ·exact qe
   ·exact qe
   ·simp only;omega
  ·rw[hX]at heq f0;simp only at heq;rw[heq];unfold cv RY RYe at f0;simp only at f0;show awp _ _ _ _ _ _;unfold cv;simp only;have F:=ai12 aK.eq_1 aB.eq_1 actsAV.eq_1 RYs.eq_1 RY.eq_1 RYe.eq_1 gr5.eq_1 hx hs q1 q2<|ai11 q3 v0 v2 v6 e0 e1 e2 e3 e4 e5 e6;repeat refine st ?_
   refine iL L6 f0 ?_;repeat refine st ?_
   exact rI
 ·obtain rfl:j=R.length:=by omega
  have q1:=nl R.length;rw[La (by rw[an];omega)]at heq;rw[heq];unfold bP;show awp _ _ _ _ _ _;unfold cv;simp only;have F:=ai12 RYs.eq_1 RY.eq_1 RYe.eq_1 gr5.eq_1 q1 v0 v2 v6 e0 e1 e2<|ai4 e3 e4 e5 e6;repeat refine st ?_
  exact rI
end

end Go.Proofs.YtdpjgflalmnkdaaGreatDoor