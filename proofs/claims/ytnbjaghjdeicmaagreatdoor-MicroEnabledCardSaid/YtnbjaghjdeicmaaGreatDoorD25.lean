/- The document's words on which transitions are taken, and may be taken together. -/
import Derived.Test.YtnbjaghjdeicmaaGreatDoorD24
import Derived.Test.YtnbjaghjdeicmaaGreatDoorD8
import Derived.Test.YtnbjaghjdeicmaaGreatDoorD6
import Derived.Test.YtnbjaghjdeicmaaGreatDoorD23
set_option maxRecDepth 100000
set_option maxHeartbeats 16000000
set_option linter.unusedSimpArgs false
namespace Go.Proofs.YtnbjaghjdeicmaaGreatDoor
open Go.RowKit
section
theorem zqU (n:Nat) (act:List Int) (j:Nat) (hj:j<n):(((List.range j).map fun k:Nat=>[B (act.contains (k:Int))])++List.replicate (n-j) [B false]).set j [B (act.contains (j:Int))]=((List.range (j+1)).map fun k:Nat=>[B (act.contains (k:Int))])++List.replicate (n-(j+1)) [B false]:=by
 rw [List.set_append_right _ _ (by simp)]
 simp only [List.length_map,List.length_range,Nat.sub_self]
 rw [show n-j=(n-(j+1))+1 by omega,List.replicate_succ,List.set_cons_zero,List.range_succ,List.map_append,List.append_assoc]
 rfl
theorem zof (env:Env) (c:ChD) (hc:c.states.length<=4000) (x:InD) (hl:x.1.length<=1000000) (d:Int):Con Tryz.prog env 233 [.agg (chAV c), .agg (inE x),I d] (.agg (woAV (woX c x.1 x.2.1 d))):=by
 have m1: ¬(16777216:Int)< (c.states.length:Int):=by omega
 have m3: ¬(c.states.length:Int)<0:=by omega
 have m4: ¬(281474976710656:Int)< (c.states.length:Int):=by omega
 have m2: ¬(281474976710656:Int)<1*(c.states.length:Int):=by omega
 unfold woAV
 rw [zpg]
 show Con _ _ _ _ (.agg [ints34 x.2.1,I d, .seq 1 (flagA c.states.length x.1)])
 unfold flagA
 unfold inE
 have hfl: ∀j,j<=c.states.length->(((List.range j).map fun k:Nat=>[B (x.1.contains (k:Int))])++List.replicate (c.states.length-j) [B false]).length=c.states.length:=fun j hj=>by simp; omega
 refine zaa Tryz.func233 rfl Tryz.call233 (by rw [Tryz.ntmps233]; simp) ?_
 rw [Tryz.ntmps233,Tryz.results233]
 have F:=ai chAV.eq_1<|ai m1<|ai m2<|ai m3<|m4
 repeat refine st ?_
 refine zac (D:=Nat) (fun j vs=>[(3, .loc 3 (vs 3) 0 0),(4, .loc 4 (vs 4) 0 0),(6, .loc 6 (vs 6) 0 0),(7, .loc 7 (vs 7) 0 0),(8,I j)])
  (fun j vs=>[(3,⟨5,[chAV c],26,false⟩),(4,⟨5,[[ints34 x.1,ints34 x.2.1, .seq 2 (x.2.2.1.map mmAV), .seq 2 (x.2.2.2.1.map tmAV),B x.2.2.2.2]],31,false⟩),(6,⟨3,[[nilS,I 0,nilS]],120,false⟩),(7,⟨3,[[ints34 x.2.1,I d, .row 15 (vs 15)]],120,false⟩),(15,⟨1,((List.range j).map fun k:Nat=>[B (x.1.contains (k:Int))])++List.replicate (c.states.length-j) [B false],4,true⟩)])
  (fun j _ esc=>j<=c.states.length/\esc 15=false/\esc 6=false) (fun j=>c.states.length-j) 0 ?_ ?_ ?_ ?_
 ·exact⟨Nat.zero_le _,by simp only [go_sem],by simp only [go_sem]⟩
 ·(simp only [go_sem,F])
 ·have F:=chAV.eq_1
  (simp only [go_sem,List.range_zero,Nat.sub_zero,F])
  try rfl
 rintro j ws esc ⟨hj,e0,e1⟩
 have hlen:=hfl j hj
 by_cases hlt:j<c.states.length
 ·have q1:=nlt hlt
  have q2:=zab hlt (by omega)
  have f0:=zcT env x.1 j hl
  have hst:=zqU c.states.length x.1 j hlt
  have hgt: ∃v,(((List.range j).map fun k:Nat=>[B (x.1.contains (k:Int))])++List.replicate (c.states.length-j) [B false])[j]? =some [v]:=by
   rw [List.getElem?_append_right (by simp),List.getElem?_replicate]
   simp only [List.length_map,List.length_range,Nat.sub_self]
   rw [if_pos (by omega)]
   exact⟨_,rfl⟩
  obtain⟨v,hv⟩:=hgt
  generalize hG:(((List.range j).map fun k:Nat=>[B (x.1.contains (k:Int))])++List.replicate (c.states.length-j) [B false])=G at*
  have F:=ai chAV.eq_1<|ai q1<|ai q2<|ai hlen<|ai hst<|ai hv<|ai e0<|e1
  repeat (first | refine st ?_ | refine cC f0 ?_)
  refine⟨j+1,⟨hlt,by simp only [go_sem,e0],by simp only [go_sem,e1]⟩, ?_, ?_,by omega⟩
  ·(simp only [go_sem,F])
  ·have F:=chAV.eq_1
   (simp only [go_sem,F])
 ·obtain rfl:j=c.states.length:=by omega
  have q1: ¬(c.states.length:Int)< (c.states.length:Int):=by omega
  rw [Nat.sub_self,List.replicate_zero,List.append_nil]
  have F:=ai chAV.eq_1<|ai q1<|ai e0<|e1
  repeat refine st ?_
  exact aR
end
section
def guR:Option Bool->AV
 | some b=> .tuple [B b,I 0]
 | none=> .tuple [B false,I 2]
theorem zoi (env:Env) (c:ChD) (h:Full c) (hs:Small c) (x:InD) (d:Int) (hx:Asked c x d) (n:Nat) (t:TrD) (ht:c.trans[n]? =some t):Con Tryz.prog env 180 [.agg (chAV c), .agg (inE x),I n,I d] (guR (zcV (woX c x.1 x.2.1 d) t.guard)):=by
 have hfew:=h.few
 have hnl:=(List.getElem?_eq_some_iff.1 ht).1
 have q0:=nlt hnl
 have hvl:(woX c x.1 x.2.1 d).vars.length<=1000000:=by show x.2.1.length<=_; have:=hx.len; have:=hs.vars; omega
 have f0:=zof env c (by omega) x (by have:=hx.act; omega) d
 have hgo:=zjj h ht
 unfold zcV
 by_cases h0:t.guard=[]
 ·rw [if_pos h0]
  show Con _ _ _ _ (.tuple [B true,I 0])
  unfold inE at f0 |-
  refine zaa Tryz.func180 rfl Tryz.call180 (by rw [Tryz.ntmps180]; simp) ?_
  rw [Tryz.ntmps180,Tryz.results180]
  have F:=ai chAV.eq_1<|ai trAV.eq_1<|ai ht<|ai q0<|h0
  repeat (first | refine st ?_ | refine cC f0 ?_)
  exact aR
 rw [if_neg h0]
 have f1:=zp1 env (woX c x.1 x.2.1 d) hx.ok hvl t.guard (by rw [zlr]; show zaH t.guard (x.2.1.length:Int) _=true; rw [hx.len]; exact hgo.resolve_left h0)
 have q1:((t.guard.length:Int)==0)=false:=by
  have:t.guard.length≠0:=fun e=>h0 (List.length_eq_zero_iff.1 e)
  simp; omega
 unfold chAV inE at f0
 unfold inE
 generalize woX c x.1 x.2.1 d=W at*
 unfold woAV at f0 f1
 cases hv:zmi W t.guard with
 | none=>
   rw [hv] at f1
   unfold zt3 at f1
   show Con _ _ _ _ (.tuple [B false,I 2])
   refine zaa Tryz.func180 rfl Tryz.call180 (by rw [Tryz.ntmps180]; simp) ?_
   rw [Tryz.ntmps180,Tryz.results180]
   have F:=ai chAV.eq_1<|ai trAV.eq_1<|ai ht<|ai q0<|q1
   repeat (first | refine st ?_ | refine cC f0 ?_ | refine cC f1 ?_)
   exact aR
 | some v=>
   rw [hv] at f1
   unfold zt3 at f1
   show Con _ _ _ _ (.tuple [B (v != 0),I 0])
   refine zaa Tryz.func180 rfl Tryz.call180 (by rw [Tryz.ntmps180]; simp) ?_
   rw [Tryz.ntmps180,Tryz.results180]
   have F:=ai chAV.eq_1<|ai trAV.eq_1<|ai ht<|ai q0<|q1
   repeat (first | refine st ?_ | refine cC f0 ?_ | refine cC f1 ?_)
   exact aR
def frR:Fd->AV
 | .no=> .tuple [I (-1),I 0,I (-1)]
 | .one n=> .tuple [I (n:Nat),I 0,I (-1)]
 | .bad n=> .tuple [I (-1),I 2,I (1000+(n:Nat))]
theorem zlR (env:Env) (c:ChD) (h:Full c) (hs:Small c) (x:InD) (d:Int) (hx:Asked c x d) (i:Int) (ev:List UInt8):Con Tryz.prog env 100 [.agg (chAV c), .agg (inE x),I i,Sg ev,I d] (frR (zcd c (woX c x.1 x.2.1 d) ev (i::upL c i))):=by
 have hftr:=h.ftr
 have f1:=zgW env c h.toRight i
 have f2:=fun k=>ztJ env c (by omega) k ev
 have f3:=fun(n:Nat) (t:TrD) (ht:c.trans[n]? =some t)=>zoi env c h hs x d hx n t ht
 have hul:(upL c i).length<=40:=zeU ..
 have hf:Fits (1+(upL c i).length) 8:=zai (by omega) (by omega)
 have e0:[[I i]]++(upL c i).map intAV=(i::upL c i).map intAV:=rfl
 have hwl:(i::upL c i).length<=4000:=by simp only [List.length_cons]; omega
 generalize woX c x.1 x.2.1 d=W at*
 generalize hR:(i::upL c i)=R at*
 unfold chAV at f1 f2 f3
 unfold inE at f3 |-
 refine zaa Tryz.func100 rfl Tryz.call100 (by rw [Tryz.ntmps100]; simp) ?_
 rw [Tryz.ntmps100,Tryz.results100]
 have F:=ai chAV.eq_1<|ai hf<|e0
 repeat (first | refine st ?_ | refine cC f1 ?_)
 refine zac (D:=Nat) (fun j vs=>[(3,Sg ev),(4,I d),(5, .loc 5 (vs 5) 0 0),(6, .loc 6 (vs 6) 0 0),(13, .row 20 (vs 20)),(14,I j)]) (fun _ _=>[(5,⟨5,[chAV c],26,false⟩),(6,⟨5,[[ints34 x.1,ints34 x.2.1, .seq 2 (x.2.2.1.map mmAV), .seq 2 (x.2.2.2.1.map tmAV),B x.2.2.2.2]],31,false⟩),(20,⟨1,R.map intAV,3,true⟩)]) (fun j _ _=>j<=R.length/\zcd c W ev R=zcd c W ev (R.drop j)) (fun j=>R.length-j) 0 ?_ ?_ ?_ ?_
 ·exact⟨Nat.zero_le _,rfl⟩
 ·(simp only [go_sem,F])
 ·have F:=chAV.eq_1
  (simp only [go_sem,F])
 rintro j vs esc ⟨hj,hq⟩
 by_cases hlt:j<R.length
 ·obtain⟨k,hk⟩: ∃k,R[j]? =some k:=⟨R[j],List.getElem?_eq_getElem hlt⟩
  have q1:=nlt hlt
  have q2:=zab hlt (by omega)
  have f4:=f2 k
  rw [zcJ hk] at hq
  have hLl:(refAtTo c k ev c.trans.length).length<=c.trans.length:=zeG (zew c k ev) c.trans.length
  have hLk: ∀n∈refAtTo c k ev c.trans.length,n<c.trans.length:=fun n hn=>zmS hn
  have hno:=zqY (c:=c) (w:=W) (ev:=ev) (k:=k) (l:=R.drop (j+1))
  have hone: ∀n,_:=fun n=>znm (c:=c) (w:=W) (ev:=ev) (k:=k) (l:=R.drop (j+1)) (n:=n)
  have hbad: ∀n,_:=fun n=>znn (c:=c) (w:=W) (ev:=ev) (k:=k) (l:=R.drop (j+1)) (n:=n)
  generalize refAtTo c k ev c.trans.length=L at*
  have F:=ai chAV.eq_1<|ai hk<|ai q1<|q2
  repeat (first | refine oO rfl (by simp only [go_sem,intAV,F]; exact⟨rfl,rfl⟩) ?_ | refine gR ?_ | refine gO ?_ | refine oC rfl (f4) (by simp only [go_sem,intAV,F]; exact iR) (by simp only [go_sem,intAV,F]; exact⟨rfl,rfl⟩) ?_ | refine oZ (zas ?_) | refine oZ ?_ | refine oS ?_ | refine gT ?_ | refine gD Tryz.mixed ?_ | refine oB ?_ | refine oK ?_ | (refine oX ?_; simp only [zal,zah, ↓reduceIte,Nat.reduceEqDiff,reduceCtorEq]) | refine oY (by simp only [go_sem,intAV,F]; exact iR) ?_ | refine oN (by simp only [go_sem,intAV,F]; exact iR) ?_)
  refine zac (D:=Nat) (fun m vs=>[(3,Sg ev),(4,I d),(5, .loc 5 (vs 5) 0 0),(6, .loc 6 (vs 6) 0 0),(13, .row 20 (vs 20)),(14,I j),(15, .row 37 (vs 37)),(16,I m)]) (fun _ _=>[(5,⟨5,[chAV c],26,false⟩),(6,⟨5,[[ints34 x.1,ints34 x.2.1, .seq 2 (x.2.2.1.map mmAV), .seq 2 (x.2.2.2.1.map tmAV),B x.2.2.2.2]],31,false⟩),(20,⟨1,R.map intAV,3,true⟩),(37,⟨1,L.map zad,3,true⟩)]) (fun m _ _=>m<=L.length/\zbr c W L=zbr c W (L.drop m)) (fun m=>L.length-m) 0 ?_ ?_ ?_ ?_
  ·exact⟨Nat.zero_le _,rfl⟩
  ·(simp only [go_sem,intAV,F])
  ·have F:=chAV.eq_1
   (simp only [go_sem,F])
  rintro m us es ⟨hm,hp⟩
  by_cases hlt2:m<L.length
  ·obtain⟨n,hn⟩: ∃n,L[m]? =some n:=⟨L[m],List.getElem?_eq_getElem hlt2⟩
   have hnl:=hLk n (List.mem_of_getElem? hn)
   obtain⟨t,ht⟩: ∃t,c.trans[n]? =some t:=⟨c.trans[n],List.getElem?_eq_getElem hnl⟩
   have p1:=nlt hlt2
   have p2:=zab hlt2 (by omega)
   have p4:IntKind.i64.wrap (1000+(n:Int))=1000+(n:Int):=zaC (by omega) (by omega)
   have hga:zdZ c n=t.guard:=by unfold zdZ; rw [ht]
   have f5:=f3 n t ht
   rw [zcJ hn] at hp
   cases hv:zcV W t.guard with
   | none=>
     rw [hv] at f5
     unfold guR at f5
     rw [zid (by rw [hga]; exact hv)] at hp
     rw [hq,hbad n hp]
     show awp _ _ _ _ _ _
     unfold frR
     have F:=ai chAV.eq_1<|ai zad.eq_1<|ai hn<|ai p1<|ai p2<|p4
     repeat (first | refine st ?_ | refine cC f5 ?_)
     exact aR
   | some b=>
     rw [hv] at f5
     unfold guR at f5
     cases b with
     | true=>
       rw [zkK (by rw [hga]; exact hv)] at hp
       rw [hq,hone n hp]
       show awp _ _ _ _ _ _
       unfold frR
       have F:=ai chAV.eq_1<|ai zad.eq_1<|ai hn<|ai p1<|p2
       repeat (first | refine st ?_ | refine cC f5 ?_)
       exact aR
     | false=>
       rw [znk (by rw [hga]; exact hv)] at hp
       have F:=ai chAV.eq_1<|ai zad.eq_1<|ai hn<|ai p1<|p2
       repeat (first | refine st ?_ | refine cC f5 ?_)
       refine⟨m+1,⟨hlt2,hp⟩, ?_, ?_,by omega⟩
       ·(simp only [go_sem,F])
       ·have F:=chAV.eq_1
        (simp only [go_sem,F])
  ·obtain rfl:m=L.length:=by omega
   have p1: ¬(L.length:Int)< (L.length:Int):=by omega
   rw [List.drop_length] at hp
   have hq3:=hno hp
   have F:=ai chAV.eq_1<|ai p1<|q2
   repeat refine st ?_
   refine⟨j+1,⟨hlt,hq.trans hq3⟩, ?_, ?_,by omega⟩
   ·(simp only [go_sem,F])
   ·have F:=chAV.eq_1
    (simp only [go_sem,F])
 ·obtain rfl:j=R.length:=by omega
  have q1: ¬(R.length:Int)< (R.length:Int):=by omega
  rw [List.drop_length] at hq
  rw [hq]
  show awp _ _ _ _ _ _
  unfold zcd frR
  have F:=q1
  repeat refine st ?_
  exact aR
end
section
theorem zjs (env:Env) (G:List Int) (hG:G.length<=1000000) (i:Int):Con Tryz.prog env 215 [I i, .ref 1 [[.seq 1 (G.map intAV)]] 0 0] (B (G.contains i)):=by
 have f0:=zaO env G i hG
 refine zaa Tryz.func215 rfl Tryz.call215 (by rw [Tryz.ntmps215]; simp) ?_
 rw [Tryz.ntmps215,Tryz.results215]
 repeat (first | refine st0 ?_ | refine cC0 f0 ?_)
 exact aR0
theorem zfb {c:ChD} (h:Full c) (act:List Int) (t:TrD):(leaveR c act t).length<=32:=by
 unfold leaveR
 split
 ·simp
 ·rw [List.length_reverse]
  unfold undR
  exact Nat.le_trans (List.length_filter_le ..) (by rw [zcn]; exact zeZ h.toRight act)
theorem zla (env:Env) (a1 a8:Addr) (he:ChEnv env a1 a8) (c:ChD) (h:Full c) (hs:Small c) (act:List Int) (hl:act.length<=1000000) (hb:lgB c act=true) (a b:Nat) (ha:a<c.trans.length) (hbb:b<c.trans.length):Con Tryz.prog env 138 [zaj c,ints34 act,I a,I b] (B (zbz c act a b)):=by
 obtain⟨ta,hta⟩: ∃t,c.trans[a]? =some t:=⟨c.trans[a],List.getElem?_eq_getElem ha⟩
 obtain⟨tb,htb⟩: ∃t,c.trans[b]? =some t:=⟨c.trans[b],List.getElem?_eq_getElem hbb⟩
 have f0:=zln env a1 a8 he c h hs act hl a ta hta hb
 have f1:=zln env a1 a8 he c h hs act hl b tb htb hb
 have l0:=zfb h act ta
 have l1:=zfb h act tb
 have f2:=zhQ env (leaveR c act ta) (fun i=>(leaveR c act tb).contains i) 215 [[.seq 1 ((leaveR c act tb).map intAV)]] (fun i=>zjs env (leaveR c act tb) (by omega) i) (by omega)
 unfold zbz
 rw [zdD hta,zdD htb]
 generalize leaveR c act ta=A at*
 generalize leaveR c act tb=C at*
 unfold zaj at f0 f1 |-
 refine zaa Tryz.func138 rfl Tryz.call138 (by rw [Tryz.ntmps138]; simp) ?_
 rw [Tryz.ntmps138,Tryz.results138]
 repeat (first | refine st0 ?_ | refine cC0 f0 ?_ | refine cC0 f1 ?_)
 refine cC0 f2 ?_
 repeat refine st0 ?_
 exact aR0
theorem zm9 {c:ChD} {act:List Int} {l:List Nat} {n k:Nat} (hk:k∈l) (h:zgg c act n k=false):takeL c act l n=l:=by
 unfold takeL
 rw [if_neg]
 intro hh
 rw [List.all_eq_true.1 hh k hk] at h
 cases h
theorem zr2 (env:Env) (a1 a8:Addr) (he:ChEnv env a1 a8) (c:ChD) (h:Full c) (hs:Small c) (x:InD) (d:Int) (hx:Asked c x d) (l:List Nat) (hl:l.length<=1000) (hk: ∀n∈l,n<c.trans.length) (n:Nat) (hn:n<c.trans.length):
 Con Tryz.prog env 73 [.ref 15 [rnE c x d] 0 0, .seq 1 (l.map zad),I n] (.seq 1 ((takeL c x.1 l n).map zad)):=by
 have hfew:=h.few
 have f0:=fun k hk=>zla env a1 a8 he c h hs x.1 (by have:=hx.act; omega) hx.lg k n hk hn
 have f1:=zaL env c
 have f2:=fun i k=>zc3 env c h.toRight i k
 obtain⟨tn,htn⟩: ∃t,c.trans[n]? =some t:=⟨c.trans[n],List.getElem?_eq_getElem hn⟩
 have q5:=nlt hn
 unfold zaq at f1 f2
 unfold zaj at f0 f1
 refine zaa Tryz.func73 rfl Tryz.call73 (by rw [Tryz.ntmps73]; simp) ?_
 rw [Tryz.ntmps73,Tryz.results73]
 repeat refine st0 ?_
 refine zaX 7 7 3 1 ?_
 refine zac (D:=Nat) (fun j vs=>[(0, .ref 15 [rnE c x d] 0 0),(1, .seq 1 (l.map zad)),(2,I n),(7, .row 7 (vs 7)),(10, .seq 1 (l.map zad)),(11,I l.length),(12,I j)]) (fun j _=>[(7,⟨1,((l.take j).filter fun k=> !zbz c x.1 k n).map zad,3,true⟩)]) (fun j _ esc=>(j<=l.length/\(l.take j).all (zgg c x.1 n)=true)/\esc 7=false) (fun j=>l.length-j) 0 ?_ ?_ ?_ ?_
 ·exact⟨⟨Nat.zero_le _,rfl⟩,rfl⟩
 ·(simp only [go_sem])
 ·(simp only [go_sem])
  try rfl
 rintro j ws esc ⟨⟨hj,hall⟩,e0⟩
 have hfl:((l.take j).filter fun k=> !zbz c x.1 k n).length<=l.length:=Nat.le_trans (List.length_filter_le ..) (by rw [List.length_take]; omega)
 have hf:Fits (((l.take j).filter fun k=> !zbz c x.1 k n).length+1) 8:=zai (by omega) (by omega)
 by_cases hlt:j<l.length
 ·obtain⟨k,hkk⟩: ∃k,l[j]? =some k:=⟨l[j],List.getElem?_eq_getElem hlt⟩
  have hkm:=List.mem_of_getElem? hkk
  have hkl:=hk k hkm
  obtain⟨tk,htk⟩: ∃t,c.trans[k]? =some t:=⟨c.trans[k],List.getElem?_eq_getElem hkl⟩
  have q1:=nlt hlt
  have q2:=zab hlt (by omega)
  have q3:=nlt hkl
  have f3:=f0 k hkl
  have f4:=f2 tk.src tn.src
  have ht:=zdF hkk
  have hft:((l.take (j+1)).filter fun k=> !zbz c x.1 k n)=((l.take j).filter fun k=> !zbz c x.1 k n)++if zbz c x.1 k n=true then [] else [k]:=by
   rw [ht,List.filter_append]
   congr 1
   cases hq:zbz c x.1 k n<;>simp [hq]
  have hkp:zgg c x.1 n k=(!zbz c x.1 k n||aboveB c tk.src tn.src):=by unfold zgg; rw [zdD htk,zdD htn]
  have hat: ∀b,zgg c x.1 n k=b->(l.take (j+1)).all (zgg c x.1 n)=b:=fun b hb=>by rw [ht,List.all_append,hall]; simp [hb]
  cases hc:zbz c x.1 k n with
  | false=>
    rw [hc] at f3 hft hkp
    simp only [Bool.false_eq_true,if_false] at hft
    have F:=ai zad.eq_1<|ai hkk<|ai q1<|ai q2<|ai q3<|ai hf<|e0
    repeat (first | refine oO rfl (by simp only [go_sem,rnE,F]; exact⟨rfl,rfl⟩) ?_ | refine gR ?_ | refine gO ?_ | refine oC rfl (f3) (by simp only [go_sem,rnE,F]; exact iR) (by simp only [go_sem,rnE,F]; exact⟨rfl,rfl⟩) ?_ | refine oZ (zas ?_) | refine oZ ?_ | refine oS ?_ | refine gT ?_ | refine gD Tryz.mixed ?_ | refine oB ?_ | refine oK ?_ | (refine oX ?_; simp only [zal,zah, ↓reduceIte,Nat.reduceEqDiff,reduceCtorEq]) | refine oY (by simp only [go_sem,rnE,F]; exact iR) ?_ | refine oN (by simp only [go_sem,rnE,F]; exact iR) ?_)
    refine⟨j+1,⟨⟨hlt,hat _ (by rw [hkp]; rfl)⟩,by simp only [go_sem,e0]⟩, ?_, ?_,by omega⟩
    ·(simp only [go_sem,rnE,F])
    ·have F:=ai zad.eq_1<|hft
     (simp only [go_sem,List.map_append,F])
  | true=>
    rw [hc] at f3 hft hkp
    simp only [if_true,List.append_nil] at hft
    simp only [Bool.not_true,Bool.false_or] at hkp
    cases hab:aboveB c tk.src tn.src with
    | true=>
      rw [hab] at f4 hkp
      have F:=ai trAV.eq_1<|ai zad.eq_1<|ai hkk<|ai htk<|ai htn<|ai q1<|ai q2<|ai q3<|ai q5<|e0
      repeat (first | refine oO rfl (by simp only [go_sem,rnE,F]; exact⟨rfl,rfl⟩) ?_ | refine gR ?_ | refine gO ?_ | refine oC rfl (f1) (by simp only [go_sem,rnE,F]; exact iR) (by simp only [go_sem,rnE,F]; exact⟨rfl,rfl⟩) ?_ | refine oC rfl (f3) (by simp only [go_sem,rnE,F]; exact iR) (by simp only [go_sem,rnE,F]; exact⟨rfl,rfl⟩) ?_ | refine oC rfl (f4) (by simp only [go_sem,rnE,F]; exact iR) (by simp only [go_sem,rnE,F]; exact⟨rfl,rfl⟩) ?_ | refine oZ (zas ?_) | refine oZ ?_ | refine oS ?_ | refine gT ?_ | refine gD Tryz.mixed ?_ | refine oB ?_ | refine oK ?_ | (refine oX ?_; simp only [zal,zah, ↓reduceIte,Nat.reduceEqDiff,reduceCtorEq]) | refine oY (by simp only [go_sem,rnE,F]; exact iR) ?_ | refine oN (by simp only [go_sem,rnE,F]; exact iR) ?_)
      refine⟨j+1,⟨⟨hlt,hat _ hkp⟩,by simp only [go_sem,e0]⟩, ?_, ?_,by omega⟩
      ·(simp only [go_sem,rnE,F])
      ·have F:=ai zad.eq_1<|hft
       (simp only [go_sem,F])
    | false=>
      rw [hab] at f4 hkp
      rw [zm9 hkm hkp]
      have F:=ai trAV.eq_1<|ai zad.eq_1<|ai hkk<|ai htk<|ai htn<|ai q1<|ai q2<|ai q3<|ai q5<|e0
      repeat (first | refine oO rfl (by simp only [go_sem,rnE,F]; exact⟨rfl,rfl⟩) ?_ | refine gR ?_ | refine gO ?_ | refine oC rfl (f1) (by simp only [go_sem,rnE,F]; exact iR) (by simp only [go_sem,rnE,F]; exact⟨rfl,rfl⟩) ?_ | refine oC rfl (f3) (by simp only [go_sem,rnE,F]; exact iR) (by simp only [go_sem,rnE,F]; exact⟨rfl,rfl⟩) ?_ | refine oC rfl (f4) (by simp only [go_sem,rnE,F]; exact iR) (by simp only [go_sem,rnE,F]; exact⟨rfl,rfl⟩) ?_ | refine oZ (zas ?_) | refine oZ ?_ | refine oS ?_ | refine gT ?_ | refine gD Tryz.mixed ?_ | refine oB ?_ | refine oK ?_ | (refine oX ?_; simp only [zal,zah, ↓reduceIte,Nat.reduceEqDiff,reduceCtorEq]) | refine oY (by simp only [go_sem,rnE,F]; exact iR) ?_ | refine oN (by simp only [go_sem,rnE,F]; exact iR) ?_)
      (refine zaf ?_; show (zao _ _ _).run _=some _; simp only [go_sem,rnE,F])
 ·obtain rfl:j=l.length:=by omega
  have q1: ¬(l.length:Int)< (l.length:Int):=by omega
  rw [List.take_length] at hall hf
  have hr:takeL c x.1 l n=(l.filter fun k=> !zbz c x.1 k n)++[n]:=by unfold takeL; rw [if_pos hall]
  have hm:(takeL c x.1 l n).map zad=((l.filter fun k=> !zbz c x.1 k n).map zad)++[[I (n:Int)]]:=by rw [hr,List.map_append]; rfl
  rw [hm,List.take_length]
  generalize (l.filter fun k=> !zbz c x.1 k n)=K at*
  have F:=ai zad.eq_1<|ai q1<|ai hf<|e0
  repeat refine st ?_
  refine zeq (Turned.frozen 7 6 ⟨1,K.map zad++[[I (n:Int)]],3,true⟩ rfl (Nat.succ_ne_zero 0) (by simp only [go_sem]) (by simp only [go_sem])) ?_
  exact aR
def rcI (x:InD):Rc:=⟨0,0,0,x.1,x.2.1,x.2.2.1,x.2.2.2.1,x.2.2.2.2⟩
theorem zg9 (x:InD):inAV (rcI x)=inE x:=rfl
theorem zpU (env:Env) (a1 a8:Addr) (he:ChEnv env a1 a8) (c:ChD) (h:Full c) (hs:Small c) (x:InD) (hL:LiteI (rcI x)) (hn: ∀t∈x.2.2.2.1,t.1.length<=9223372036854775807) (hF: ∀m∈x.2.2.1,Fits m.2.length 8) (op:List UInt8) (d:Int) (hr:zbw c (rcI x)=true) (ho:x.2.2.2.2=false) (hd:zau d=true):Con Tryz.prog env 63 [Sg op,zaj c, .agg (inE x),I d] nilE:=by
 have f0:=zdc env a1 a8 he c h hs (rcI x) hL hn hF
 unfold zhM at f0
 rw [if_pos hr,zg9] at f0
 have f1:=za2 env d
 rw [hd] at f1
 unfold zaj inE at f0 |-
 refine zaa Tryz.func63 rfl Tryz.call63 (by rw [Tryz.ntmps63]; simp) ?_
 rw [Tryz.ntmps63,Tryz.results63]
 have F:=ho
 repeat (first | refine st ?_ | refine cC f0 ?_ | refine cC f1 ?_)
 exact aR
theorem zod (env:Env) (a1 a8:Addr) (he:ChEnv env a1 a8) (c:ChD) (h:Full c) (hs:Small c) (x:InD) (hL:LiteI (rcI x)) (hn: ∀t∈x.2.2.2.1,t.1.length<=9223372036854775807) (hF: ∀m∈x.2.2.1,Fits m.2.length 8) (op:List UInt8) (d:Int) (hr:zbw c (rcI x)=false):Con Tryz.prog env 63 [Sg op,zaj c, .agg (inE x),I d] (errV (-1) (errV (-1) (sentV a1))):=by
 have f0:=zdc env a1 a8 he c h hs (rcI x) hL hn hF
 unfold zhM at f0
 rw [if_neg (by rw [hr]; exact Bool.false_ne_true),zg9] at f0
 have f1:=zmI env op (-1) (sentV a1)
 unfold zaj inE at f0 |-
 refine zaa Tryz.func63 rfl Tryz.call63 (by rw [Tryz.ntmps63]; simp) ?_
 rw [Tryz.ntmps63,Tryz.results63]
 repeat (first | refine st0 ?_ | refine cC0 f0 ?_ | refine cC0 f1 ?_)
 exact aR0
theorem zoc (env:Env) (a1 a7 a8:Addr) (he:ChEnv env a1 a8) (h7:env 0=some (sentV a7)) (c:ChD) (h:Full c) (hs:Small c) (x:InD) (hL:LiteI (rcI x)) (hn: ∀t∈x.2.2.2.1,t.1.length<=9223372036854775807) (hF: ∀m∈x.2.2.1,Fits m.2.length 8) (op:List UInt8) (d:Int) (hr:zbw c (rcI x)=true) (ho:x.2.2.2.2=true):Con Tryz.prog env 63 [Sg op,zaj c, .agg (inE x),I d] (errV (-1) (sentV a7)):=by
 have f0:=zdc env a1 a8 he c h hs (rcI x) hL hn hF
 unfold zhM at f0
 rw [if_pos hr,zg9] at f0
 have g7:=zhf h7
 have f1:=zb4 env op a7
 unfold zaj inE at f0 |-
 refine zaa Tryz.func63 rfl Tryz.call63 (by rw [Tryz.ntmps63]; simp) ?_
 rw [Tryz.ntmps63,Tryz.results63]
 have F:=ai ho<|g7
 repeat (first | refine st ?_ | refine cC f0 ?_ | refine cC f1 ?_)
 exact aR
theorem zoe (env:Env) (a1 a8:Addr) (he:ChEnv env a1 a8) (c:ChD) (h:Full c) (hs:Small c) (x:InD) (hL:LiteI (rcI x)) (hn: ∀t∈x.2.2.2.1,t.1.length<=9223372036854775807) (hF: ∀m∈x.2.2.1,Fits m.2.length 8) (op:List UInt8) (d:Int) (hr:zbw c (rcI x)=true) (ho:x.2.2.2.2=false) (hd:zau d=false):Con Tryz.prog env 63 [Sg op,zaj c, .agg (inE x),I d] (errV (-1) (sentV a1)):=by
 have f0:=zdc env a1 a8 he c h hs (rcI x) hL hn hF
 unfold zhM at f0
 rw [if_pos hr,zg9] at f0
 have f1:=za2 env d
 rw [hd] at f1
 have f2:=zkk env a1 a8 he op
 unfold zaj inE at f0 |-
 refine zaa Tryz.func63 rfl Tryz.call63 (by rw [Tryz.ntmps63]; simp) ?_
 rw [Tryz.ntmps63,Tryz.results63]
 have F:=ho
 repeat (first | refine st ?_ | refine cC f0 ?_ | refine cC f1 ?_ | refine cC f2 ?_)
 exact aR
end
section
def enAV (a2:Addr):Except Nat (List Nat)->AV
 | .ok l=> .tuple [.seq 1 (l.map zad),nilE]
 | .error n=> .tuple [nilS,errV (1000+(n:Nat)) (sentV a2)]
theorem znf {c:ChD} {w:WoD} {ev:List UInt8} {i:Nat} {l o:List Nat} (h:zcd c w ev ((i:Int)::upL c i)= .no):zbI c w ev (i::l) o=zbI c w ev l o:=by
 conv=>lhs; unfold zbI
 rw [h]
theorem zkG {c:ChD} {w:WoD} {ev:List UInt8} {i n:Nat} {l o:List Nat} (h:zcd c w ev ((i:Int)::upL c i)= .one n):zbI c w ev (i::l) o=zbI c w ev l (if o.contains n then o else o++[n]):=by
 conv=>lhs; unfold zbI
 rw [h]
theorem zkH {c:ChD} {w:WoD} {ev:List UInt8} {i n:Nat} {l o:List Nat} (h:zcd c w ev ((i:Int)::upL c i)= .bad n):zbI c w ev (i::l) o= .error n:=by
 unfold zbI
 rw [h]
theorem zqZ {c:ChD} {w:WoD} {ev:List UInt8} {n:Nat} {l:List Int} (h:zcd c w ev l= .one n):n<c.trans.length:=by
 obtain⟨_,_,t,ht,_⟩:=zme h
 exact(List.getElem?_eq_some_iff.1 ht).1
theorem take_len (c:ChD) (act:List Int) (l:List Nat) (n:Nat):(takeL c act l n).length<=l.length+1:=by
 unfold takeL
 split
 ·rw [List.length_append,List.length_singleton]
  have:=List.length_filter_le (fun k=> !zbz c act k n) l
  omega
 ·omega
theorem zpd (l:List Nat):l.map zad=(zL l).map intAV:=(zcP l).symm
theorem zmG (env:Env) (a1 a2 a8:Addr) (he:ChEnv env a1 a8) (h2:env 2=some (sentV a2)) (c:ChD) (h:Full c) (hs:Small c) (x:InD) (d:Int) (hx:Asked c x d) (ev:List UInt8)
 (fr:Con Tryz.prog env 63 [Sg [109,105,99,114,111,46,69,110,97,98,108,101,100],zaj c, .agg (inE x),I d] nilE) (l:List Nat) (hl:x.1=zL l) (hk: ∀k∈l,k<c.states.length):
 Con Tryz.prog env 24 [zaj c, .agg (inE x),Sg ev,I d] (enAV a2 (zk7 c x.1 (woX c x.1 x.2.1 d) ev (innL c l))):=by
 have hfew:=h.few
 have hxl:=hx.act
 have f1:=zax env c hs
 have f2:Con Tryz.prog env 70 [zaj c,ints34 x.1] (.tuple [.seq 1 ((innL c l).map zad),nilE]):=by
  have:=zkc env a1 a8 he c h hs l (by rw [hl,zcn] at hxl; omega) hk (by rw [<-hl]; exact hx.lg)
  rwa [zpd l, <-hl] at this
 have f3:=fun k:Nat=>zsD env a1 a2 a8 he h2 c h hs x d hx k ev
 have f4:=fun(o:List Nat) (n:Nat) (ho:o.length<=1000)=>(zaO env (zL o) n (by rw [zcn]; omega)).lend rfl
 have f5:=fun(o:List Nat) (ho:o.length<=1000) (hk: ∀n∈o,n<c.trans.length) (n:Nat) (hn:n<c.trans.length)=>zr2 env a1 a8 he c h hs x d hx o ho hk n hn
 have hil:(innL c l).length<=32:=by
  have:=(zfw h.toRight (zL (lnTo c l l.length))).length_le_of_subset (l₂:=List.range c.states.length) fun m hm=>by
   have hm:m∈innL c l:=hm
   unfold innL sortL at hm
   split at hm
   ·exact List.mem_range.2 ((zdh h.toRight m).1 (List.mem_filter.1 hm).1)
   ·simp at hm
  simp at this
  show (sortL c (zL (lnTo c l l.length))).length<=32
  omega
 unfold zk7
 generalize hW:woX c x.1 x.2.1 d=W at*
 generalize innL c l=R at*
 unfold rnE at f3 f5
 unfold inE at fr |-
 unfold zaj at f1 f2 fr |-
 unfold chAV at f1
 refine zaa Tryz.func24 rfl Tryz.call24 (by rw [Tryz.ntmps24]; simp) ?_
 rw [Tryz.ntmps24,Tryz.results24]
 repeat (first | refine st0 ?_ | refine cC0 fr ?_ | refine cC0 f1 ?_ | refine cC0 f2 ?_)
 refine zaX 14 14 3 1 ?_
 refine zeq (Turned.nil 15 1 (by simp only [go_sem])) ?_
 refine zac (D:=Nat×List Nat) (fun e vs=>[(2,Sg ev),(11, .loc 35 (vs 35) 0 0),(14, .row 14 (vs 14)),(15, .seq 1 []),(47, .seq 1 (R.map zad)),(48,I R.length),(49,I e.1)])
  (fun e _=>[(14,⟨1,e.2.map zad,3,true⟩),(35,⟨15,[[ints34 x.1,ints34 x.2.1, .seq 2 (x.2.2.1.map mmAV), .seq 2 (x.2.2.2.1.map tmAV),B x.2.2.2.2,nilS,nilS, .ref 9 [tabCells c] 0 0,Sg c.name,I c.initial,varsAV c.vars,stsAV c.states,trsAV c.trans,I d,I 0]],129,false⟩)])
  (fun e _ esc=>(e.1<=R.length/\zbI c W ev R []=zbI c W ev (R.drop e.1) e.2/\e.2.length<=e.1/\ ∀n∈e.2,n<c.trans.length)/\esc 14=false) (fun e=>R.length-e.1) (0,[]) ?_ ?_ ?_ ?_
 ·exact⟨⟨Nat.zero_le _,rfl,Nat.le_refl _,fun n hn=>by simp at hn⟩,by simp only [go_sem]⟩
 ·(simp only [go_sem])
 ·(simp only [go_sem])
  try rfl
 rintro⟨j,o⟩ ws esc ⟨⟨hj,hq,hol,hok⟩,e0⟩
 simp only at hj hq hol hok
 by_cases hlt:j<R.length
 ·obtain⟨k,hkk⟩: ∃k,R[j]? =some k:=⟨R[j],List.getElem?_eq_getElem hlt⟩
  have q1:=nlt hlt
  have q2:=zab hlt (by omega)
  have f6:=f3 k
  rw [zcJ hkk] at hq
  have q4: ¬(0:Int)<= -1:=by omega
  cases hv:zcd c W ev ((k:Int)::upL c k) with
  | no=>
    rw [hv] at f6
    unfold fdAV at f6
    rw [znf hv] at hq
    have F:=ai zad.eq_1<|ai hkk<|ai q1<|ai q2<|ai q4<|e0
    repeat (first | refine st ?_ | refine cC f6 ?_)
    refine⟨(j+1,o),⟨⟨hlt,hq,Nat.le_succ_of_le hol,hok⟩,by simp only [go_sem,e0]⟩, ?_, ?_,by simp only; omega⟩
    ·(simp only [go_sem,F])
    ·(simp only [go_sem,F])
  | bad n=>
    rw [hv] at f6
    unfold fdAV at f6
    rw [zkH hv] at hq
    rw [hq]
    show awp _ _ _ _ _ _
    unfold enAV
    have F:=ai zad.eq_1<|ai hkk<|ai q1<|e0
    repeat (first | refine st ?_ | refine cC f6 ?_)
    exact aR
  | one n=>
    have hnl:=zqZ hv
    rw [hv] at f6
    unfold fdAV at f6
    rw [zkG hv] at hq
    have q3:(0:Int)<=(n:Int):=by omega
    have f7:=f4 o n (by omega)
    rw [zcP] at f7
    have hf:Fits (o.length+1) 8:=zai (by omega) (by omega)
    cases hc:o.contains n with
    | true=>
      have hz:(zL o).contains (n:Int)=true:=zmH.2 (List.contains_iff_mem.1 hc)
      rw [hz] at f7
      rw [hc] at hq
      simp only [if_true] at hq
      have F:=ai zad.eq_1<|ai hkk<|ai q1<|ai q2<|ai q3<|e0
      repeat (first | refine st ?_ | refine cC f6 ?_)
      refine oL rfl (f7) (by simp only [go_sem,F]; exact iR) (by simp only [go_sem,F]; exact⟨rfl,rfl⟩) ?_
      repeat refine st ?_
      refine⟨(j+1,o),⟨⟨hlt,hq,Nat.le_succ_of_le hol,hok⟩,by simp only [go_sem,e0]⟩, ?_, ?_,by simp only; omega⟩
      ·(simp only [go_sem,F])
      ·(simp only [go_sem,F])
    | false=>
      have hz:(zL o).contains (n:Int)=false:=by
       cases hh:(zL o).contains (n:Int) with
       | false=>rfl
       | true=>
         have:=List.contains_iff_mem.2 (zmH.1 hh)
         rw [hc] at this
         cases this
      rw [hz] at f7
      rw [hc] at hq
      simp only [Bool.false_eq_true,if_false] at hq
      have F:=ai zad.eq_1<|ai hkk<|ai q1<|ai q2<|ai q3<|ai hf<|e0
      repeat (first | refine st ?_ | refine cC f6 ?_)
      refine oL rfl (f7) (by simp only [go_sem,F]; exact iR) (by simp only [go_sem,F]; exact⟨rfl,rfl⟩) ?_
      repeat refine st ?_
      refine⟨(j+1,o++[n]),⟨⟨hlt,hq,by simp only [List.length_append,List.length_singleton]; omega,fun m hm=> ?_⟩,by simp only [go_sem,e0]⟩, ?_, ?_,by simp only; omega⟩
      ·rcases List.mem_append.1 hm with hm | hm
       ·exact hok m hm
       ·rw [List.mem_singleton.1 hm]; exact hnl
      ·(simp only [go_sem,F])
      ·have F:=zad.eq_1
       (simp only [go_sem,List.map_append,F])
 ·obtain rfl:j=R.length:=by omega
  have q1: ¬(R.length:Int)< (R.length:Int):=by omega
  rw [List.drop_length] at hq
  have hq2:zbI c W ev R []= .ok o:=hq
  rw [hq2]
  show awp _ _ _ _ _ _
  unfold zpy enAV
  have hfo: ∀m,m<=o.length->((o.take m).foldl (takeL c x.1) []).length<=m/\ ∀n∈(o.take m).foldl (takeL c x.1) [],n<c.trans.length:=fun m=>by
   induction m with
   | zero=>exact fun _=>⟨by simp,fun n hn=>by simp at hn⟩
   | succ m ih=>
     intro hm
     obtain⟨i1,i2⟩:=ih (by omega)
     obtain⟨n,hn⟩: ∃n,o[m]? =some n:=⟨o[m],List.getElem?_eq_getElem (by omega)⟩
     rw [zbJ _ _ hn]
     refine⟨Nat.le_trans (take_len ..) (by omega),fun k hk=> ?_⟩
     rcases ziI hk with hk | rfl
     ·exact i2 k hk
     ·exact hok _ (List.mem_of_getElem? hn)
  have F:=ai q1<|e0
  repeat refine st ?_
  try clear f4 f6
  refine zac (D:=Nat) (fun m vs=>[(11, .loc 35 (vs 35) 0 0),(15, .seq 1 (((o.take m).foldl (takeL c x.1) []).map zad)),(76, .row 14 (vs 14)),(77,I o.length),(78,I m)])
   (fun m _=>[(14,⟨1,o.map zad,3,true⟩),(35,⟨15,[[ints34 x.1,ints34 x.2.1, .seq 2 (x.2.2.1.map mmAV), .seq 2 (x.2.2.2.1.map tmAV),B x.2.2.2.2,nilS,nilS, .ref 9 [tabCells c] 0 0,Sg c.name,I c.initial,varsAV c.vars,stsAV c.states,trsAV c.trans,I d,I 0]],129,false⟩)])
   (fun m _ _=>m<=o.length) (fun m=>o.length-m) 0 ?_ ?_ ?_ ?_
  ·exact Nat.zero_le _
  ·(simp only [go_sem,F])
   try rfl
  ·(simp only [go_sem,F])
  rintro m us es hm
  obtain⟨i1,i2⟩:=hfo m hm
  by_cases hlt2:m<o.length
  ·obtain⟨n,hn⟩: ∃n,o[m]? =some n:=⟨o[m],List.getElem?_eq_getElem hlt2⟩
   have p1:=nlt hlt2
   have p2:=zab hlt2 (by omega)
   have f6:=f5 _ (by omega) i2 n (hok n (List.mem_of_getElem? hn))
   have hnx:=zbJ (takeL c x.1) [] hn
   rw [<-hnx] at f6
   generalize (o.take m).foldl (takeL c x.1) []=A at*
   generalize hA2:(o.take (m+1)).foldl (takeL c x.1) []=A2 at*
   have F:=ai zad.eq_1<|ai hn<|ai p1<|p2
   repeat (first | refine st ?_ | refine cC f6 ?_)
   refine⟨m+1,hlt2, ?_, ?_,by omega⟩
   ·have F:=ai zad.eq_1<|hA2
    (simp only [go_sem,F])
   ·(simp only [go_sem,zad,hA2])
  ·obtain rfl:m=o.length:=by omega
   have p1: ¬(o.length:Int)< (o.length:Int):=by omega
   rw [List.take_length]
   have F:=p1
   repeat refine st ?_
   exact aR
end
section
theorem ztV {c:ChD} (h:Full c) {act:List Int} (hz: ∀x∈act,inZ c x=true) (t:TrD): ∀x∈leaveR c act t,0<=x:=fun x hx=>by
 unfold leaveR at hx
 split at hx
 ·simp at hx
 ·rw [List.mem_reverse] at hx
  unfold undR at hx
  have:=(List.mem_filter.1 hx).1
  rw [zpJ h.toRight hz] at this
  exact(zak.1 (hz x this)).1
theorem zsp {A:List Int} {ks:List Nat} :(0<manyI A ks)↔A.any (fun i=>(zL ks).contains i)=true:=by
 unfold manyI
 rw [List.length_pos_iff_exists_mem,List.any_eq_true]
 constructor
 ·rintro⟨k,hk⟩
  obtain⟨h1,h2⟩:=List.mem_filter.1 hk
  exact⟨k,List.contains_iff_mem.1 h2,List.contains_iff_mem.2 (List.mem_map.2 ⟨k,h1,rfl⟩)⟩
 ·rintro⟨x,hx,hc⟩
  obtain⟨k,hk,rfl⟩:=List.mem_map.1 (List.contains_iff_mem.1 hc)
  exact⟨k,List.mem_filter.2 ⟨hk,List.contains_iff_mem.2 hx⟩⟩
theorem ze5 (env:Env) (c:ChD) (h:Full c) (act:List Int) (hl:act.length<=1000000) (hz: ∀x∈act,inZ c x=true) (a b:Nat) (ha:a<c.trans.length) (hb:b<c.trans.length):Con Tryz.prog env 104 [.agg (chAV c),ints34 act,I a,I b] (B (zbz c act a b)):=by
 obtain⟨ta,hta⟩: ∃t,c.trans[a]? =some t:=⟨c.trans[a],List.getElem?_eq_getElem ha⟩
 obtain⟨tb,htb⟩: ∃t,c.trans[b]? =some t:=⟨c.trans[b],List.getElem?_eq_getElem hb⟩
 have hz0: ∀x∈act,0<=x:=fun x hx=>(zak.1 (hz x hx)).1
 have f0:=zfZ env c h act hl hz0 a ta hta
 have f1:=zfZ env c h act hl hz0 b tb htb
 have l0:=zfb h act ta
 have l1:=zfb h act tb
 have e1:=zui (ztV h hz tb)
 have f2:=zdQ env (leaveR c act ta) ((leaveR c act tb).map Int.toNat) (by omega) (by rw [List.length_map]; omega)
 rw [zpd, <-e1] at f2
 have hm:=zsp (A:=leaveR c act ta) (ks:=(leaveR c act tb).map Int.toNat)
 rw [<-e1] at hm
 unfold zbz
 rw [zdD hta,zdD htb]
 have q1:=nlt ha
 have q2:=nlt hb
 generalize manyI (leaveR c act ta) ((leaveR c act tb).map Int.toNat)=M at*
 generalize leaveR c act ta=A at*
 generalize leaveR c act tb=C at*
 have hd:decide ((0:Int)< (M:Int))=A.any fun i=>C.contains i:=by
  rw [Bool.eq_iff_iff,decide_eq_true_eq, <-hm]
  omega
 rw [<-hd]
 unfold chAV trAV at f0 f1
 refine zaa Tryz.func104 rfl Tryz.call104 (by rw [Tryz.ntmps104]; simp) ?_
 rw [Tryz.ntmps104,Tryz.results104]
 have F:=ai chAV.eq_1<|ai trAV.eq_1<|ai hta<|ai htb<|ai q1<|q2
 repeat (first | refine st ?_ | refine cC f0 ?_ | refine cC f1 ?_ | refine cC f2 ?_)
 exact aR
theorem zpW (env:Env) (c:ChD) (h:Full c) (act:List Int) (hla:act.length<=1000000) (hz: ∀x∈act,inZ c x=true) (l:List Nat) (hl:l.length<=1000) (hk: ∀n∈l,n<c.trans.length) (n:Nat) (hn:n<c.trans.length):
 Con Tryz.prog env 101 [.agg (chAV c),ints34 act, .seq 1 (l.map zad),I n] (.seq 1 ((takeL c act l n).map zad)):=by
 have hfew:=h.few
 have f0:=fun k hk=>ze5 env c h act hla hz k n hk hn
 have f2:=fun i k=>zcb env c h.toRight i k
 obtain⟨tn,htn⟩: ∃t,c.trans[n]? =some t:=⟨c.trans[n],List.getElem?_eq_getElem hn⟩
 have q5:=nlt hn
 unfold chAV at f0 f2
 refine zaa Tryz.func101 rfl Tryz.call101 (by rw [Tryz.ntmps101]; simp) ?_
 rw [Tryz.ntmps101,Tryz.results101]
 have F:=chAV.eq_1
 repeat refine st ?_
 refine zac (D:=Nat) (fun j vs=>[(1,ints34 act),(2, .seq 1 (l.map zad)),(3,I n),(4, .loc 4 (vs 4) 0 0),(9, .row 11 (vs 11)),(10,I j)]) (fun j _=>[(4,⟨5,[chAV c],26,false⟩),(11,⟨1,((l.take j).filter fun k=> !zbz c act k n).map zad,3,true⟩)]) (fun j _ esc=>(j<=l.length/\(l.take j).all (zgg c act n)=true)/\esc 11=false) (fun j=>l.length-j) 0 ?_ ?_ ?_ ?_
 ·exact⟨⟨Nat.zero_le _,rfl⟩,rfl⟩
 ·(simp only [go_sem,F])
 ·have F:=chAV.eq_1
  (simp only [go_sem,F])
  try rfl
 rintro j ws esc ⟨⟨hj,hall⟩,e0⟩
 have hfl:((l.take j).filter fun k=> !zbz c act k n).length<=l.length:=Nat.le_trans (List.length_filter_le ..) (by rw [List.length_take]; omega)
 have hf:Fits (((l.take j).filter fun k=> !zbz c act k n).length+1) 8:=zai (by omega) (by omega)
 by_cases hlt:j<l.length
 ·obtain⟨k,hkk⟩: ∃k,l[j]? =some k:=⟨l[j],List.getElem?_eq_getElem hlt⟩
  have hkm:=List.mem_of_getElem? hkk
  have hkl:=hk k hkm
  obtain⟨tk,htk⟩: ∃t,c.trans[k]? =some t:=⟨c.trans[k],List.getElem?_eq_getElem hkl⟩
  have q1:=nlt hlt
  have q2:=zab hlt (by omega)
  have q3:=nlt hkl
  have f3:=f0 k hkl
  have f4:=f2 tk.src tn.src
  have ht:=zdF hkk
  have hft:((l.take (j+1)).filter fun k=> !zbz c act k n)=((l.take j).filter fun k=> !zbz c act k n)++if zbz c act k n=true then [] else [k]:=by
   rw [ht,List.filter_append]
   congr 1
   cases hq:zbz c act k n<;>simp [hq]
  have hkp:zgg c act n k=(!zbz c act k n||aboveB c tk.src tn.src):=by unfold zgg; rw [zdD htk,zdD htn]
  have hat: ∀b,zgg c act n k=b->(l.take (j+1)).all (zgg c act n)=b:=fun b hb=>by rw [ht,List.all_append,hall]; simp [hb]
  cases hc:zbz c act k n with
  | false=>
    rw [hc] at f3 hft hkp
    simp only [Bool.false_eq_true,if_false] at hft
    have F:=ai chAV.eq_1<|ai zad.eq_1<|ai hkk<|ai q1<|ai q2<|ai q3<|ai hf<|e0
    repeat (first | refine st ?_ | refine cC f3 ?_)
    refine⟨j+1,⟨⟨hlt,hat _ (by rw [hkp]; rfl)⟩,by simp only [go_sem,e0]⟩, ?_, ?_,by omega⟩
    ·(simp only [go_sem,F])
    ·have F:=ai chAV.eq_1<|ai zad.eq_1<|hft
     (simp only [go_sem,List.map_append,F])
  | true=>
    rw [hc] at f3 hft hkp
    simp only [if_true,List.append_nil] at hft
    simp only [Bool.not_true,Bool.false_or] at hkp
    cases hab:aboveB c tk.src tn.src with
    | true=>
      rw [hab] at f4 hkp
      have F:=ai chAV.eq_1<|ai trAV.eq_1<|ai zad.eq_1<|ai hkk<|ai htk<|ai htn<|ai q1<|ai q2<|ai q3<|ai q5<|e0
      repeat (first | refine st ?_ | refine cC f3 ?_ | refine cC f4 ?_)
      refine⟨j+1,⟨⟨hlt,hat _ hkp⟩,by simp only [go_sem,e0]⟩, ?_, ?_,by omega⟩
      ·(simp only [go_sem,F])
      ·have F:=ai chAV.eq_1<|ai zad.eq_1<|hft
       (simp only [go_sem,F])
    | false=>
      rw [hab] at f4 hkp
      rw [zm9 hkm hkp]
      have F:=ai chAV.eq_1<|ai trAV.eq_1<|ai zad.eq_1<|ai hkk<|ai htk<|ai htn<|ai q1<|ai q2<|ai q3<|ai q5<|e0
      repeat (first | refine st ?_ | refine cC f3 ?_ | refine cC f4 ?_)
      exact aR
 ·obtain rfl:j=l.length:=by omega
  have q1: ¬(l.length:Int)< (l.length:Int):=by omega
  rw [List.take_length] at hall hf
  have hr:takeL c act l n=(l.filter fun k=> !zbz c act k n)++[n]:=by unfold takeL; rw [if_pos hall]
  have hm:(takeL c act l n).map zad=((l.filter fun k=> !zbz c act k n).map zad)++[[I (n:Int)]]:=by rw [hr,List.map_append]; rfl
  rw [hm,List.take_length]
  generalize (l.filter fun k=> !zbz c act k n)=K at*
  have F:=ai chAV.eq_1<|ai zad.eq_1<|ai q1<|ai hf<|e0
  repeat refine st ?_
  refine zeq (Turned.frozen 11 8 ⟨1,K.map zad++[[I (n:Int)]],3,true⟩ rfl (Nat.succ_ne_zero 0) (by simp only [go_sem]) (by simp only [go_sem])) ?_
  exact aR
def erR:Except Nat (List Nat)->AV
 | .ok l=> .tuple [.seq 1 (l.map zad),I 0,I (-1)]
 | .error n=> .tuple [nilS,I 2,I (1000+(n:Nat))]
theorem zj7 (env:Env) (c:ChD) (h:Full c) (hs:Small c) (x:InD) (d:Int) (hx:Asked c x d) (ev:List UInt8) (l:List Nat) (hl:x.1=zL l) (hk: ∀k∈l,k<c.states.length):Con Tryz.prog env 39 [.agg (chAV c), .agg (inE x),Sg ev,I d] (erR (zk7 c x.1 (woX c x.1 x.2.1 d) ev (innL c l))):=by
 have hxl:=hx.act
 have hz: ∀y∈x.1,inZ c y=true:=fun y hy=>by
  rw [hl] at hy
  obtain⟨k,hkk,rfl⟩:=List.mem_map.1 hy
  exact zaS.2 (hk k hkk)
 have f2:Con Tryz.prog env 99 [.agg (chAV c),ints34 x.1] (.own 3 1 ((innL c l).map zad)):=by
  have:=zj5 env c h l (by rw [hl,zcn] at hxl; omega) hk
  rwa [zpd l, <-hl] at this
 have f3:=fun k:Nat=>zlR env c h hs x d hx k ev
 have f4:=fun(o:List Nat) (n:Nat) (ho:o.length<=1000)=>(zcT env (zL o) n (by rw [zcn]; omega)).lend rfl
 have f5:=fun(o:List Nat) (ho:o.length<=1000) (hk: ∀n∈o,n<c.trans.length) (n:Nat) (hn:n<c.trans.length)=>zpW env c h x.1 (by omega) hz o ho hk n hn
 have hil:(innL c l).length<=1000:=by
  have:=(zfw h.toRight (zL (lnTo c l l.length))).length_le_of_subset (l₂:=List.range c.states.length) fun m hm=>by
   have hm:m∈innL c l:=hm
   unfold innL sortL at hm
   split at hm
   ·exact List.mem_range.2 ((zdh h.toRight m).1 (List.mem_filter.1 hm).1)
   ·simp at hm
  simp at this
  have hfew:=h.few
  show (sortL c (zL (lnTo c l l.length))).length<=1000
  omega
 unfold zk7
 generalize hW:woX c x.1 x.2.1 d=W at*
 generalize innL c l=R at*
 unfold inE at f3 |-
 unfold chAV at f2 f3 f5
 refine zaa Tryz.func39 rfl Tryz.call39 (by rw [Tryz.ntmps39]; simp) ?_
 rw [Tryz.ntmps39,Tryz.results39]
 have F:=chAV.eq_1
 repeat (first | refine st ?_ | refine cC f2 ?_)
 refine zac (D:=Nat×List Nat) (fun e vs=>[(2,Sg ev),(3,I d),(4, .loc 4 (vs 4) 0 0),(5, .loc 5 (vs 5) 0 0),(11, .row 22 (vs 22)),(12, .row 23 (vs 23)),(13,I e.1)])
  (fun e _=>[(4,⟨5,[chAV c],26,false⟩),(5,⟨5,[[ints34 x.1,ints34 x.2.1, .seq 2 (x.2.2.1.map mmAV), .seq 2 (x.2.2.2.1.map tmAV),B x.2.2.2.2]],31,false⟩),(22,⟨1,R.map zad,3,true⟩),(23,⟨1,e.2.map zad,3,true⟩)])
  (fun e _ esc=>(e.1<=R.length/\zbI c W ev R []=zbI c W ev (R.drop e.1) e.2/\e.2.length<=e.1/\ ∀n∈e.2,n<c.trans.length)/\esc 23=false) (fun e=>R.length-e.1) (0,[]) ?_ ?_ ?_ ?_
 ·exact⟨⟨Nat.zero_le _,rfl,Nat.le_refl _,fun n hn=>by simp at hn⟩,by simp only [go_sem]⟩
 ·(simp only [go_sem,F])
 ·have F:=chAV.eq_1
  (simp only [go_sem,F])
  try rfl
 rintro⟨j,o⟩ ws esc ⟨⟨hj,hq,hol,hok⟩,e0⟩
 simp only at hj hq hol hok
 by_cases hlt:j<R.length
 ·obtain⟨k,hkk⟩: ∃k,R[j]? =some k:=⟨R[j],List.getElem?_eq_getElem hlt⟩
  have q1:=nlt hlt
  have q2:=zab hlt (by omega)
  have f6:=f3 k
  rw [zcJ hkk] at hq
  have q4: ¬(0:Int)<= -1:=by omega
  cases hv:zcd c W ev ((k:Int)::upL c k) with
  | no=>
    rw [hv] at f6
    unfold frR at f6
    rw [znf hv] at hq
    have F:=ai chAV.eq_1<|ai zad.eq_1<|ai hkk<|ai q1<|ai q2<|ai q4<|e0
    repeat (first | refine st ?_ | refine cC f6 ?_)
    refine⟨(j+1,o),⟨⟨hlt,hq,Nat.le_succ_of_le hol,hok⟩,by simp only [go_sem,e0]⟩, ?_, ?_,by simp only; omega⟩
    ·(simp only [go_sem,F])
    ·have F:=chAV.eq_1
     (simp only [go_sem,F])
  | bad n=>
    rw [hv] at f6
    unfold frR at f6
    rw [zkH hv] at hq
    rw [hq]
    show awp _ _ _ _ _ _
    unfold erR
    have F:=ai chAV.eq_1<|ai zad.eq_1<|ai hkk<|ai q1<|e0
    repeat (first | refine st ?_ | refine cC f6 ?_)
    exact aR
  | one n=>
    have hnl:=zqZ hv
    rw [hv] at f6
    unfold frR at f6
    rw [zkG hv] at hq
    have q3:(0:Int)<=(n:Int):=by omega
    have f7:=f4 o n (by omega)
    rw [zcP] at f7
    have hf:Fits (o.length+1) 8:=zai (by omega) (by omega)
    cases hc:o.contains n with
    | true=>
      have hz:(zL o).contains (n:Int)=true:=zmH.2 (List.contains_iff_mem.1 hc)
      rw [hz] at f7
      rw [hc] at hq
      simp only [if_true] at hq
      have F:=ai chAV.eq_1<|ai zad.eq_1<|ai hkk<|ai q1<|ai q2<|ai q3<|e0
      repeat (first | refine st ?_ | refine cC f6 ?_)
      refine oL rfl (f7) (by simp only [go_sem,F]; exact iR) (by simp only [go_sem,F]; exact⟨rfl,rfl⟩) ?_
      repeat refine st ?_
      refine⟨(j+1,o),⟨⟨hlt,hq,Nat.le_succ_of_le hol,hok⟩,by simp only [go_sem,e0]⟩, ?_, ?_,by simp only; omega⟩
      ·(simp only [go_sem,F])
      ·have F:=chAV.eq_1
       (simp only [go_sem,F])
    | false=>
      have hz:(zL o).contains (n:Int)=false:=by
       cases hh:(zL o).contains (n:Int) with
       | false=>rfl
       | true=>
         have:=List.contains_iff_mem.2 (zmH.1 hh)
         rw [hc] at this
         cases this
      rw [hz] at f7
      rw [hc] at hq
      simp only [Bool.false_eq_true,if_false] at hq
      have F:=ai chAV.eq_1<|ai zad.eq_1<|ai hkk<|ai q1<|ai q2<|ai q3<|ai hf<|e0
      repeat (first | refine st ?_ | refine cC f6 ?_)
      refine oL rfl (f7) (by simp only [go_sem,F]; exact iR) (by simp only [go_sem,F]; exact⟨rfl,rfl⟩) ?_
      repeat refine st ?_
      refine⟨(j+1,o++[n]),⟨⟨hlt,hq,by simp only [List.length_append,List.length_singleton]; omega,fun m hm=> ?_⟩,by simp only [go_sem,e0]⟩, ?_, ?_,by simp only; omega⟩
      ·rcases List.mem_append.1 hm with hm | hm
       ·exact hok m hm
       ·rw [List.mem_singleton.1 hm]; exact hnl
      ·(simp only [go_sem,F])
      ·have F:=ai chAV.eq_1<|zad.eq_1
       (simp only [go_sem,List.map_append,F])
 ·obtain rfl:j=R.length:=by omega
  have q1: ¬(R.length:Int)< (R.length:Int):=by omega
  rw [List.drop_length] at hq
  have hq2:zbI c W ev R []= .ok o:=hq
  rw [hq2]
  show awp _ _ _ _ _ _
  unfold zpy erR
  have hfo: ∀m,m<=o.length->((o.take m).foldl (takeL c x.1) []).length<=m/\ ∀n∈(o.take m).foldl (takeL c x.1) [],n<c.trans.length:=fun m=>by
   induction m with
   | zero=>exact fun _=>⟨by simp,fun n hn=>by simp at hn⟩
   | succ m ih=>
     intro hm
     obtain⟨i1,i2⟩:=ih (by omega)
     obtain⟨n,hn⟩: ∃n,o[m]? =some n:=⟨o[m],List.getElem?_eq_getElem (by omega)⟩
     rw [zbJ _ _ hn]
     refine⟨Nat.le_trans (take_len ..) (by omega),fun k hk=> ?_⟩
     rcases ziI hk with hk | rfl
     ·exact i2 k hk
     ·exact hok _ (List.mem_of_getElem? hn)
  have F:=ai chAV.eq_1<|ai q1<|e0
  repeat refine st ?_
  refine zeq (Turned.frozen 59 17 ⟨1,[],3,true⟩ rfl (Nat.succ_ne_zero 0) (by simp only [go_sem]) (by simp only [go_sem])) ?_
  try clear f4 f6
  refine zac (D:=Nat) (fun m vs=>[(4, .loc 4 (vs 4) 0 0),(5, .loc 5 (vs 5) 0 0),(12, .row 23 (vs 23)),(17, .seq 1 (((o.take m).foldl (takeL c x.1) []).map zad)),(18,I m)])
   (fun m _=>[(4,⟨5,[chAV c],26,false⟩),(5,⟨5,[[ints34 x.1,ints34 x.2.1, .seq 2 (x.2.2.1.map mmAV), .seq 2 (x.2.2.2.1.map tmAV),B x.2.2.2.2]],31,false⟩),(23,⟨1,o.map zad,3,true⟩)])
   (fun m _ _=>m<=o.length) (fun m=>o.length-m) 0 ?_ ?_ ?_ ?_
  ·exact Nat.zero_le _
  ·(simp only [go_sem,F])
   try rfl
  ·have F:=chAV.eq_1
   (simp only [go_sem,F])
  rintro m us es hm
  obtain⟨i1,i2⟩:=hfo m hm
  by_cases hlt2:m<o.length
  ·obtain⟨n,hn⟩: ∃n,o[m]? =some n:=⟨o[m],List.getElem?_eq_getElem hlt2⟩
   have p1:=nlt hlt2
   have p2:=zab hlt2 (by omega)
   have f6:=f5 _ (by omega) i2 n (hok n (List.mem_of_getElem? hn))
   have hnx:=zbJ (takeL c x.1) [] hn
   rw [<-hnx] at f6
   generalize (o.take m).foldl (takeL c x.1) []=A at*
   generalize hA2:(o.take (m+1)).foldl (takeL c x.1) []=A2 at*
   have F:=ai chAV.eq_1<|ai zad.eq_1<|ai hn<|ai p1<|p2
   repeat (first | refine st ?_ | refine cC f6 ?_)
   refine⟨m+1,hlt2, ?_, ?_,by omega⟩
   ·have F:=ai zad.eq_1<|hA2
    (simp only [go_sem,F])
   ·have F:=chAV.eq_1
    (simp only [go_sem,F])
  ·obtain rfl:m=o.length:=by omega
   have p1: ¬(o.length:Int)< (o.length:Int):=by omega
   rw [List.take_length]
   have F:=p1
   repeat refine st ?_
   exact aR
theorem zoj (env:Env) (c:ChD) (h:Full c) (act:List Int) (hla:act.length<=1000000) (hz: ∀x∈act,inZ c x=true) (l:List Nat) (hl:l.length<=1000) (hf:Fit c act l):Con Tryz.prog env 41 [.agg (chAV c),ints34 act, .seq 1 (l.map zad)] (B true):=by
 have hk: ∀n∈l,n<c.trans.length:=fun n hn=>by
  obtain⟨t,ht,_⟩:=hf.real n hn
  exact(List.getElem?_eq_some_iff.1 ht).1
 have f0:=fun a b ha hb=>ze5 env c h act hla hz a b ha hb
 have f1:=zp0 env c
 have f2:=fun v=>zcT env act v hla
 unfold chAV at f0 f1
 refine zaa Tryz.func41 rfl Tryz.call41 (by rw [Tryz.ntmps41]; simp) ?_
 rw [Tryz.ntmps41,Tryz.results41]
 have F:=chAV.eq_1
 repeat refine st ?_
 refine zac (D:=Nat) (fun j vs=>[(1,ints34 act),(2, .seq 1 (l.map zad)),(3, .loc 3 (vs 3) 0 0),(7,I j)]) (fun _ _=>[(3,⟨5,[chAV c],26,false⟩)]) (fun j _ _=>j<=l.length) (fun j=>l.length-j) 0 ?_ ?_ ?_ ?_
 ·exact Nat.zero_le _
 ·(simp only [go_sem,F])
 ·have F:=chAV.eq_1
  (simp only [go_sem,F])
 rintro j vs esc hj
 by_cases hlt:j<l.length
 ·obtain⟨n,hn⟩: ∃n,l[j]? =some n:=⟨l[j],List.getElem?_eq_getElem hlt⟩
  have hnm:=List.mem_of_getElem? hn
  have hnl:=hk n hnm
  obtain⟨t,ht,hsrc⟩:=hf.real n hnm
  have q1:=nlt hlt
  have q2:=zab hlt (by omega)
  have q3:=nlt hnl
  have f3:=f1 n
  rw [show isT c (n:Int)=true by unfold isT; simp; omega] at f3
  have f4:=f2 t.src
  rw [List.contains_iff_mem.2 hsrc] at f4
  have F:=ai chAV.eq_1<|ai trAV.eq_1<|ai zad.eq_1<|ai hn<|ai ht<|ai q1<|ai q2<|q3
  repeat (first | refine st ?_ | refine cC f3 ?_ | refine cC f4 ?_)
  refine zac (D:=Nat) (fun m vs=>[(1,ints34 act),(2, .seq 1 (l.map zad)),(3, .loc 3 (vs 3) 0 0),(7,I j),(8,I m)]) (fun _ _=>[(3,⟨5,[chAV c],26,false⟩)]) (fun m _ _=>m<=j) (fun m=>j-m) 0 ?_ ?_ ?_ ?_
  ·exact Nat.zero_le _
  ·(simp only [go_sem,F])
  ·have F:=chAV.eq_1
   (simp only [go_sem,F])
  rintro m us es hm
  by_cases hlt2:m<j
  ·obtain⟨k,hkk⟩: ∃k,l[m]? =some k:=⟨l[m],List.getElem?_eq_getElem (by omega)⟩
   have hkl:=hk k (List.mem_of_getElem? hkk)
   have p1:(m:Int)< (j:Int):=by omega
   have p2:=zab hlt2 (by omega)
   have p3:(m:Int)< (l.length:Int):=by omega
   obtain⟨g1,g2⟩:=List.getElem?_eq_some_iff.1 hn
   obtain⟨g3,g4⟩:=List.getElem?_eq_some_iff.1 hkk
   have hp:=List.pairwise_iff_getElem.1 hf.two m j g3 g1 hlt2
   rw [g2,g4] at hp
   have f5:=f0 k n hkl hnl
   rw [hp.2] at f5
   have p4:((k:Int)==(n:Int))=false:=by
    have:=hp.1
    simp; omega
   have F:=ai chAV.eq_1<|ai zad.eq_1<|ai hn<|ai hkk<|ai q1<|ai p1<|ai p2<|ai p3<|p4
   repeat (first | refine st ?_ | refine cC f5 ?_)
   refine⟨m+1,hlt2, ?_, ?_,by omega⟩
   ·(simp only [go_sem,F])
   ·have F:=chAV.eq_1
    (simp only [go_sem,F])
  ·obtain rfl:m=j:=by omega
   have p1: ¬(m:Int)< (m:Int):=by omega
   have F:=ai chAV.eq_1<|ai p1<|q2
   repeat refine st ?_
   refine⟨m+1,hlt, ?_, ?_,by omega⟩
   ·(simp only [go_sem,F])
   ·have F:=chAV.eq_1
    (simp only [go_sem,F])
 ·obtain rfl:j=l.length:=by omega
  have q1: ¬(l.length:Int)< (l.length:Int):=by omega
  have F:=q1
  repeat refine st ?_
  exact aR
end

end Go.Proofs.YtnbjaghjdeicmaaGreatDoor