/- Contracts of the document's checks of charts (scriniumref24): by the walk without memory. -/
import Derived.Test.YtnbjaghjdeicmaaGreatDoorG15
import Derived.Test.YtnbjaghjdeicmaaGreatDoorG10
import Derived.Test.YtnbjaghjdeicmaaGreatDoorG5
import Derived.Test.YtnbjaghjdeicmaaGreatDoorG12
set_option maxRecDepth 100000
set_option maxHeartbeats 8000000
set_option linter.unusedSimpArgs false
namespace Go.Proofs.YtnbjaghjdeicmaaGreatDoor
open Go.RowKit
section
theorem zmd (env:Env) (s:List UInt8):Con Tryz.prog env 210 [Sg s] (B false):=by
 refine zaa Tryz.func210 rfl Tryz.call210 (by rw [Tryz.ntmps210]; simp) ?_
 rw [Tryz.ntmps210,Tryz.results210]
 repeat refine st0 ?_
 exact aR0
theorem zqX (env:Env) (s:List UInt8):Con Tryz.prog env 265 [Sg s] (B false):=by
 refine zaa Tryz.func265 rfl Tryz.call265 (by rw [Tryz.ntmps265]; simp) ?_
 rw [Tryz.ntmps265,Tryz.results265]
 repeat refine st0 ?_
 exact aR0
theorem zpb (env:Env) (s t:List UInt8):Con Tryz.prog env 209 [Sg s,Sg t] (B (Op.bytesLess s t)):=by
 have f0:=zqX env s
 refine zaa Tryz.func209 rfl Tryz.call209 (by rw [Tryz.ntmps209]; simp) ?_
 rw [Tryz.ntmps209,Tryz.results209]
 repeat (first | refine st0 ?_ | refine cC0 f0 ?_)
 exact aR0
theorem zlG (env:Env) (l:List (List UInt8)) (x:List UInt8) (p:Nat) (hp:Cut l x p) (hl:l.length<=1000000):Con Tryz.prog env 132 [.seq 1 (l.map zcU),Sg x] (.tuple [I p,B (l[p]? == some x)]):=by
 have f0:=zmd env x
 refine zaa Tryz.func132 rfl Tryz.call132 (by rw [Tryz.ntmps132]; simp) ?_
 rw [Tryz.ntmps132,Tryz.results132]
 repeat refine st0 ?_
 refine zac (D:=Nat×Nat) (fun d _=>[(0, .seq 1 (l.map zcU)),(1,Sg x),(6,I l.length),(7,I d.1),(8,I d.2)]) (fun _ _=>[]) (fun d _ _=>d.1<=p/\p<=d.2/\d.2<=l.length) (fun d=>d.2-d.1) (0,l.length) ?_ ?_ ?_ ?_
 ·exact⟨Nat.zero_le _,hp.1,Nat.le_refl _⟩
 ·(simp only [go_sem])
 ·(simp only [go_sem])
 rintro⟨i,j⟩ ws esc ⟨h1,h2,h3⟩
 simp only at h1 h2 h3
 by_cases hlt:i<j
 ·have g1:=nlt hlt
  have hm:(i+j)/2<l.length:=by omega
  obtain⟨y,hy⟩: ∃y,l[(i+j)/2]? =some y:=⟨l[(i+j)/2],List.getElem?_eq_getElem hm⟩
  have hyp:=hp.2 _ _ hy
  have f1:=zpb env y x
  have g2:IntKind.i64.wrap ((i:Int)+(j:Int))=((i+j:Nat):Int):=by rw [zbQ (by omega) (by omega)]; omega
  have g3:IntKind.u64.wrap ((i+j:Nat):Int)=((i+j:Nat):Int):=IntWalk.u64_in _ (by omega)
  have g4:IntKind.i64.wrap (((i+j:Nat):Int).fdiv (2^min 1 64))=(((i+j)/2:Nat):Int):=by
   rw [show ((i+j:Nat):Int).fdiv (2^min 1 64)=(((i+j)/2:Nat):Int) from(Int.ofNat_fdiv (i+j) 2).symm,zbQ (by omega) (by omega)]
  have g5:(((i+j)/2:Nat):Int)< (l.length:Int):=by omega
  have g6:=zab (k:=(i+j)/2) (n:=l.length) hm (by omega)
  generalize hmm:(i+j)/2=mm at*
  cases hb:Op.bytesLess y x with
  | true=>
    rw [hb] at f1 hyp
    have:=hyp.1 rfl
    have F:=ai g1<|ai g2<|ai g3<|ai g4<|ai g5<|ai g6<|ai hy<|zcU.eq_1
    repeat (first | refine st ?_ | refine cC f1 ?_)
    refine⟨(mm+1,j),⟨?_, ?_, ?_⟩, ?_, ?_, ?_⟩
    ·simp only; omega
    ·exact h2
    ·exact h3
    ·(simp only [go_sem,F])
    ·(simp only [go_sem,F])
    ·simp only; omega
  | false=>
    rw [hb] at f1 hyp
    have: ¬mm<p:=fun h=>by cases hyp.2 h
    have F:=ai g1<|ai g2<|ai g3<|ai g4<|ai g5<|ai g6<|ai hy<|zcU.eq_1
    repeat (first | refine st ?_ | refine cC f1 ?_)
    refine⟨(i,mm),⟨?_, ?_, ?_⟩, ?_, ?_, ?_⟩
    ·exact h1
    ·simp only; omega
    ·simp only; omega
    ·(simp only [go_sem,F])
    ·(simp only [go_sem,F])
    ·simp only; omega
 ·obtain rfl:i=j:=by omega
  obtain rfl:i=p:=by omega
  have g1: ¬(i:Int)< (i:Int):=by omega
  by_cases hi:i<l.length
  ·have g2:=nlt hi
   obtain⟨y,hy⟩: ∃y,l[i]? =some y:=⟨l[i],List.getElem?_eq_getElem hi⟩
   have f1:=zmd env y
   cases hb:(y==x) with
   | true=>
     have hr:(l[i]? == some x)=true:=by rw [hy]; simpa using hb
     rw [hr]
     have F:=ai g1<|ai g2<|ai hy<|ai hb<|zcU.eq_1
     repeat (first | refine st ?_ | refine cC f0 ?_ | refine cC f1 ?_)
     exact aR
   | false=>
     have hr:(l[i]? == some x)=false:=by rw [hy]; simpa using hb
     rw [hr]
     have F:=ai g1<|ai g2<|ai hy<|ai hb<|zcU.eq_1
     repeat (first | refine st ?_ | refine cC f0 ?_ | refine cC f1 ?_)
     exact aR
  ·have g2: ¬(i:Int)< (l.length:Int):=by omega
   have hr:(l[i]? == some x)=false:=by rw [List.getElem?_eq_none (by omega)]; rfl
   rw [hr]
   have F:=ai g1<|ai g2<|zcU.eq_1
   repeat (first | refine st ?_ | refine cC f0 ?_)
   exact aR
end
section
theorem zfD (env:Env) (c:ChD) (h:Full c): ∀(n i:Nat),i<c.states.length->c.states.length<=i+n->Con Tryz.prog env 54 [.agg (chAV c),I i] (.own 3 1 ((bgL c i).map zaj))
 | 0,i,hi,hn=>by omega
 | n+1,i,hi,hn=>by
   have hlen:=h.few
   obtain⟨s,hs⟩: ∃s,c.states[i]? =some s:=⟨c.states[i],List.getElem?_eq_getElem hi⟩
   have hb:=ztf h hs
   have hbl:=zr6 h hi
   have g0:((i:Nat):Int)< (c.states.length:Int):=by omega
   by_cases e1:s.kind=1
   ·by_cases e2:0<=s.initial
    ·obtain⟨j,hj,e3⟩:=zlv h hs e1 e2
     have hg:=zbm h.toRight (za5 hj).1
     rw [if_pos ⟨e1,e2⟩,e3,Int.toNat_natCast] at hb
     have f0:=zfD env c h n j (by omega) (by omega)
     rw [hb] at hbl
     have hf:Fits (1+(bgL c j).length) 8:=zar (by simp at hbl; omega) (by omega)
     rw [hb]
     refine zaa Tryz.func54 rfl Tryz.call54 (by rw [Tryz.ntmps54]; simp) ?_
     rw [Tryz.ntmps54,Tryz.results54]
     have F:=ai chAV.eq_1<|ai stAV.eq_1<|ai hs<|ai e1<|ai e3<|ai g0<|ai zaj.eq_1<|hf
     repeat (first | refine st ?_ | refine cC f0 ?_)
     exact aR
    ·rw [if_neg fun e=>e2 e.2,if_neg (by omega)] at hb
     rw [hb]
     refine zaa Tryz.func54 rfl Tryz.call54 (by rw [Tryz.ntmps54]; simp) ?_
     rw [Tryz.ntmps54,Tryz.results54]
     have F:=ai chAV.eq_1<|ai stAV.eq_1<|ai hs<|ai e1<|ai e2<|ai g0<|zaj.eq_1
     repeat refine st ?_
     exact aR
   ·rw [if_neg fun e=>e1 e.1] at hb
    have e1':(s.kind==1)=false:=by simpa using e1
    by_cases e2:s.kind=2
    ·rw [if_pos e2] at hb
     have f1:=zdO env c i (by omega)
     generalize hK:kidsL c i true=K at*
     have hKm: ∀k∈K,i<k/\k<c.states.length:=fun k hk=>by
      rw [<-hK] at hk
      have:=zbm h.toRight (za5 hk).1
      omega
     have hKl:K.length<=32:=by
      have:=(zcD c i true).length_le_of_subset (l₂:=List.range c.states.length) fun m hm=>List.mem_range.2 (hKm m (hK ▸ hm)).2
      rw [hK] at this
      simp at this
      omega
     have hpre: ∀j,(i::(K.take j).flatMap (bgL c)).length<=32:=fun j=>by
      have e:(K.take j).flatMap (bgL c)++(K.drop j).flatMap (bgL c)=K.flatMap (bgL c):=by rw [<-List.flatMap_append,List.take_append_drop]
      have:=congrArg List.length e
      rw [hb] at hbl
      simp only [List.length_cons,List.length_append] at*
      omega
     refine zaa Tryz.func54 rfl Tryz.call54 (by rw [Tryz.ntmps54]; simp) ?_
     rw [Tryz.ntmps54,Tryz.results54]
     have F:=ai chAV.eq_1<|ai stAV.eq_1<|ai hs<|ai e1'<|ai e2<|ai g0<|zaj.eq_1
     repeat (first | refine st ?_ | refine cC f1 ?_)
     refine zac (D:=Nat) (fun j vs=>[(2, .loc 2 (vs 2) 0 0),(5, .row 10 (vs 10)),(37, .row 37 (vs 37)),(38,I K.length),(39,I j)]) (fun j _=>[(2,⟨5,[chAV c],26,false⟩),(10,⟨1,(i::(K.take j).flatMap (bgL c)).map zaj,3,true⟩),(37,⟨1,K.map zaj,3,true⟩)]) (fun j _ esc=>j<=K.length/\esc 10=false) (fun j=>K.length-j) 0 ?_ ?_ ?_ ?_
     ·exact⟨Nat.zero_le _,rfl⟩
     ·(simp only [go_sem,F])
     ·have F:=ai chAV.eq_1<|zaj.eq_1
      (simp only [go_sem,List.flatMap_nil,F])
     rintro j ws esc ⟨hj,e0⟩
     by_cases hlt:j<K.length
     ·obtain⟨k,hk⟩: ∃k,K[j]? =some k:=⟨K[j],List.getElem?_eq_getElem hlt⟩
      have hkm:=hKm k (List.mem_of_getElem? hk)
      have q1:=nlt hlt
      have q2:=zab hlt (by omega)
      have f0:=zfD env c h n k (by omega) (by omega)
      have htk:(K.take (j+1)).flatMap (bgL c)=(K.take j).flatMap (bgL c)++bgL c k:=by rw [List.take_add_one,hk,List.flatMap_append]; simp
      have hp:=hpre (j+1)
      rw [htk] at hp
      have hf:Fits (((K.take j).flatMap (bgL c)).length+1+(bgL c k).length) 8:=zar (by simp only [List.length_cons,List.length_append] at hp; omega) (by omega)
      have F:=ai chAV.eq_1<|ai zaj.eq_1<|ai hk<|ai q1<|ai q2<|ai hf<|e0
      repeat (first | refine st ?_ | refine cC f0 ?_)
      refine⟨j+1,⟨hlt,by simp only [go_sem,e0]⟩, ?_, ?_,by omega⟩
      ·(simp only [go_sem,F])
      ·have F:=ai chAV.eq_1<|ai zaj.eq_1<|htk
       (simp only [go_sem,List.map_append,F])
     ·obtain rfl:j=K.length:=by omega
      have q1: ¬(K.length:Int)< (K.length:Int):=by omega
      have hta:K.take K.length=K:=List.take_length
      rw [hb]
      have F:=ai zaj.eq_1<|ai q1<|ai hta<|e0
      repeat refine st ?_
      exact aR
    ·rw [if_neg e2] at hb
     have e2':(s.kind==2)=false:=by simpa using e2
     rw [hb]
     refine zaa Tryz.func54 rfl Tryz.call54 (by rw [Tryz.ntmps54]; simp) ?_
     rw [Tryz.ntmps54,Tryz.results54]
     have F:=ai chAV.eq_1<|ai stAV.eq_1<|ai hs<|ai e1'<|ai e2'<|ai g0<|zaj.eq_1
     repeat refine st ?_
     exact aR
theorem zpG (env:Env) (c:ChD) (hc:c.trans.length<=1000000) (x y:AV) (s:List UInt8):Con Tryz.prog env 52 [.ref 9 [[Sg c.name,I c.initial,varsAV c.vars,stsAV c.states,trsAV c.trans,zaw c, .seq 1 ((evL c).map zcU),x,y]] 0 0,Sg s] (I (evI c s)):=by
 have hl:=zst c
 have f0:=zlG env (evL c) s (posL (evL c) s) (zoL (zss c) s) (by omega)
 unfold evI
 by_cases h:(evL c)[posL (evL c) s]? =some s
 ·have hb:((evL c)[posL (evL c) s]? == some s)=true:=by simpa using h
  rw [hb] at f0
  rw [if_pos h]
  refine zaa Tryz.func52 rfl Tryz.call52 (by rw [Tryz.ntmps52]; simp) ?_
  rw [Tryz.ntmps52,Tryz.results52]
  repeat (first | refine st0 ?_ | refine cC0 f0 ?_)
  exact aR0
 ·have hb:((evL c)[posL (evL c) s]? == some s)=false:=by simpa using h
  rw [hb] at f0
  rw [if_neg h]
  refine zaa Tryz.func52 rfl Tryz.call52 (by rw [Tryz.ntmps52]; simp) ?_
  rw [Tryz.ntmps52,Tryz.results52]
  repeat (first | refine st0 ?_ | refine cC0 f0 ?_)
  exact aR0
end
section
def zch (c:ChD) (j:Nat) (vs:Nat->Nat):List (List AV):=(keysTo c j).mapIdx fun q p=>[.agg [I p.1,I p.2], .row (q+6000) (vs (q+6000))]
def keyRows (c:ChD) (j:Nat):List Row:=(keysTo c j).map fun p=>⟨1,(zeO c j p).map zaj,3,true⟩
def zeo (c:ChD):List (List AV):=(keysTo c c.trans.length).map fun p=>[.agg [I p.1,I p.2], .seq 1 ((zeO c c.trans.length p).map zaj)]
def begE (c:ChD) (j:Nat):List (List AV):=(List.range j).map fun i=>[.seq 1 ((sbL c i).map zaj)]
def zaF (c:ChD):List AV:=[Sg c.name,I c.initial,varsAV c.vars,stsAV c.states,trsAV c.trans,zaw c, .seq 1 ((evL c).map zcU), .fmap (zeo c), .seq 1 (begE c c.states.length)]
def zaU (c:ChD):AV:= .ref 9 [zaF c] 0 0
theorem zc5 (c:ChD) (j:Nat) (vs:Nat->Nat):(zch c j vs).length=(keysTo c j).length:=by simp [zch]
theorem zb8 (c:ChD) (j:Nat) (vs:Nat->Nat) (q:Nat):(zch c j vs)[q]? =((keysTo c j)[q]?).map fun p=>[.agg [I p.1,I p.2], .row (q+6000) (vs (q+6000))]:=by simp [zch]
theorem zbe (c:ChD) (j q:Nat):(keyRows c j)[q]? =((keysTo c j)[q]?).map fun p=>⟨1,(zeO c j p).map zaj,3,true⟩:=by simp [keyRows]
theorem zo4 (p:Int×Int) (f:Nat->AV): ∀(l:List (Int×Int)) (i:Nat),mfind Tryz.prog 108 (.agg [I p.1,I p.2]) (l.mapIdx fun q k=>[.agg [I k.1,I k.2],f q]) i=some (idxP p l i)
 | [],i=>rfl
 |(a,b)::l,i=>by
   have ih:=zo4 p (fun q=>f (q+1)) l (i+1)
   obtain⟨kn,ks⟩:=p
   rw [List.mapIdx_cons]
   by_cases h:kn=a/\ks=b
   ·obtain⟨rfl,rfl⟩:=h
    have e1:(kn==kn)=true:=by simp
    have e2:(ks==ks)=true:=by simp
    simp only [go_sem,eqFs,zbB,e1,e2,idxP]
   ·have e1:(kn==a&&(ks==b))=false:=by
     rw [Bool.eq_false_iff]
     intro e
     simp only [Bool.and_eq_true,beq_iff_eq] at e
     exact h e
    have e2: ¬((kn,ks):Int×Int)=(a,b):=fun e=>h (by simpa using e)
    simp only at ih
    simp only [go_sem,eqFs,zbB,e1,idxP,e2,ih]
theorem zo3 (c:ChD) (j:Nat) (vs:Nat->Nat) (a b:Int):mfind Tryz.prog 108 (.agg [I a,I b]) (zch c j vs) 0=some (idxP (a,b) (keysTo c j) 0):=zo4 (a,b) (fun q=> .row (q+6000) (vs (q+6000))) (keysTo c j) 0
/-! The state at the head of the loop -/
def boxA (c:ChD) (g:Nat->Nat):Row:=⟨9,[[Sg c.name,I c.initial,varsAV c.vars,stsAV c.states,trsAV c.trans,zaw c, .seq 1 ((evL c).map zcU), .mp 25 (g 25),nilS]],105,false⟩
def RA (c:ChD) (j:Nat) (g:Nat->Nat):List (Nat×Row):=(1,⟨5,[chAV c],26,false⟩)::(27,boxA c g)::(25,⟨0,zch c j g,102,false⟩)::rowsAt 6000 (keyRows c j)
theorem zhx (c:ChD) (j:Nat) (q:Nat):zaN (rowsAt 6000 (keyRows c j)) (q+6000)=(keyRows c j)[q]? :=by
 rw [zfY,if_pos (by omega),show q+6000-6000=q by omega]
theorem znu {c:ChD} {j q:Nat} {p:Int×Int} {g g':Nat->Nat} (hk:keysTo c (j+1)=keysTo c j) (hq:(keysTo c j)[q]? =some p) (h1: ∀k,k≠q->g' (k+6000)=g (k+6000)) {v:Nat} (h2:g' (q+6000)=v):(zch c j g).set q [.agg [I p.1,I p.2], .row (q+6000) v]=zch c (j+1) g':=by
 apply List.ext_getElem?
 intro k
 rw [List.getElem?_set,zb8,zb8,zc5,hk]
 by_cases e:q=k
 ·subst e
  rw [if_pos rfl,if_pos (List.getElem?_eq_some_iff.1 hq).1,hq, <-h2]
  rfl
 ·rw [if_neg e]
  cases (keysTo c j)[k]? with
  | none=>rfl
  | some p'=>simp only [Option.map_some,h1 k (Ne.symm e)]
theorem zns {c:ChD} {j q:Nat} {p:Int×Int} {g:Nat->Nat} (hq:(keysTo c j)[q]? =some p):(zch c j g).set q [.agg [I p.1,I p.2], .row (q+6000) (g (q+6000))]=zch c j g:=by
 apply List.ext_getElem?
 intro k
 rw [List.getElem?_set,zb8,zc5]
 by_cases e:q=k
 ·subst e
  rw [if_pos rfl,if_pos (List.getElem?_eq_some_iff.1 hq).1,hq]
  rfl
 ·rw [if_neg e]
theorem znt {c:ChD} {j:Nat} {g g':Nat->Nat} (hk:keysTo c (j+1)=keysTo c j++[zcb c j]) (h1: ∀k,k< (keysTo c j).length->g' (k+6000)=g (k+6000)) {v:Nat} (h2:g' ((keysTo c j).length+6000)=v):zch c j g++[[.agg [I (zcb c j).1,I (zcb c j).2], .row ((keysTo c j).length+6000) v]]=zch c (j+1) g':=by
 apply List.ext_getElem?
 intro k
 rw [zb8,hk]
 by_cases hlt:k< (keysTo c j).length
 ·rw [List.getElem?_append_left (by rw [zc5]; exact hlt),List.getElem?_append_left hlt,zb8,List.getElem?_eq_getElem hlt]
  simp only [Option.map_some,h1 k hlt]
 ·rw [List.getElem?_append_right (by rw [zc5]; omega),List.getElem?_append_right (by omega),zc5]
  by_cases e:k=(keysTo c j).length
  ·subst e
   simp [h2]
  ·rw [List.getElem?_eq_none (by simp; omega),List.getElem?_eq_none (by simp; omega)]
   rfl
theorem zjZ {c:ChD} {j q:Nat} {p:Int×Int} (hk:keysTo c (j+1)=keysTo c j) (hp:zcb c j=p) (hn:(keysTo c j).Nodup) (hq:(keysTo c j)[q]? =some p) (k:Nat):(keyRows c (j+1))[k]? =if k=q then some ⟨1,(zeO c j p).map zaj++[[I j]],3,true⟩ else(keyRows c j)[k]? :=by
 rw [zbe,zbe,hk]
 by_cases e:k=q
 ·subst e
  rw [if_pos rfl,hq]
  simp only [Option.map_some,zgo,hp,if_true,List.map_append,List.map_cons,List.map_nil,zaj]
 ·rw [if_neg e]
  cases hk2:(keysTo c j)[k]? with
  | none=>rfl
  | some p'=>
    have hne: ¬p=p':=fun e2=>by
     subst e2
     obtain⟨a1,b1⟩:=List.getElem?_eq_some_iff.1 hq
     obtain⟨a2,b2⟩:=List.getElem?_eq_some_iff.1 hk2
     have hpw:=List.pairwise_iff_getElem.1 (List.nodup_iff_pairwise_ne.1 hn)
     rcases Nat.lt_trichotomy k q with hlt | hlt | hlt
     ·exact hpw k q a2 a1 hlt (b2.trans b1.symm)
     ·exact e hlt
     ·exact hpw q k a1 a2 hlt (b1.trans b2.symm)
    simp only [Option.map_some,zgo,hp,if_neg hne]
theorem zjY {c:ChD} {j:Nat} (hk:keysTo c (j+1)=keysTo c j++[zcb c j]) (hno:zcb c j∉keysTo c j) (k:Nat):(keyRows c (j+1))[k]? =if k=(keysTo c j).length then some ⟨1,[[I j]],3,true⟩ else(keyRows c j)[k]? :=by
 rw [zbe,zbe,hk]
 by_cases e:k=(keysTo c j).length
 ·subst e
  simp only [if_true,List.getElem?_append_right (Nat.le_refl _),Nat.sub_self,List.getElem?_cons_zero,Option.map_some,zgo,zqD hno,List.nil_append,List.map_cons,List.map_nil,zaj]
 ·rw [if_neg e]
  by_cases hlt:k< (keysTo c j).length
  ·rw [List.getElem?_append_left hlt,List.getElem?_eq_getElem hlt]
   have hne: ¬zcb c j=(keysTo c j)[k]:=fun e2=>hno (e2 ▸ List.getElem_mem hlt)
   simp only [Option.map_some,zgo,if_neg hne]
  ·rw [List.getElem?_eq_none (by simp; omega),List.getElem?_eq_none (by omega)]
   rfl
def FA (c:ChD) (j:Nat) (g:Nat->Nat):List (Nat×AV):=[(1, .loc 1 (g 1) 0 0),(2, .lit (.pointer none)),(3, .lit .nilIface),(4,zaw c),(6, .loc 27 (g 27) 0 0),(32,trsAV c.trans),(33,I c.trans.length),(34,I j)]
def RN (c:ChD) (j:Nat) (g:Nat->Nat):List (Nat×Row):=(1,⟨5,[chAV c],26,false⟩)::(27,boxA c g)::(25,⟨0,zch c j g++[[.agg [I (zcb c j).1,I (zcb c j).2], .row 55 (g 55)]],102,false⟩)::(55,⟨1,[[I j]],3,true⟩)::rowsAt 6000 (keyRows c j)
theorem zo6 (c:ChD) (j:Nat) (vs:Nat->Nat) {g gm:Nat->Nat->Option AV} (h: ∀q v,g (q+6000) v=none):(zch c j vs).map (·.map (AV.see g gm))=zch c j vs:=by
 apply List.ext_getElem?
 intro q
 rw [List.getElem?_map,zb8]
 cases (keysTo c j)[q]? with
 | none=>rfl
 | some p=>simp only [Option.map_some,List.map_cons,List.map_nil,AV.see,AV.see.seeL,h,Option.getD_none]
theorem zmK (c:ChD) (vs:Nat->Nat) {g gm:Nat->Nat->Option AV} (h: ∀v,gm 25 v=none):(boxA c vs).see g gm=boxA c vs:=by
 simp only [Row.see,boxA,List.map_cons,List.map_nil,AV.see,AV.see.seeL,h,Option.getD_none,zaw,Bool.false_eq_true,if_false]
theorem zp3 (c:ChD) {g gm:Nat->Nat->Option AV} :(chAV c).map (AV.see g gm)=chAV c:=rfl
theorem zeQ {s:St} {r r2:Nat} {row:Row} {k:Nat} :(zc2 s r r2 row).rows k=if k=r2 then some row else if k=r then none else(s.rows k).map (Row.see (ziE r (s.vs r) r2 (s.vs r2+1)) fun _ _=>none):=rfl
theorem zox (v n v2 q w:Nat):ziE 55 v n v2 (q+6000) w=none:=by unfold ziE; rw [if_neg (by omega)]
theorem zsk {c:ChD} {j:Nat} (hk:keysTo c (j+1)=keysTo c j++[zcb c j]) (hno:zcb c j∉keysTo c j) (F:Nat) {g:Nat->Nat} {e:Nat->Bool} (he:e 27=false): ∃g' e',e' 27=false/\Turned (head (FA c F g) (RN c j g) g e) (head (FA c F g') (RA c (j+1) g') g' e'):=by
 generalize hn:(keysTo c j).length=n at*
 have hr0:(keyRows c j)[n]? =none:=by rw [zbe,List.getElem?_eq_none (by omega)]; rfl
 have hrow:(head (FA c F g) (RN c j g) g e).rows 55=some ⟨1,[[I j]],3,true⟩:=by simp [head,RN,zaN]
 have hfree:(head (FA c F g) (RN c j g) g e).rows (n+6000)=none:=by
  have:=zhx c j n
  rw [hr0] at this
  simp only [head,RN,zaN]
  rw [if_neg (by omega),if_neg (by omega),if_neg (by omega),if_neg (by omega),this]
 have t1:=Turned.ren (s:=head (FA c F g) (RN c j g) g e) 55 (n+6000) ⟨1,[[I j]],3,true⟩ (by omega) hrow hfree (Nat.succ_ne_zero 0) rfl
 have hg: ∀t,t≠n+6000->upd g (n+6000) (g (n+6000)+1) t=g t:=fun t ht=>upd_ne _ _ _ ht
 refine⟨upd g (n+6000) (g (n+6000)+1),upd e (n+6000) (e 55),by rw [upd_ne _ _ _ (by omega)]; exact he,t1.trans (Turned.head ?_ ?_)⟩
 ·simp only [zd2,FA,zc2,head,zhb,AV.see,zaw,hg 1 (by omega),hg 27 (by omega),if_true,Nat.reduceEqDiff,if_false,and_self,reduceCtorEq]
 ·refine⟨?_, ?_, ?_,holdR_rowsAt fun q r hq=> ?_⟩
  ·show (zc2 _ _ _ _).rows 1=some _
   rw [zeQ,if_neg (by omega),if_neg (by omega)]
   simp only [head,RN,zaN,if_true,Option.map_some,Row.see,List.map_cons,List.map_nil,zp3,Bool.false_eq_true,if_false]
  ·show (zc2 _ _ _ _).rows 27=some _
   rw [zeQ,if_neg (by omega),if_neg (by omega)]
   simp only [head,RN,zaN,if_true,Option.map_some,Nat.reduceEqDiff,if_false]
   rw [zmK _ _ fun _=>rfl]
   simp only [boxA,hg 25 (by omega)]
  ·show (zc2 _ _ _ _).rows 25=some _
   rw [zeQ,if_neg (by omega),if_neg (by omega)]
   simp only [head,RN,zaN,if_true,Option.map_some,Nat.reduceEqDiff,if_false,Row.see,Bool.false_eq_true,List.map_append,List.map_cons,List.map_nil]
   rw [zo6 _ _ _ fun q v=>zox ..]
   have:=znt (c:=c) (j:=j) (g:=g) (g':=upd g (n+6000) (g (n+6000)+1)) hk (fun k hk=>hg _ (by omega)) (v:=g (n+6000)+1) (by rw [hn,upd_same])
   rw [hn] at this
   rw [<-this]
   simp [AV.see,AV.see.seeL,ziE]
  ·rw [zjY hk hno,hn] at hq
   show (zc2 _ _ _ _).rows (q+6000)=some _
   rw [zeQ]
   by_cases e0:q=n
   ·subst e0
    rw [if_pos rfl] at hq |-
    exact hq
   ·rw [if_neg e0] at hq
    rw [if_neg (by omega),if_neg (by omega)]
    simp only [head,RN,zaN]
    rw [if_neg (by omega),if_neg (by omega),if_neg (by omega),if_neg (by omega),zhx,hq]
    have hpu:r.pure=true:=by
     rw [zbe] at hq
     obtain⟨p,_,rfl⟩:=Option.map_eq_some_iff.1 hq
     rfl
    simp only [Option.map_some,Row.see,hpu,if_true]
/-! The map, frozen -/
theorem zfl {g:Nat->Nat} {r v:Nat} : ∀ {l:List Row} {b:Nat},zcV (seesR g (rowsAt b l)) r v=if b<=r/\v=g r then(l[r-b]?).map fun row=> .seq row.sz row.es else none
 | [],b=>by simp [rowsAt,seesR,zcV]
 | x::l,b=>by
   have ih:=zfl (g:=g) (r:=r) (v:=v) (l:=l) (b:=b+1)
   simp only [seesR] at ih
   simp only [rowsAt,seesR,List.map_cons,zcV,ih]
   by_cases h:r=b
   ·subst h
    by_cases hv:v=g r
    ·subst hv; simp
    ·simp [hv]
   ·rw [if_neg fun e=>h e.1]
    by_cases h2:b+1<=r
    ·by_cases hv:v=g r
     ·rw [if_pos ⟨h2,hv⟩,if_pos ⟨by omega,hv⟩,show r-b=(r-(b+1))+1 by omega,List.getElem?_cons_succ]
     ·rw [if_neg fun e=>hv e.2,if_neg fun e=>hv e.2]
    ·rw [if_neg fun e=>h2 e.1,if_neg fun e=>by omega]
def boxF (c:ChD):Row:=⟨9,[[Sg c.name,I c.initial,varsAV c.vars,stsAV c.states,trsAV c.trans,zaw c, .seq 1 ((evL c).map zcU), .fmap (zeo c),nilS]],105,false⟩
theorem znz {c:ChD} (F:Nat) {g:Nat->Nat} {e:Nat->Bool} (he:e 27=false): ∃e',e' 27=false/\Turned (head (FA c F g) (RA c c.trans.length g) g e) (head (FA c F g) [(1,⟨5,[chAV c],26,false⟩),(27,boxF c)] g e'):=by
 generalize hn:c.trans.length=n at*
 have hL:zio (head (FA c F g) (RA c n g) g e) (seesR g (rowsAt 6000 (keyRows c n))):=by
  intro p hp
  obtain⟨x,hx,rfl⟩:=List.mem_map.1 hp
  obtain⟨q,h1,h2⟩:=zfn hx
  refine⟨rfl,x.2, ?_, ?_, ?_,rfl⟩
  ·simp only [head,RA,zaN,h2]
   rw [if_neg (by omega),if_neg (by omega),if_neg (by omega),zhx]
   exact h1
  ·rw [zbe] at h1
   obtain⟨p,_,e0⟩:=Option.map_eq_some_iff.1 h1
   rw [<-e0]
   exact Nat.succ_ne_zero 0
  ·rw [zbe] at h1
   obtain⟨p,_,e0⟩:=Option.map_eq_some_iff.1 h1
   rw [<-e0]
 have t1:=Turned.sees _ hL
 have hes:(zch c n g).map (·.map (AV.see (zcV (seesR g (rowsAt 6000 (keyRows c n)))) fun _ _=>none))=zeo c:=by
  apply List.ext_getElem?
  intro q
  unfold zeo
  rw [hn,List.getElem?_map,zb8,List.getElem?_map]
  cases hq:(keysTo c n)[q]? with
  | none=>rfl
  | some p=>
    have hs:zcV (seesR g (rowsAt 6000 (keyRows c n))) (q+6000) (g (q+6000))=some (.seq 1 ((zeO c n p).map zaj)):=by
     rw [zfl,if_pos ⟨by omega,rfl⟩,show q+6000-6000=q by omega,zbe,hq]
     rfl
    simp only [Option.map_some,List.map_cons,List.map_nil,AV.see,AV.see.seeL,hs,Option.getD_some]
 have hlow: ∀r v,r<6000->zcV (seesR g (rowsAt 6000 (keyRows c n))) r v=none:=fun r v h=>by
  rw [zfl,if_neg fun e=>by omega]
 generalize hG:zcV (seesR g (rowsAt 6000 (keyRows c n)))=G at*
 have t2:Turned (seenSt (head (FA c F g) (RA c n g) g e) (seesR g (rowsAt 6000 (keyRows c n)))) (head (FA c F g) [(1,⟨5,[chAV c],26,false⟩),(27,boxA c g),(25,⟨0,zeo c,102,false⟩)] g _):=Turned.head (s:=seenSt (head (FA c F g) (RA c n g) g e) (seesR g (rowsAt 6000 (keyRows c n)))) (by
  simp only [zd2,FA,seenSt,head,zhb,AV.see,zaw,if_true,Nat.reduceEqDiff,if_false,and_self,reduceCtorEq]) (by
  refine⟨?_, ?_, ?_,trivial⟩
  ·simp only [seenSt,hG,head,RA,zaN,if_true,Option.map_some,Row.see,List.map_cons,List.map_nil,zp3,Bool.false_eq_true,if_false]
  ·simp only [seenSt,hG,head,RA,zaN,if_true,Option.map_some,Nat.reduceEqDiff,if_false]
   rw [zmK _ _ fun _=>rfl]
  ·simp only [seenSt,hG,head,RA,zaN,if_true,Option.map_some,Nat.reduceEqDiff,if_false,Row.see,Bool.false_eq_true,hes])
 have hesc:(seenSt (head (FA c F g) (RA c n g) g e) (seesR g (rowsAt 6000 (keyRows c n)))).esc 27=false:=by
  show (e 27||_)=false
  rw [he,Bool.false_or,List.any_eq_false]
  intro p hp
  obtain⟨x,hx,rfl⟩:=List.mem_map.1 hp
  obtain⟨q,_,h2⟩:=zfn hx
  simp
  omega
 have t3:=t1.trans t2
 generalize (seenSt (head (FA c F g) (RA c n g) g e) (seesR g (rowsAt 6000 (keyRows c n)))).esc=e2 at t3 hesc
 have t4:=t3.trans (Turned.mapSee 25 ⟨0,zeo c,102,false⟩ (by simp [head,zaN]) rfl (by
  rw [List.all_eq_true]
  intro x hx
  unfold zeo at hx
  obtain⟨p,_,rfl⟩:=List.mem_map.1 hx
  rfl))
 refine⟨e2,hesc,t4.trans (Turned.head ?_ ?_)⟩
 ·simp only [zd2,FA,znq,head,zhb,AV.see,zaw,if_true,Nat.reduceEqDiff,if_false,and_self,reduceCtorEq]
 ·refine⟨?_, ?_,trivial⟩
  ·simp only [znq,head,zaN,if_true,Option.map_some,Nat.reduceEqDiff,if_false,Row.see,List.map_cons,List.map_nil,zp3,Bool.false_eq_true]
  ·simp only [znq,head,zaN,if_true,Option.map_some,Nat.reduceEqDiff,if_false,Row.see,boxA,boxF,List.map_cons,List.map_nil,AV.see,zaw,Bool.false_eq_true,and_self,Option.getD_some]
end
section
theorem zdz (c:ChD):(zaw c).plain=true:=rfl
theorem zsH (l:List Nat):l.map zaj=(zL l).map intAV:=by simp [zaj,zL]
theorem znr (c:ChD) (vs:Nat->Nat):zch c 0 vs=[]:=rfl
theorem zjX (c:ChD):keyRows c 0=[]:=rfl
theorem zlm {c:ChD} {j:Nat} {g g':Nat->Nat} (h: ∀k,g (k+6000)=g' (k+6000)):zch c j g=zch c j g':=by
 apply List.ext_getElem?
 intro q
 rw [zb8,zb8,h]
theorem zot {c:ChD} {j:Nat} {s:St} {Q:St->Prop} (hk:keysTo c (j+1)=keysTo c j++[zcb c j]) (hno:zcb c j∉keysTo c j) (hF:zd2 s (FA c (j+1) s.vs)) (hR:zdo s (RN c j s.vs)) (he:s.esc 27=false)
 (hQ: ∀g e,e 27=false->Q (head (FA c (j+1) g) (RA c (j+1) g) g e)): ∃s2,Turned s s2/\Q s2:=by
 obtain⟨g',e',h1,h2⟩:=zsk hk hno (j+1) (g:=s.vs) (e:=s.esc) he
 exact⟨_,(Turned.head hF hR).trans h2,hQ g' e' h1⟩
theorem zsG (c:ChD) (F:Nat) (g:Nat->Nat) (R:List (Nat×Row)) (e:Nat->Bool):zd2 (head (FA c F g) R g e) (FA c F g):=by
 simp only [zd2,FA,head,zhb,if_true,Nat.reduceEqDiff,if_false,and_self,reduceCtorEq]
theorem zsE (c:ChD) (j:Nat) (g:Nat->Nat) (F:List (Nat×AV)) (e:Nat->Bool):zdo (head F (RA c j g) g e) (RA c j g):=by
 refine⟨?_, ?_, ?_,holdR_rowsAt fun q r hq=> ?_⟩
 ·simp only [head,RA,zaN,if_true]
 ·simp only [head,RA,zaN,if_true,Nat.reduceEqDiff,if_false]
 ·simp only [head,RA,zaN,if_true,Nat.reduceEqDiff,if_false]
 ·simp only [head,RA,zaN]
  rw [if_neg (by omega),if_neg (by omega),if_neg (by omega),zhx,hq]
theorem zod (env:Env) (a1 a8:Addr) (he:ChEnv env a1 a8) (hT: ∀W,env.inv W->TabAt W) (c:ChD) (hch:chk c=(0, -1)) (hcf:zhj c):Con Tryz.prog env 14 [.agg (chAV c)] (.tuple [zaU c, .lit .nilIface]):=by
 have h0:(chk c).1=0:=by rw [hch]
 have h:=full_of h0
 have hs:=zl1 h0
 have hlen:=h.few
 have htr:=h.ftr
 have f0:=zqx env a1 a8 he hT c h.toRight (zkz hch) hcf
 have f1:=zjI env c hs
 have f2:=znB env c (by omega)
 refine zaa Tryz.func14 rfl Tryz.call14 (by rw [Tryz.ntmps14]; simp) ?_
 rw [Tryz.ntmps14,Tryz.results14]
 have F:=chAV.eq_1
 repeat (first | refine st ?_ | refine cC f0 ?_ | refine cC f1 ?_ | refine cC f2 ?_)
 refine zfg [(24,⟨1,(evL c).map zcU,9,true⟩)] ?_ ?_
 ·(simp only [go_sem,F])
 refine zac (D:=Nat) (fun j vs=>FA c j vs) (fun j vs=>RA c j vs) (fun j _ esc=>j<=c.trans.length/\esc 27=false) (fun j=>c.trans.length-j) 0 ?_ ?_ ?_ ?_
 ·exact⟨Nat.zero_le _,rfl⟩
 ·have F:=ai FA.eq_1<|zaw.eq_1
  (simp only [go_sem,seenSt,seesR,zcV,Row.see,AV.see,AV.see.seeL,Option.getD_none,F])
 ·have F:=ai RA.eq_1<|ai boxA.eq_1<|ai zaw.eq_1<|ai @znr<|ai @zjX<|chAV.eq_1
  (simp only [go_sem,seenSt,seesR,zcV,Row.see,AV.see,AV.see.seeL,Option.getD_none,rowsAt,F])
 try clear f0 f1 f2
 rintro j ws esc ⟨hj,e0⟩
 by_cases hlt:j<c.trans.length
 ·obtain⟨t,ht⟩: ∃t,c.trans[j]? =some t:=⟨c.trans[j],List.getElem?_eq_getElem hlt⟩
  have g1:=nlt hlt
  have g2:=zab hlt (by omega)
  have fE:=(zpG env c (by omega) .any nilS t.event).lend rfl
  have hka:zcb c j=(t.src,evI c t.event):=by unfold zcb; rw [ht]
  have hm:=zo3 c j ws t.src (evI c t.event)
  have hml:=zc5 c j ws
  generalize evI c t.event=e at*
  refine zja ?_
  cases hq:idxP (t.src,e) (keysTo c j) 0 with
  | none=>
    rw [hq] at hm
    have hno:zcb c j∉keysTo c j:=by rw [hka]; exact zj4 hq
    have hk:keysTo c (j+1)=keysTo c j++[zcb c j]:=by
     show (if zcb c j∈keysTo c j then _ else _)=_
     rw [if_neg hno]
    have hs2: ∀x y:List AV,(zch c j ws++[x]).set (keysTo c j).length y=zch c j ws++[y]:=fun x y=>by rw [<-hml]; simp
    have ha2: ∀x:List AV,(zch c j ws++[x])[(keysTo c j).length]? =some x:=fun x=>by rw [<-hml]; simp
    have F:=ai FA.eq_1<|ai RA.eq_1<|ai boxA.eq_1<|ai chAV.eq_1<|ai trAV.eq_1<|ai g1<|ai g2<|ai ht<|ai @zdz<|ai hm<|ai hml<|ai hs2<|ai ha2<|e0
    repeat refine st ?_
    refine oL rfl (fE) (by simp only [go_sem,F]; exact iR) (by simp only [go_sem,F]; exact⟨rfl,rfl⟩) ?_
    repeat refine st ?_
    refine zot hk hno ?_ ⟨?_, ?_, ?_, ?_,holdR_rowsAt fun q r hr=> ?_⟩ ?_ fun g e he=>⟨j+1,⟨hlt,he⟩, ?_, ?_,by omega⟩
    ·have F:=ai FA.eq_1<|ai RA.eq_1<|ai chAV.eq_1<|g2
     (simp only [go_sem,F])
    ·(simp only [go_sem,FA,RA,chAV,g2])
    ·have F:=ai RA.eq_1<|ai RN.eq_1<|ai boxA.eq_1<|chAV.eq_1
     (simp only [go_sem,F])
    ·have F:=ai RA.eq_1<|ai RN.eq_1<|ai boxA.eq_1<|ai chAV.eq_1<|hka
     (simp only [go_sem,F])
     exact congrArg (fun es=>(⟨0,es++_,_,false⟩:Row)) (zlm fun k=>by simp only [go_sem])
    ·have F:=ai RA.eq_1<|RN.eq_1
     (simp only [go_sem,F])
    ·have hh:=zhx c j q
     rw [hr] at hh
     have F:=ai RA.eq_1<|hh
     (simp only [go_sem,F])
    ·have F:=ai RA.eq_1<|e0
     (simp only [go_sem,F])
    ·exact zsG c (j+1) g _ e
    ·exact zsE c (j+1) g _ e
  | some q=>
    rw [hq] at hm
    have hqk:=(zj3 hq).2
    rw [Nat.sub_zero] at hqk
    have hin:zcb c j∈keysTo c j:=by rw [hka]; exact List.mem_of_getElem? hqk
    have hk:keysTo c (j+1)=keysTo c j:=by
     show (if zcb c j∈keysTo c j then _ else _)=_
     rw [if_pos hin]
    have hat:(zch c j ws)[q]? =some [.agg [I t.src,I e], .row (q+6000) (ws (q+6000))]:=by rw [zb8,hqk]; rfl
    have hsame:(zch c j ws).set q [.agg [I t.src,I e], .row (q+6000) (ws (q+6000))]=zch c j ws:=zns (p:=(t.src,e)) hqk
    have hkr:=zhx c j q
    rw [zbe,hqk] at hkr
    simp only [Option.map_some] at hkr
    have hrl:=zse c j (t.src,e)
    have hf:Fits ((zeO c j (t.src,e)).length+1) 8:=zar (by omega) (by omega)
    have F:=ai FA.eq_1<|ai RA.eq_1<|ai boxA.eq_1<|ai chAV.eq_1<|ai trAV.eq_1<|ai g1<|ai g2<|ai ht<|ai @zdz<|ai hm<|ai hat<|ai hsame<|ai hkr<|ai hf<|e0
    repeat refine st ?_
    refine oL rfl (fE) (by simp only [go_sem,F]; exact iR) (by simp only [go_sem,F]; exact⟨rfl,rfl⟩) ?_
    repeat refine st ?_
    refine⟨_,Turned.refl _,j+1,⟨hlt, ?_⟩, ?_,⟨?_, ?_, ?_,holdR_rowsAt fun k r hr=> ?_⟩,by omega⟩
    ·(simp only [go_sem,F])
    ·have F:=ai FA.eq_1<|ai RA.eq_1<|ai chAV.eq_1<|g2
     (simp only [go_sem,F])
    ·have F:=ai RA.eq_1<|ai boxA.eq_1<|chAV.eq_1
     (simp only [go_sem,F])
    ·have F:=ai RA.eq_1<|ai boxA.eq_1<|chAV.eq_1
     (simp only [go_sem,F])
    ·have F:=ai RA.eq_1<|ai boxA.eq_1<|ai chAV.eq_1<|hsame
     (simp only [go_sem,F])
     exact congrArg (fun es=>(⟨0,es,_,false⟩:Row)) (znu (p:=(t.src,e)) hk hqk (fun k hne=>by rw [upd_ne _ _ _ (by omega),upd_ne _ _ _ (by omega),upd_ne _ _ _ (by omega),upd_ne _ _ _ (by omega)]) (upd_same ..))
    ·rw [zjZ hk hka (zfv c j) hqk k] at hr
     by_cases ek:k=q
     ·subst ek
      rw [if_pos rfl] at hr
      cases hr
      have F:=ai RA.eq_1<|ai boxA.eq_1<|chAV.eq_1
      (simp only [go_sem,F])
     ·rw [if_neg ek] at hr
      have hh:=zhx c j k
      rw [hr] at hh
      have hne: ¬(k+6000=q+6000):=by omega
      have F:=ai RA.eq_1<|ai boxA.eq_1<|ai chAV.eq_1<|ai hh<|ai hne<|ek
      (simp only [go_sem,F])
 obtain rfl:j=c.trans.length:=by omega
 have g1: ¬(c.trans.length:Int)< (c.trans.length:Int):=by omega
 obtain⟨e',h27,htu⟩:=znz (c:=c) c.trans.length (g:=ws) e0
 refine zrB htu ?_
 have F:=ai FA.eq_1<|ai boxF.eq_1<|ai chAV.eq_1<|ai g1<|h27
 repeat refine st ?_
 refine zbH 27 9100 0 8 ⟨9,[[Sg c.name,I c.initial,varsAV c.vars,stsAV c.states,trsAV c.trans,zaw c, .seq 1 ((evL c).map zcU), .fmap (zeo c),nilS]],105,false⟩ [Sg c.name,I c.initial,varsAV c.vars,stsAV c.states,trsAV c.trans,zaw c, .seq 1 ((evL c).map zcU), .fmap (zeo c),nilS] 27 1 (by decide) (by decide) (Nat.succ_ne_zero 8) rfl rfl rfl (by simp only [go_sem,F]; exact iR) (by simp only [go_sem,F]; exact iR) ?_
 refine zac (D:=Nat) (fun i vs=>[(2, .lit (.pointer none)),(3, .lit .nilIface),(4,zaw c),(6, .loc 27 (vs 27) 0 0),(62,stsAV c.states),(63,I c.states.length),(64,I i)])
  (fun i vs=>[(27,⟨9,[[Sg c.name,I c.initial,varsAV c.vars,stsAV c.states,trsAV c.trans,zaw c, .seq 1 ((evL c).map zcU), .fmap (zeo c), .row 9100 (vs 9100)]],105,false⟩),(9100,⟨1,begE c i,27,true⟩)])
  (fun i _ esc=>i<=c.states.length/\esc 27=false/\esc 9100=false) (fun i=>c.states.length-i) 0 ?_ ?_ ?_ ?_
 ·refine⟨Nat.zero_le _, ?_, ?_⟩<;>simp only [go_sem,h27]
 ·(simp only [go_sem,F])
 ·(simp only [go_sem,F])
  try rfl
 try clear g1 e0 h27 htu hj hlt
 rintro i ws esc ⟨hi,e0,e1⟩
 by_cases hlt:i<c.states.length
 ·have g1:=nlt hlt
  have g2:=zab hlt (by omega)
  have f3:=zfD env c h 40 i hlt (by omega)
  have hbl:=zr6 h hlt
  have f4:Con Tryz.prog env 53 [zaw c, .seq 1 ((bgL c i).map zaj)] (.own 3 1 ((sbL c i).map zaj)):=by
   rw [zsH]
   exact zoa env c h.toRight (zL (bgL c i)) (by simp [zL]; omega)
  have hbe:(begE c i).length=i:=by simp [begE]
  have hbs:begE c (i+1)=begE c i++[[.seq 1 ((sbL c i).map zaj)]]:=by unfold begE; rw [List.range_succ,List.map_append]; rfl
  have hf:Fits (i+1) 24:=zar (by omega) (by omega)
  have F:=ai g1<|ai g2<|ai hbe<|ai hf<|ai e0<|ai e1<|zaw.eq_1
  repeat (first | refine st ?_ | refine cC f3 ?_ | refine cC f4 ?_)
  refine⟨i+1,⟨hlt, ?_, ?_⟩, ?_, ?_,by omega⟩
  ·simp only [go_sem,e0]
  ·simp only [go_sem,e1]
  ·(simp only [go_sem,F])
  ·have F:=ai hbs<|zaw.eq_1
   (simp only [go_sem,F])
 obtain rfl:i=c.states.length:=by omega
 have g1: ¬(c.states.length:Int)< (c.states.length:Int):=by omega
 have F:=ai g1<|ai e0<|e1
 repeat refine st ?_
 refine zfg [(9100,⟨1,begE c c.states.length,27,true⟩)] ?_ ?_
 ·(simp only [go_sem,F])
 refine zgC [(2, .loc 27 (ws 27) 0 0),(3, .lit .nilIface)] [(27,⟨9,[zaF c],105,false⟩)] ?_ ?_ ?_
 ·(simp only [go_sem,seenSt,seesR,zcV,Row.see,AV.see,AV.see.seeL,Option.getD_none])
 ·have F:=ai zaF.eq_1<|zaw.eq_1
  (simp only [go_sem,seenSt,seesR,zcV,Row.see,AV.see,AV.see.seeL,Option.getD_none,F])
 have F:=ai zaF.eq_1<|@zdz
 (refine zah ?_; show (zaG _ _ _).run _=some _; simp only [go_sem,seenSt,seesR,F])
 rfl
end
section
theorem zjD (env:Env) (c:ChD) (l:List OpD):Con Tryz.prog env 191 [.agg (chAV c),opsAV l] (B (za0 l c.vars.length c.states.length)):=by
 have hx:=zhD env l c.vars.length c.states.length
 unfold za0
 refine zaa Tryz.func191 rfl Tryz.call191 (by rw [Tryz.ntmps191]; simp) ?_
 rw [Tryz.ntmps191,Tryz.results191]
 have F:=chAV.eq_1
 repeat (first | refine st ?_ | refine cC hx ?_)
 exact aR
theorem zjL {m:List UInt8} (h:zaC m=true):(m == [])=false:=by
 cases m with
 | nil=>cases h
 | cons a l=>rfl
theorem zqI (env:Env) (c:ChD) (a:ActD):Con Tryz.prog env 245 [.agg (chAV c), .agg (zaO a)] (B (actB c.vars.length c.states.length a)):=by
 obtain⟨k,n,m,co⟩:=a
 have hcode:=zjD env c co
 have hname:=zaX env m
 have hco:((co.length:Int)==0)=(co == []):=by
  rw [Bool.eq_iff_iff]
  simp
 refine zaa Tryz.func245 rfl Tryz.call245 (by rw [Tryz.ntmps245]; simp) ?_
 rw [Tryz.ntmps245,Tryz.results245]
 by_cases hk1:k=1
 ·subst hk1
  have hr:actB c.vars.length c.states.length ⟨1,n,m,co⟩=(decide (0<=n/\n<c.vars.length)&&(m == [])&&za0 co c.vars.length c.states.length):=rfl
  rw [hr]
  cases e1:zaC m
  case true=>
   have e2:=zjL e1
   rw [e2,show ((decide (0<=n/\n<c.vars.length)&&false&&za0 co c.vars.length c.states.length))=false by simp]
   have F:=ai chAV.eq_1<|ai zaO.eq_1<|ai e1<|ai e2<|ai bneA<|ai @Bool.true_beq<|@Bool.false_beq
   repeat (first | refine st ?_ | refine cC hcode ?_ | refine cC hname ?_)
   exact aR
  cases e2:(m == [])
  ·rw [show ((decide (0<=n/\n<c.vars.length)&&false&&za0 co c.vars.length c.states.length))=false by simp]
   have F:=ai chAV.eq_1<|ai zaO.eq_1<|ai e1<|ai e2<|ai bneA<|ai @Bool.true_beq<|@Bool.false_beq
   repeat (first | refine st ?_ | refine cC hcode ?_ | refine cC hname ?_)
   exact aR
  by_cases h1:0<=n
  ·by_cases h2:n< (c.vars.length:Int)
   ·rw [show (decide (0<=n/\n<c.vars.length)&&true&&za0 co c.vars.length c.states.length)=za0 co c.vars.length c.states.length by simp [h1,h2]]
    have F:=ai chAV.eq_1<|ai zaO.eq_1<|ai e1<|ai e2<|ai h1<|ai h2<|ai bneA<|ai @Bool.true_beq<|@Bool.false_beq
    repeat (first | refine st ?_ | refine cC hcode ?_ | refine cC hname ?_)
    exact aR
   ·rw [show (decide (0<=n/\n<c.vars.length)&&true&&za0 co c.vars.length c.states.length)=false by simp [h2]]
    have F:=ai chAV.eq_1<|ai zaO.eq_1<|ai e1<|ai e2<|ai h1<|ai h2<|ai bneA<|ai @Bool.true_beq<|@Bool.false_beq
    repeat (first | refine st ?_ | refine cC hcode ?_ | refine cC hname ?_)
    exact aR
  ·rw [show (decide (0<=n/\n<c.vars.length)&&true&&za0 co c.vars.length c.states.length)=false by simp [h1]]
   have F:=ai chAV.eq_1<|ai zaO.eq_1<|ai e1<|ai e2<|ai h1<|ai bneA<|ai @Bool.true_beq<|@Bool.false_beq
   repeat (first | refine st ?_ | refine cC hcode ?_ | refine cC hname ?_)
   exact aR
 by_cases hk3:k=3
 ·subst hk3
  have hr:actB c.vars.length c.states.length ⟨3,n,m,co⟩=((n==0)&&(m == [])&&za0 co c.vars.length c.states.length):=rfl
  rw [hr]
  cases e1:zaC m
  case true=>
   have e2:=zjL e1
   rw [e2,show (((n==0)&&false&&za0 co c.vars.length c.states.length))=false by simp]
   have F:=ai chAV.eq_1<|ai zaO.eq_1<|ai e1<|ai e2<|ai bneA<|ai @Bool.true_beq<|@Bool.false_beq
   repeat (first | refine st ?_ | refine cC hcode ?_ | refine cC hname ?_)
   exact aR
  cases e2:(m == [])
  ·rw [show (((n==0)&&false&&za0 co c.vars.length c.states.length))=false by simp]
   have F:=ai chAV.eq_1<|ai zaO.eq_1<|ai e1<|ai e2<|ai bneA<|ai @Bool.true_beq<|@Bool.false_beq
   repeat (first | refine st ?_ | refine cC hcode ?_ | refine cC hname ?_)
   exact aR
  cases e3:(n==0)
  ·rw [show (false&&true&&za0 co c.vars.length c.states.length)=false from rfl]
   have F:=ai chAV.eq_1<|ai zaO.eq_1<|ai e1<|ai e2<|ai e3<|ai bneA<|ai @Bool.true_beq<|@Bool.false_beq
   repeat (first | refine st ?_ | refine cC hcode ?_ | refine cC hname ?_)
   exact aR
  ·rw [show (true&&true&&za0 co c.vars.length c.states.length)=za0 co c.vars.length c.states.length by simp]
   have F:=ai chAV.eq_1<|ai zaO.eq_1<|ai e1<|ai e2<|ai e3<|ai bneA<|ai @Bool.true_beq<|@Bool.false_beq
   repeat (first | refine st ?_ | refine cC hcode ?_ | refine cC hname ?_)
   exact aR
 by_cases hk2:k=2
 ·subst hk2
  have hr:actB c.vars.length c.states.length ⟨2,n,m,co⟩=((n==0)&&zaC m&&za0 co c.vars.length c.states.length):=rfl
  rw [hr]
  cases e1:zaC m
  ·rw [Bool.and_false,Bool.false_and]
   have F:=ai chAV.eq_1<|ai zaO.eq_1<|ai e1<|ai bneA<|ai @Bool.true_beq<|@Bool.false_beq
   repeat (first | refine st ?_ | refine cC hcode ?_ | refine cC hname ?_)
   exact aR
  cases e3:(n==0)
  ·rw [Bool.false_and,Bool.false_and]
   have F:=ai chAV.eq_1<|ai zaO.eq_1<|ai e1<|ai e3<|ai bneA<|ai @Bool.true_beq<|@Bool.false_beq
   repeat (first | refine st ?_ | refine cC hcode ?_ | refine cC hname ?_)
   exact aR
  ·rw [Bool.true_and,Bool.true_and]
   have F:=ai chAV.eq_1<|ai zaO.eq_1<|ai e1<|ai e3<|ai bneA<|ai @Bool.true_beq<|@Bool.false_beq
   repeat (first | refine st ?_ | refine cC hcode ?_ | refine cC hname ?_)
   exact aR
 by_cases hk4:k=4
 ·subst hk4
  have hr:actB c.vars.length c.states.length ⟨4,n,m,co⟩=((n==0)&&zaC m&&za0 co c.vars.length c.states.length):=rfl
  rw [hr]
  cases e1:zaC m
  ·rw [Bool.and_false,Bool.false_and]
   have F:=ai chAV.eq_1<|ai zaO.eq_1<|ai e1<|ai bneA<|ai @Bool.true_beq<|@Bool.false_beq
   repeat (first | refine st ?_ | refine cC hcode ?_ | refine cC hname ?_)
   exact aR
  cases e3:(n==0)
  ·rw [Bool.false_and,Bool.false_and]
   have F:=ai chAV.eq_1<|ai zaO.eq_1<|ai e1<|ai e3<|ai bneA<|ai @Bool.true_beq<|@Bool.false_beq
   repeat (first | refine st ?_ | refine cC hcode ?_ | refine cC hname ?_)
   exact aR
  ·rw [Bool.true_and,Bool.true_and]
   have F:=ai chAV.eq_1<|ai zaO.eq_1<|ai e1<|ai e3<|ai bneA<|ai @Bool.true_beq<|@Bool.false_beq
   repeat (first | refine st ?_ | refine cC hcode ?_ | refine cC hname ?_)
   exact aR
 by_cases hk5:k=5
 ·subst hk5
  have hr:actB c.vars.length c.states.length ⟨5,n,m,co⟩=((n==0)&&zaC m&&(co == [])):=rfl
  rw [hr]
  cases e1:zaC m
  ·rw [Bool.and_false,Bool.false_and]
   have F:=ai chAV.eq_1<|ai zaO.eq_1<|ai e1<|ai bneA<|ai @Bool.true_beq<|@Bool.false_beq
   repeat (first | refine st ?_ | refine cC hcode ?_ | refine cC hname ?_)
   exact aR
  cases e3:(n==0)
  ·rw [Bool.false_and,Bool.false_and]
   have F:=ai chAV.eq_1<|ai zaO.eq_1<|ai e1<|ai e3<|ai bneA<|ai @Bool.true_beq<|@Bool.false_beq
   repeat (first | refine st ?_ | refine cC hcode ?_ | refine cC hname ?_)
   exact aR
  ·rw [Bool.true_and,Bool.true_and]
   have F:=ai chAV.eq_1<|ai zaO.eq_1<|ai e1<|ai e3<|ai hco<|ai bneA<|ai @Bool.true_beq<|@Bool.false_beq
   repeat (first | refine st ?_ | refine cC hcode ?_ | refine cC hname ?_)
   exact aR
 have hr:actB c.vars.length c.states.length ⟨k,n,m,co⟩=false:=by unfold actB; rw [if_neg hk1,if_neg (fun h=>h.elim hk2 hk4),if_neg hk3,if_neg hk5]
 have b2:=zbk hk2
 have b4:=zbk hk4
 have b5:=zbk hk5
 rw [hr]
 by_cases h1:k<1
 ·have F:=ai chAV.eq_1<|ai zaO.eq_1<|ai h1<|ai b2<|ai b4<|ai b5<|ai bneA<|ai @Bool.true_beq<|@Bool.false_beq
  repeat (first | refine st ?_ | refine cC hcode ?_ | refine cC hname ?_)
  exact aR
 have h2:5<k:=by omega
 have F:=ai chAV.eq_1<|ai zaO.eq_1<|ai h1<|ai h2<|ai b2<|ai b4<|ai b5<|ai bneA<|ai @Bool.true_beq<|@Bool.false_beq
 repeat (first | refine st ?_ | refine cC hcode ?_ | refine cC hname ?_)
 exact aR
theorem zdL (env:Env) (c:ChD) (l:List ActD):Con Tryz.prog env 188 [.agg (chAV c),actsAV l] (B (zbY c.vars.length c.states.length l)):=by
 refine zaa Tryz.func188 rfl Tryz.call188 (by rw [Tryz.ntmps188]; simp) ?_
 rw [Tryz.ntmps188,Tryz.results188]
 by_cases hlen:32<l.length
 ·have k0:(32:Int)< (l.length:Int):=by omega
  rw [show zbY c.vars.length c.states.length l=false by unfold zbY; rw [decide_eq_false (by omega)]; rfl]
  have F:=ai chAV.eq_1<|k0
  repeat refine st ?_
  exact aR
 have k0: ¬(32:Int)< (l.length:Int):=by omega
 rw [show zbY c.vars.length c.states.length l=l.all (actB c.vars.length c.states.length) by unfold zbY; rw [decide_eq_true (by omega)]; rfl]
 have F:=ai chAV.eq_1<|k0
 repeat refine st ?_
 refine zac (D:=Nat) (fun k vs=>[(1,actsAV l),(2, .loc 2 (vs 2) 0 0),(5,I k)]) (fun _ _=>[(2,⟨5,[chAV c],26,false⟩)]) (fun k _ _=>k<=l.length/\(l.take k).all (actB c.vars.length c.states.length)=true) (fun k=>l.length-k) 0 ?_ ?_ ?_ ?_
 ·exact⟨Nat.zero_le _,rfl⟩
 ·(simp only [go_sem,F])
 ·(simp only [go_sem,F])
 rintro k ws esc ⟨hk,hall⟩
 by_cases hlt:k<l.length
 ·obtain⟨a,hx,hm⟩:=zap hlt
  have k1:=nlt hlt
  have k2:=zab hlt (by omega)
  have hact:=zqI env c a
  cases h1:actB c.vars.length c.states.length a with
  | true=>
    have F:=ai chAV.eq_1<|ai k1<|ai k2<|ai hx<|ai zaO.eq_1<|h1
    repeat (first | refine st ?_ | refine cC hact ?_)
    refine⟨k+1,⟨hlt,zbV hall hx h1⟩, ?_, ?_, ?_⟩
    ·(simp only [go_sem,F])
    ·(simp only [go_sem,F])
    ·omega
  | false=>
    rw [zfH hx h1]
    have F:=ai chAV.eq_1<|ai k1<|ai k2<|ai hx<|ai zaO.eq_1<|h1
    repeat (first | refine st ?_ | refine cC hact ?_)
    exact aR
 ·have k1: ¬(k:Int)< (l.length:Int):=by omega
  rw [zje hall (by omega)]
  have F:=ai chAV.eq_1<|k1
  repeat refine st ?_
  exact aR
theorem zhW (env:Env) (c:ChD) (s:StD) (hp:s.parent<c.states.length):Con Tryz.prog env 190 [.agg (chAV c), .agg (stAV s)] (B (zaW c s)):=by
 refine zaa Tryz.func190 rfl Tryz.call190 (by rw [Tryz.ntmps190]; simp) ?_
 rw [Tryz.ntmps190,Tryz.results190]
 by_cases h1:0<=s.parent
 ·obtain⟨m,hm⟩:=zeq h1
  obtain⟨q,hq,_⟩:=zap (show m<c.states.length by omega)
  have k1:=nlt (show m<c.states.length by omega)
  rw [show zaW c s=(q.kind==1) by unfold zaW; rw [hm,zce,hq]]
  have F:=ai chAV.eq_1<|ai stAV.eq_1<|ai hm<|ai hq<|k1
  repeat refine st ?_
  exact aR
 ·rw [show zaW c s=false by unfold zaW at_; rw [if_neg h1]]
  have F:=ai chAV.eq_1<|ai stAV.eq_1<|h1
  repeat refine st ?_
  exact aR
theorem zfQ (env:Env) (c:ChD) (l:List Nat) (hl:l.length<=1000000) (hk: ∀k∈l,k<c.states.length):Con Tryz.prog env 189 [.agg (chAV c),nsAV l] (B ((l.all fun k=>zaM c k)&&decide (0<l.length))):=by
 refine zaa Tryz.func189 rfl Tryz.call189 (by rw [Tryz.ntmps189]; simp) ?_
 rw [Tryz.ntmps189,Tryz.results189]
 have F:=chAV.eq_1
 repeat refine st ?_
 refine zac (D:=Nat) (fun k vs=>[(1,nsAV l),(2, .loc 2 (vs 2) 0 0),(5,I k)]) (fun _ _=>[(2,⟨5,[chAV c],26,false⟩)]) (fun k _ _=>k<=l.length/\(l.take k).all (fun k=>zaM c k)=true) (fun k=>l.length-k) 0 ?_ ?_ ?_ ?_
 ·exact⟨Nat.zero_le _,rfl⟩
 ·(simp only [go_sem,F])
 ·(simp only [go_sem,F])
 rintro j ws esc ⟨hj,hall⟩
 by_cases hlt:j<l.length
 ·obtain⟨k,hx,hm⟩:=zap hlt
  obtain⟨q,hq,_⟩:=zap (hk k hm)
  have k1:=nlt hlt
  have k2:=zab hlt (by omega)
  have k3:=nlt (hk k hm)
  have hn:=zde env q
  have hnq:zaM c (k:Int)=zcq q:=by unfold zaM; rw [zce,hq]
  cases h1:zcq q with
  | true=>
    have F:=ai chAV.eq_1<|ai k1<|ai k2<|ai k3<|ai hx<|ai hq<|ai zaj.eq_1<|ai stAV.eq_1<|h1
    repeat (first | refine st ?_ | refine cC hn ?_)
    refine⟨j+1,⟨hlt,zbV (p:=fun k:Nat=>zaM c k) hall hx (hnq.trans h1)⟩, ?_, ?_, ?_⟩
    ·(simp only [go_sem,F])
    ·(simp only [go_sem,F])
    ·omega
  | false=>
    rw [zfH (p:=fun k:Nat=>zaM c k) hx (hnq.trans h1),Bool.false_and]
    have F:=ai chAV.eq_1<|ai k1<|ai k2<|ai k3<|ai hx<|ai hq<|ai zaj.eq_1<|ai stAV.eq_1<|h1
    repeat (first | refine st ?_ | refine cC hn ?_)
    exact aR
 ·have k1: ¬(j:Int)< (l.length:Int):=by omega
  rw [zje hall (by omega),Bool.true_and]
  have h3:decide ((0:Int)< (l.length:Int))=decide (0<l.length):=by rw [Bool.eq_iff_iff]; simp
  have F:=ai chAV.eq_1<|k1
  repeat refine st ?_
  (refine zah ?_; show (zaG _ _ _).run _=some _; simp only [go_sem,F])
  exact congrArg B h3
theorem zqH (env:Env) (c:ChD) (hn:c.vars.length<=1000000) (i:Nat) (v:VarD) (hv:c.vars[i]? =some v):Con Tryz.prog env 111 [.agg (chAV c),I i] (B (varB c i v)):=by
 have hi:i<c.vars.length:=(List.getElem?_eq_some_iff.1 hv).1
 have k0:=nlt hi
 have f1:=zaX env v.name
 have f2:=zg1 env v.start
 refine zaa Tryz.func111 rfl Tryz.call111 (by rw [Tryz.ntmps111]; simp) ?_
 rw [Tryz.ntmps111,Tryz.results111]
 have F:=ai chAV.eq_1<|ai k0<|ai hv<|zcL.eq_1
 repeat refine st ?_
 refine zac (D:=Nat) (fun j vs=>[(1,I i),(2, .loc 2 (vs 2) 0 0),(5, .loc 5 (vs 5) 0 0),(6,I j)]) (fun _ _=>[(2,⟨5,[chAV c],26,false⟩),(5,⟨2,[zcL v],145,false⟩)]) (fun j _ _=>j<=i/\newVar c v.name j=true) (fun j=>i-j) 0 ?_ ?_ ?_ ?_
 ·exact⟨Nat.zero_le _,rfl⟩
 ·(simp only [go_sem,F])
 ·(simp only [go_sem,F])
 rintro j ws esc ⟨hj,hall⟩
 by_cases hlt:j<i
 ·obtain⟨x,hx,_⟩:=zap (show j<c.vars.length by omega)
  have hx':(c.vars.take i)[j]? =some x:=by rw [List.getElem?_take,if_pos hlt]; exact hx
  have k1:=nlt hlt
  have k3:=nlt (show j<c.vars.length by omega)
  have k2:=zab hlt (by omega)
  cases e:(x.name==v.name)
  ·have F:=ai chAV.eq_1<|ai k1<|ai k2<|ai k3<|ai hx<|ai zcL.eq_1<|e
   repeat refine st ?_
   refine⟨j+1,⟨hlt,zg4 hall hx e⟩, ?_, ?_, ?_⟩
   ·(simp only [go_sem,F])
   ·(simp only [go_sem,F])
   ·omega
  ·rw [show varB c i v=false by unfold varB newVar; rw [zfH (p:=fun x:VarD=> !(x.name==v.name)) hx' (by rw [e]; rfl)]; rfl]
   have F:=ai chAV.eq_1<|ai k1<|ai k2<|ai k3<|ai hx<|ai zcL.eq_1<|e
   repeat refine st ?_
   exact aR
 ·have k1: ¬(j:Int)< (i:Int):=by omega
  obtain rfl:j=i:=by omega
  have hr:varB c j v=(zaC v.name&& !(v.name == [100,97,116,97])&& !(v.name == [105,110])&&zdw v.start):=by
   unfold varB zdw
   rw [hall]
   simp only [Bool.true_and,Bool.and_assoc]
  rw [hr]
  cases e1:zaC v.name
  ·have F:=ai k1<|ai zcL.eq_1<|ai e1<|bneA
   repeat (first | refine st ?_ | refine cC f1 ?_ | refine cC f2 ?_)
   exact aR
  cases e2:(v.name == [100,97,116,97])
  ·cases e3:(v.name == [105,110])
   ·have F:=ai k1<|ai zcL.eq_1<|ai e1<|ai e2<|ai e3<|bneA
    repeat (first | refine st ?_ | refine cC f1 ?_ | refine cC f2 ?_)
    exact aR
   ·have F:=ai k1<|ai zcL.eq_1<|ai e1<|ai e2<|ai e3<|bneA
    repeat (first | refine st ?_ | refine cC f1 ?_ | refine cC f2 ?_)
    exact aR
  ·have F:=ai k1<|ai zcL.eq_1<|ai e1<|ai e2<|bneA
   repeat (first | refine st ?_ | refine cC f1 ?_ | refine cC f2 ?_)
   exact aR
end

end Go.Proofs.YtnbjaghjdeicmaaGreatDoor