/- table.begins, table.Event. -/
import Derived.Test.YtnbjaghjdeicmaaGreatDoorD9
import Derived.Test.YtnbjaghjdeicmaaGreatDoorD6
import Derived.Test.YtnbjaghjdeicmaaGreatDoorD8
import Derived.Test.YtnbjaghjdeicmaaGreatDoorD10
import Derived.Test.YtnbjaghjdeicmaaGreatDoorD14
import Derived.Test.YtnbjaghjdeicmaaGreatDoorD1
import Derived.Test.YtnbjaghjdeicmaaGreatDoorD11
set_option maxRecDepth 100000
set_option maxHeartbeats 4000000
set_option linter.unusedSimpArgs false
namespace Go.Proofs.YtnbjaghjdeicmaaGreatDoor
open Go.RowKit
section
def Turned (s s2:St):Prop:= ∀(x:Ctx) (a:Act) (w:World) (m:Mem),Sim x s a w m-> ∃m',Sim x s2 a w m'
theorem Turned.refl (s:St):Turned s s:=fun _ _ _ m h=>⟨m,h⟩
theorem Turned.trans {s s2 s3:St} (h:Turned s s2) (k:Turned s2 s3):Turned s s3:=fun x a w m hh=>by
 obtain⟨m',h2⟩:=h x a w m hh
 exact k x a w m' h2
theorem Turned.less {s s2:St} (h:Less s s2):Turned s s2:=fun _ _ _ m hh=>⟨m,hh.less h⟩
theorem Turned.ren {s:St} (r r2:Nat) (row:Row) (hne:r2≠r) (hr:s.rows r=some row) (hr2:s.rows r2=none) (hrz:row.sz≠0) (hp:row.pure=true):Turned s (zc7 s r r2 row):=fun _ _ _ _ hh=>⟨_,hh.ren r r2 row hne hr hr2 hrz hp⟩
theorem Turned.sees {s:St} (L:List (Nat×Nat×AV)) (hL:ziw s L):Turned s (seenSt s L):=fun _ _ _ m hh=>by
 obtain⟨S',k⟩:=hh.sees L hL
 exact⟨_,k⟩
theorem Turned.mapSee {s:St} (r:Nat) (row:Row) (hr:s.rows r=some row) (hsz:row.sz=0) (hb:row.es.all (·.all AV.bare)=true):Turned s (zow s r (.fmap row.es)):=fun _ _ _ m hh=>by
 obtain⟨S',k⟩:=hh.mapSee r row hr hsz hb
 exact⟨_,k⟩
theorem Turned.head {s:St} {F:List (Nat×AV)} {R:List (Nat×Row)} (hF:zd8 s F) (hR:zdv s R):Turned s (Go.Proofs.YtnbjaghjdeicmaaGreatDoor.head F R s.vs s.esc):= .less (zbH hF hR)
section
variable {P:Program} {env:Env} {nt:Nat} {Q:Exit->St->Prop} {s:St}
theorem zjx {c:Code} (h:awp P env nt c (fun e s1=> ∃s2,Turned s1 s2/\Q e s2) s):awp P env nt c Q s:=fun ro x he hn a w m hS=>by
 refine wpIn_mono (h ro x he hn a w m hS) ?_
 rintro e a' w' ⟨s',m',⟨s2,h1,h2⟩,h3⟩
 obtain⟨m2,h4⟩:=h1 _ _ _ _ h3
 exact⟨s2,m2,h2,h4⟩
theorem zeq {c:Code} {s2:St} (ht:Turned s s2) (h:awp P env nt c Q s2):awp P env nt c Q s:=fun ro x he hn a w m hS=>by
 obtain⟨m2,h4⟩:=ht _ _ _ _ hS
 exact h ro x he hn a w m2 h4
end
def rowsAt:Nat->List Row->List (Nat×Row)
 | _,[]=>[]
 | b,r::l=>(b,r)::rowsAt (b+1) l
theorem zf4 {t:Nat} : ∀ {l:List Row} {b:Nat},zaI (rowsAt b l) t=if b<=t then l[t-b]? else none
 | [],b=>by simp [rowsAt,zaI]
 | r::l,b=>by
   simp only [rowsAt,zaI,zf4 (l:=l)]
   by_cases h:t=b
   ·subst h; simp
   ·rw [if_neg h]
    by_cases h2:b<=t
    ·rw [if_pos h2,if_pos (by omega),show t-b=(t-(b+1))+1 by omega,List.getElem?_cons_succ]
    ·rw [if_neg h2,if_neg (by omega)]
theorem holdR_rowsAt {s:St} : ∀ {l:List Row} {b:Nat},(∀q r,l[q]? =some r->s.rows (q+b)=some r)->zdv s (rowsAt b l)
 | [],b,h=>trivial
 | r::l,b,h=>⟨by have:=h 0 r rfl; rwa [Nat.zero_add] at this,holdR_rowsAt fun q r' hq=>by
    have:=h (q+1) r' (by simpa using hq)
    rwa [show q+1+b=q+(b+1) by omega] at this⟩
theorem zfz {p:Nat×Row} : ∀ {l:List Row} {b:Nat},p∈rowsAt b l-> ∃q,l[q]? =some p.2/\p.1=q+b
 | [],b,h=>by simp [rowsAt] at h
 | r::l,b,h=>by
   simp only [rowsAt,List.mem_cons] at h
   rcases h with rfl | h
   ·exact⟨0,rfl,by simp⟩
   ·obtain⟨q,h1,h2⟩:=zfz h
    exact⟨q+1,by simpa using h1,by omega⟩
end
section
theorem zb7 (env:Env) (es:List (List AV)) (hl:es.length<=4096):Con Tryz.prog env 93 [.seq 1 es] (.own 3 1 es):=by
 cases es with
 | nil=>
   refine Con.empty fun A cap=> ?_
   cases A with
   | none=>
     refine zan Tryz.func93 rfl Tryz.call93 (by rw [Tryz.ntmps93]; simp) ?_
     rw [Tryz.ntmps93,Tryz.results93]
     repeat refine st0 ?_
     (refine zaf ?_; refine⟨_,(by show (zao _ _ _).run _=some _; simp only [go_sem]; rfl), ?_⟩)
     exact RStr.own_nil _ _ (by decide)
   | some A=>
     refine zaa Tryz.func93 rfl Tryz.call93 (by rw [Tryz.ntmps93]; simp) ?_
     rw [Tryz.ntmps93,Tryz.results93]
     repeat refine st0 ?_
     exact aR0
 | cons d l=>
   have g1:Fits ((l.length+1)) 8:=zai (by simpa using hl) (by omega)
   refine zaa Tryz.func93 rfl Tryz.call93 (by rw [Tryz.ntmps93]; simp) ?_
   rw [Tryz.ntmps93,Tryz.results93]
   have F:=g1
   repeat refine st ?_
   exact aR
theorem zil (env:Env) (es:List (List AV)) (hl:es.length<=4096):Con Tryz.prog env 129 [.seq 2 es] (.own 197 2 es):=by
 cases es with
 | nil=>
   refine Con.empty fun A cap=> ?_
   cases A with
   | none=>
     refine zan Tryz.func129 rfl Tryz.call129 (by rw [Tryz.ntmps129]; simp) ?_
     rw [Tryz.ntmps129,Tryz.results129]
     repeat refine st0 ?_
     (refine zaf ?_; refine⟨_,(by show (zao _ _ _).run _=some _; simp only [go_sem]; rfl), ?_⟩)
     exact RStr.own_nil _ _ (by decide)
   | some A=>
     refine zaa Tryz.func129 rfl Tryz.call129 (by rw [Tryz.ntmps129]; simp) ?_
     rw [Tryz.ntmps129,Tryz.results129]
     repeat refine st0 ?_
     exact aR0
 | cons d l=>
   have g1:Fits ((l.length+1)) 16:=zai (by simpa using hl) (by omega)
   refine zaa Tryz.func129 rfl Tryz.call129 (by rw [Tryz.ntmps129]; simp) ?_
   rw [Tryz.ntmps129,Tryz.results129]
   have F:=g1
   repeat refine st ?_
   exact aR
theorem zoW (env:Env) (es:List (List AV)) (hl:es.length<=4096):Con Tryz.prog env 127 [.seq 2 es] (.own 145 2 es):=by
 cases es with
 | nil=>
   refine Con.empty fun A cap=> ?_
   cases A with
   | none=>
     refine zan Tryz.func127 rfl Tryz.call127 (by rw [Tryz.ntmps127]; simp) ?_
     rw [Tryz.ntmps127,Tryz.results127]
     repeat refine st0 ?_
     (refine zaf ?_; refine⟨_,(by show (zao _ _ _).run _=some _; simp only [go_sem]; rfl), ?_⟩)
     exact RStr.own_nil _ _ (by decide)
   | some A=>
     refine zaa Tryz.func127 rfl Tryz.call127 (by rw [Tryz.ntmps127]; simp) ?_
     rw [Tryz.ntmps127,Tryz.results127]
     repeat refine st0 ?_
     exact aR0
 | cons d l=>
   have g1:Fits ((l.length+1)) 24:=zai (by simpa using hl) (by omega)
   refine zaa Tryz.func127 rfl Tryz.call127 (by rw [Tryz.ntmps127]; simp) ?_
   rw [Tryz.ntmps127,Tryz.results127]
   have F:=g1
   repeat refine st ?_
   exact aR
/-! Few of all -/
def few4 (l:List ActD):Prop:=l.length<=4096/\ ∀a∈l,a.code.length<=4096
structure Small (c:ChD):Prop where
 vars:c.vars.length<=4096
 sts:c.states.length<=4096
 trs:c.trans.length<=4096
 st: ∀s∈c.states,few4 s.inn/\few4 s.out
 tr: ∀t∈c.trans,t.guard.length<=4096/\few4 t.acts
theorem zld {l:List OpD} {vs ss:Int} (h:zaH l vs ss=true):l.length<=32:=by
 unfold zaH zev at h
 split at h
 ·simp at h
 ·omega
theorem zhA {nv ns:Int} {l:List ActD} (h:zbY nv ns l=true):few4 l:=by
 unfold zbY at h
 rw [Bool.and_eq_true,decide_eq_true_eq,List.all_eq_true] at h
 refine⟨by omega,fun a ha=> ?_⟩
 have hb:=h.2 a ha
 unfold actB at hb
 by_cases e:a.code=[]
 ·rw [e]; simp
 ·have:zaH a.code nv ns=true:=by
   revert hb
   cases zaH a.code nv ns<;>simp [e]
  have:=zld this
  omega
theorem ziO {c:ChD} (h:(chk c).1=0):Small c:=by
 have hr:=ziS h
 unfold chk at h
 split at h
 ·simp at h
 rename_i h1
 split at h
 ·simp at h
 split at h
 ·simp at h
 split at h
 ·simp at h
 rename_i h3
 split at h
 ·simp at h
 split at h
 ·simp at h
 rename_i h5
 refine⟨by omega,by omega,by omega,fun s hs=> ?_,fun t ht=> ?_⟩
 ·obtain⟨k,hk⟩:=List.mem_iff_getElem?.1 hs
  have:=zbL h3 k (List.getElem?_eq_some_iff.1 hk).1
  unfold zgh at this
  rw [hk] at this
  simp only [zay,Bool.and_eq_true] at this
  exact⟨zhA this.1.2,zhA this.2⟩
 ·obtain⟨k,hk⟩:=List.mem_iff_getElem?.1 ht
  have:=zbL h5 k (List.getElem?_eq_some_iff.1 hk).1
  unfold zju at this
  rw [hk] at this
  simp only [zcx,Bool.and_eq_true,Bool.or_eq_true] at this
  refine⟨?_,zhA this.1.2⟩
  rcases this.1.1.2 with e | e
  ·have:t.guard=[]:=by simpa using e
   rw [this]; simp
  ·have:=zld e
   omega
theorem zd5 (env:Env) (l:List ActD) (hl:few4 l):Con Tryz.prog env 128 [actsAV l] (.own 224 4 (l.map zaK)):=by
 have h1:=hl.1
 refine zaa Tryz.func128 rfl Tryz.call128 (by rw [Tryz.ntmps128]; simp) ?_
 rw [Tryz.ntmps128,Tryz.results128]
 repeat refine st0 ?_
 refine zaX 3 3 224 4 ?_
 refine zac (D:=Nat) (fun j vs=>[(3, .row 3 (vs 3)),(6,actsAV l),(7,I l.length),(8,I j)]) (fun j _=>[(3,⟨4,(l.take j).map zaK,224,true⟩)]) (fun j _ esc=>j<=l.length/\esc 3=false) (fun j=>l.length-j) 0 ?_ ?_ ?_ ?_
 ·exact⟨Nat.zero_le _,rfl⟩
 ·(simp only [go_sem])
 ·(simp only [go_sem])
 rintro j ws esc ⟨hj,e0⟩
 by_cases hlt:j<l.length
 ·obtain⟨a,ha⟩: ∃a,l[j]? =some a:=⟨l[j],List.getElem?_eq_getElem hlt⟩
  have g1:=nlt hlt
  have g2:=zab hlt (by omega)
  have f0:=zil env (a.code.map opAV) (by rw [List.length_map]; exact hl.2 a (List.mem_of_getElem? ha))
  have htl:(l.take j).length=j:=by rw [List.length_take]; omega
  have hf:Fits (j+1) 56:=zai (by omega) (by omega)
  have htk:l.take (j+1)=l.take j++[a]:=by rw [List.take_add_one,ha]; rfl
  have F:=ai zaK.eq_1<|ai g1<|ai g2<|ai ha<|ai htl<|ai hf<|e0
  repeat (first | refine st ?_ | refine cC f0 ?_)
  refine⟨j+1,⟨hlt,by simp only [go_sem,e0]⟩, ?_, ?_,by omega⟩
  ·(simp only [go_sem,F])
  ·have F:=ai zaK.eq_1<|htk
   (simp only [go_sem,List.map_append,F])
 ·obtain rfl:j=l.length:=by omega
  have g1: ¬(l.length:Int)< (l.length:Int):=by omega
  have hta:l.take l.length=l:=List.take_length
  have F:=ai g1<|ai hta<|e0
  repeat refine st ?_
  exact aR
theorem zgY (env:Env) (c:ChD) (hs:Small c):Con Tryz.prog env 50 [.agg (chAV c)] (.agg (chAV c)):=by
 have hn1:=hs.sts
 have hn2:=hs.trs
 have f0:=zoW env (c.vars.map zcO) (by rw [List.length_map]; exact hs.vars)
 refine zaa Tryz.func50 rfl Tryz.call50 (by rw [Tryz.ntmps50]; simp) ?_
 rw [Tryz.ntmps50,Tryz.results50]
 have F:=chAV.eq_1
 repeat (first | refine st ?_ | refine cC f0 ?_)
 refine zaN 3 9000 0 3 ⟨5,[[Sg c.name,I c.initial, .row 14 1,nilS,nilS]],26,false⟩ [Sg c.name,I c.initial, .row 14 1,nilS,nilS] 123 6 (by decide) (by decide) (Nat.succ_ne_zero 4) rfl rfl rfl (by simp only [go_sem,F]; exact iR) (by simp only [go_sem,F]; exact iR) ?_
 refine zaN 3 9001 0 4 ⟨5,[[Sg c.name,I c.initial, .row 14 1, .row 9000 1,nilS]],26,false⟩ [Sg c.name,I c.initial, .row 14 1, .row 9000 1,nilS] 65 5 (by decide) (by decide) (Nat.succ_ne_zero 4) rfl rfl rfl (by simp only [go_sem,F]; exact iR) (by simp only [go_sem,F]; exact iR) ?_
 refine zac (D:=Nat) (fun j vs=>[(1, .loc 1 (vs 1) 0 0),(2, .loc 2 (vs 2) 0 0),(3, .loc 3 (vs 3) 0 0),(17,stsAV c.states),(18,I c.states.length),(19,I j)])
  (fun j vs=>[(1,⟨5,[chAV c],26,false⟩),(2,⟨5,[[Sg [],I 0,nilS,nilS,nilS]],26,false⟩),(3,⟨5,[[Sg c.name,I c.initial, .row 14 (vs 14), .row 9000 (vs 9000), .row 9001 (vs 9001)]],26,false⟩),(14,⟨2,c.vars.map zcO,145,true⟩),(9000,⟨6,(c.states.take j).map stAV,123,true⟩),(9001,⟨5,[],65,true⟩)])
  (fun j _ esc=>j<=c.states.length/\esc 2=false/\esc 3=false/\esc 14=false/\esc 9000=false/\esc 9001=false) (fun j=>c.states.length-j) 0 ?_ ?_ ?_ ?_
 ·refine⟨Nat.zero_le _, ?_, ?_, ?_, ?_, ?_⟩<;>simp only [go_sem]
 ·(simp only [go_sem,F])
 ·have F:=chAV.eq_1
  (simp only [go_sem,F])
 rintro j ws esc ⟨hj,e0,e1,e2,e3,e4⟩
 by_cases hlt:j<c.states.length
 ·obtain⟨s,hss⟩: ∃s,c.states[j]? =some s:=⟨c.states[j],List.getElem?_eq_getElem hlt⟩
  have g1:=nlt hlt
  have g2:=zab hlt (by omega)
  have f1:=zd5 env s.inn (hs.st s (List.mem_of_getElem? hss)).1
  have f2:=zd5 env s.out (hs.st s (List.mem_of_getElem? hss)).2
  have htl:(c.states.take j).length=j:=by rw [List.length_take]; omega
  have hf:Fits (j+1) 88:=zai (by omega) (by omega)
  have htk:c.states.take (j+1)=c.states.take j++[s]:=by rw [List.take_add_one,hss]; rfl
  have F:=ai chAV.eq_1<|ai stAV.eq_1<|ai g1<|ai g2<|ai hss<|ai htl<|ai hf<|ai e0<|ai e1<|ai e2<|ai e3<|e4
  repeat (first | refine st ?_ | refine cC f1 ?_ | refine cC f2 ?_)
  refine⟨j+1,⟨hlt, ?_, ?_, ?_, ?_, ?_⟩, ?_, ?_,by omega⟩
  all_goals (first | (show _=false; simp only [go_sem,e0,e1,e2,e3,e4]; done) | skip)
  ·(simp only [go_sem,F])
  ·have F:=ai chAV.eq_1<|ai stAV.eq_1<|ai htk<|ai e0<|ai e1<|ai e2<|ai e3<|e4
   (simp only [go_sem,List.map_append,F])
 obtain rfl:j=c.states.length:=by omega
 have g1: ¬(c.states.length:Int)< (c.states.length:Int):=by omega
 have hta:c.states.take c.states.length=c.states:=List.take_length
 have F:=ai chAV.eq_1<|ai g1<|ai hta<|ai e0<|ai e1<|ai e2<|ai e3<|e4
 repeat refine st ?_
 refine zac (D:=Nat) (fun j vs=>[(1, .loc 1 (vs 1) 0 0),(2, .loc 2 (vs 2) 0 0),(3, .loc 3 (vs 3) 0 0),(39,trsAV c.trans),(40,I c.trans.length),(41,I j)])
  (fun j vs=>[(1,⟨5,[chAV c],26,false⟩),(2,⟨5,[[Sg [],I 0,nilS,nilS,nilS]],26,false⟩),(3,⟨5,[[Sg c.name,I c.initial, .row 14 (vs 14), .row 9000 (vs 9000), .row 9001 (vs 9001)]],26,false⟩),(14,⟨2,c.vars.map zcO,145,true⟩),(9000,⟨6,c.states.map stAV,123,true⟩),(9001,⟨5,(c.trans.take j).map trAV,65,true⟩)])
  (fun j _ esc=>j<=c.trans.length/\esc 2=false/\esc 3=false/\esc 14=false/\esc 9000=false/\esc 9001=false) (fun j=>c.trans.length-j) 0 ?_ ?_ ?_ ?_
 ·refine⟨Nat.zero_le _, ?_, ?_, ?_, ?_, ?_⟩<;>simp only [go_sem,e0,e1,e2,e3,e4]
 ·(simp only [go_sem,F])
 ·have F:=chAV.eq_1
  (simp only [go_sem,F])
 try clear e0 e1 e2 e3 e4
 rintro j ws esc ⟨hj,e0,e1,e2,e3,e4⟩
 by_cases hlt:j<c.trans.length
 ·obtain⟨t,hss⟩: ∃s,c.trans[j]? =some s:=⟨c.trans[j],List.getElem?_eq_getElem hlt⟩
  have g1:=nlt hlt
  have g2:=zab hlt (by omega)
  have htm:=hs.tr t (List.mem_of_getElem? hss)
  have f1:=zil env (t.guard.map opAV) (by rw [List.length_map]; exact htm.1)
  have f2:=zd5 env t.acts htm.2
  have htl:(c.trans.take j).length=j:=by rw [List.length_take]; omega
  have hf:Fits (j+1) 80:=zai (by omega) (by omega)
  have htk:c.trans.take (j+1)=c.trans.take j++[t]:=by rw [List.take_add_one,hss]; rfl
  have F:=ai chAV.eq_1<|ai trAV.eq_1<|ai g1<|ai g2<|ai hss<|ai htl<|ai hf<|ai e0<|ai e1<|ai e2<|ai e3<|e4
  repeat (first | refine st ?_ | refine cC f1 ?_ | refine cC f2 ?_)
  refine⟨j+1,⟨hlt, ?_, ?_, ?_, ?_, ?_⟩, ?_, ?_,by omega⟩
  all_goals (first | (show _=false; simp only [go_sem,e0,e1,e2,e3,e4]; done) | skip)
  ·(simp only [go_sem,F])
  ·have F:=ai chAV.eq_1<|ai trAV.eq_1<|ai htk<|ai e0<|ai e1<|ai e2<|ai e3<|e4
   (simp only [go_sem,List.map_append,F])
 obtain rfl:j=c.trans.length:=by omega
 have g1: ¬(c.trans.length:Int)< (c.trans.length:Int):=by omega
 have hta:c.trans.take c.trans.length=c.trans:=List.take_length
 have F:=ai chAV.eq_1<|ai g1<|ai hta<|ai e0<|ai e1<|ai e2<|ai e3<|e4
 repeat refine st ?_
 exact aR
end
section
def zc0 (s:List UInt8):List AV:=[Sg s]
theorem ze9 (l:List (List UInt8)):zaY (l.map strC)=l.map zc0:=by
 unfold zaY
 rw [List.map_map]
 rfl
def za0 (c:ChD) (j:Nat):List (List UInt8):=((c.trans.take j).map (·.event)).filter fun e=> !e.isEmpty
def evL (c:ChD):List (List UInt8):=Lib.compact (zdz (za0 c c.trans.length))
theorem zot {c:ChD} {j:Nat} {t:TrD} (h:c.trans[j]? =some t):za0 c (j+1)=if t.event.isEmpty then za0 c j else za0 c j++[t.event]:=by
 unfold za0
 rw [List.take_add_one,h,List.map_append,List.filter_append]
 cases hb:t.event.isEmpty<;>simp [hb]
theorem zg2 (c:ChD) (j:Nat):(za0 c j).length<=j:=by
 unfold za0
 exact Nat.le_trans (List.length_filter_le ..) (by simp; omega)
theorem zoM (env:Env) (c:ChD) (hc:c.trans.length<=1000000):Con Tryz.prog env 51 [.agg (chAV c)] (.own 9 1 ((evL c).map zc0)):=by
 refine zaa Tryz.func51 rfl Tryz.call51 (by rw [Tryz.ntmps51]; simp) ?_
 rw [Tryz.ntmps51,Tryz.results51]
 have F:=chAV.eq_1
 repeat refine st ?_
 refine zaX 3 3 9 1 ?_
 refine zac (D:=Nat) (fun j vs=>[(3, .row 3 (vs 3)),(7,trsAV c.trans),(8,I c.trans.length),(9,I j)]) (fun j _=>[(3,⟨1,(za0 c j).map zc0,9,true⟩)]) (fun j _ esc=>j<=c.trans.length/\esc 3=false) (fun j=>c.trans.length-j) 0 ?_ ?_ ?_ ?_
 ·exact⟨Nat.zero_le _,rfl⟩
 ·(simp only [go_sem,F])
 ·(simp only [go_sem,F])
  rfl
 rintro j ws esc ⟨hj,e0⟩
 by_cases hlt:j<c.trans.length
 ·obtain⟨t,ht⟩: ∃t,c.trans[j]? =some t:=⟨c.trans[j],List.getElem?_eq_getElem hlt⟩
  have g1:=nlt hlt
  have g2:=zab hlt (by omega)
  have hn:=zot ht
  have hl:=zg2 c j
  have hf:Fits ((za0 c j).length+1) 16:=⟨by omega,by omega⟩
  cases hb:t.event.isEmpty with
  | true=>
    rw [hb,if_pos rfl] at hn
    have hb2:(t.event == [])=true:=by simpa using hb
    have F:=ai trAV.eq_1<|ai g1<|ai g2<|ai ht<|ai hb2<|e0
    repeat refine st ?_
    refine⟨j+1,⟨hlt,by simp only [go_sem,e0]⟩, ?_, ?_,by omega⟩
    ·(simp only [go_sem,F])
    ·have F:=hn
     (simp only [go_sem,F])
  | false=>
    rw [hb,if_neg Bool.false_ne_true] at hn
    have hb2:(t.event == [])=false:=by simpa using hb
    have F:=ai trAV.eq_1<|ai g1<|ai g2<|ai ht<|ai hb2<|ai hf<|e0
    repeat refine st ?_
    refine⟨j+1,⟨hlt,by simp only [go_sem,e0]⟩, ?_, ?_,by omega⟩
    ·(simp only [go_sem,F])
    ·have F:=ai hn<|zc0.eq_1
     (simp only [go_sem,List.map_append,F])
 ·obtain rfl:j=c.trans.length:=by omega
  have g1: ¬(c.trans.length:Int)< (c.trans.length:Int):=by omega
  have hl:=zg2 c c.trans.length
  have F:=ai g1<|e0
  repeat refine st ?_
  have f1:=zlF (za0 c c.trans.length) (by omega)
  have hsl:(zdz (za0 c c.trans.length)).length<=9223372036854775807:=by simp [zdz]; omega
  have f2:=zoT (zdz (za0 c c.trans.length)) hsl
  refine znd 3 rfl (row:=⟨1,(za0 c c.trans.length).map zc0,9,true⟩) f1 (Nat.succ_ne_zero 0) rfl (ze9 _).symm (by simp only [go_sem,e0]; exact iR) (by simp only [go_sem,e0]; exact iR) (by simp only [go_sem,e0]; exact iR) (by simp only [go_sem,e0]; exact iR) ?_
  rw [ze9]
  repeat refine st ?_
  refine zjz 3 rfl (row:=⟨1,(zdz (za0 c c.trans.length)).map zc0,9,true⟩) f2 (Nat.succ_ne_zero 0) rfl (ze9 _).symm (by simp only [go_sem,e0]; exact iR) (by simp only [go_sem,e0]; exact iR) (by simp only [go_sem,e0]; exact iR) (by simp only [go_sem,e0]; exact iR) iR ?_
  rw [ze9]
  repeat refine st ?_
  (refine zaf ?_; show (zao _ _ _).run _=some _; simp only [go_sem,F])
  rfl
end
section
theorem zhx: ∀a:List UInt8,Op.bytesLess a a=false
 | []=>rfl
 | x::a=>by simp [Op.bytesLess,zhx a]
theorem zgx: ∀ {a b c:List UInt8},Op.bytesLess a b=true->Op.bytesLess b c=true->Op.bytesLess a c=true
 | _,[],_,h,_=>by simp [Op.bytesLess] at h
 | _,_::_,[],_,h=>by simp [Op.bytesLess] at h
 | [],_::_,_::_,_,_=>rfl
 | x::a,y::b,z::c,h,k=>by
   simp only [Op.bytesLess,Bool.or_eq_true,decide_eq_true_eq,Bool.and_eq_true,beq_iff_eq] at h k |-
   rcases h with h | ⟨h,h'⟩
   ·rcases k with k | ⟨k,k'⟩
    ·exact .inl (UInt8.lt_trans h k)
    ·exact .inl (k ▸ h)
   ·rcases k with k | ⟨k,k'⟩
    ·exact .inl (h ▸ k)
    ·exact .inr ⟨h.trans k,zgx h' k'⟩
theorem zgy: ∀ {a b:List UInt8},Op.bytesLess a b=false->Op.bytesLess b a=false->a=b
 | [],[],_,_=>rfl
 | [],_::_,h,_=>by simp [Op.bytesLess] at h
 | _::_,[],_,h=>by simp [Op.bytesLess] at h
 | x::a,y::b,h,k=>by
   simp only [Op.bytesLess,Bool.or_eq_false_iff,decide_eq_false_iff_not,Bool.and_eq_false_iff] at h k
   have e:x=y:=UInt8.le_antisymm (UInt8.not_lt.1 k.1) (UInt8.not_lt.1 h.1)
   subst e
   simp only [beq_self_eq_true,Bool.true_eq_false,false_or] at h k
   rw [zgy h.2 k.2]
theorem zsX {a b:List UInt8} (h:Op.bytesLess a b=true):Op.bytesLess b a=false:=by
 cases k:Op.bytesLess b a
 ·rfl
 ·have:=zgx h k
  rw [zhx] at this
  cases this
end
section
abbrev Str8:=List UInt8
abbrev SL (a b:Str8):Prop:=Op.bytesLess a b=true
/-! Texts in the order of bytes -/
theorem zuT: ∀(x y:Str8),Op.bytesLess x y=decide (x<y)
 | [],[]=>by simp [Op.bytesLess]
 | _::_,[]=>by simp [Op.bytesLess]
 | [],_::_=>by simp [Op.bytesLess]
 | a::x,b::y=>by
   rw [Op.bytesLess,zuT x y]
   simp only [List.cons_lt_cons_iff]
   by_cases h1:a<b<;>by_cases h2:a=b<;>by_cases h3:x<y<;>simp [h1,h2,h3]
theorem zt8 (x y:Str8):decide (x<=y)= !Op.bytesLess y x:=by
 rw [zuT, <-decide_not]
 rfl
theorem zmw {a b c:Str8} (h1:Op.bytesLess b a=false) (h2:Op.bytesLess c b=false):Op.bytesLess c a=false:=by
 cases k:Op.bytesLess c a
 ·rfl
 ·cases k3:Op.bytesLess a b
  ·rw [<-zgy k3 h1,k] at h2; cases h2
  ·rw [zgx k k3] at h2; cases h2
theorem zmQ (l:List Str8):(zdz l).Pairwise fun a b=>Op.bytesLess b a=false:=by
 have:=List.pairwise_mergeSort (le:=fun x y:Str8=>decide (x<=y)) (fun a b c hab hbc=>by
  simp only [zt8,Bool.not_eq_true'] at*
  exact zmw hab hbc) (fun a b=>by
  simp only [zt8]
  cases k:Op.bytesLess b a
  ·simp
  ·rw [zsX k]; simp) l
 exact this.imp fun {a b} h=>by simpa [zt8] using h
theorem zpK {l:List Str8} {x:Str8} :x∈zdz l↔x∈l:=List.mem_mergeSort
theorem zhv (l:List Str8) (hs:l.Pairwise fun a b=>Op.bytesLess b a=false): ∀m,m<=l.length->(Lib.compactUpTo l.toArray m).Pairwise SL/\ ∀x,x∈Lib.compactUpTo l.toArray m↔x∈l.take m
 | 0,_=>by simp [Lib.compactUpTo]
 | m+1,hm=>by
   obtain⟨h1,h2⟩:=zhv l hs m (by omega)
   have ey:l.toArray[m]! =l[m]'(by omega):=by rw [getElem!_pos _ m (by simp; omega)]; rfl
   have et:l.take (m+1)=l.take m++[l[m]'(by omega)]:=by rw [List.take_add_one,List.getElem?_eq_getElem (by omega)]; rfl
   have hle: ∀k (hk:k<m),Op.bytesLess (l[m]'(by omega)) (l[k]'(by omega))=false:=fun k hk=>List.pairwise_iff_getElem.1 hs k m (by omega) (by omega) hk
   rw [Lib.compactUpTo_succ,ey]
   by_cases hk:Lib.keeps l.toArray m=true
   ·rw [if_pos hk]
    refine⟨List.pairwise_append.2 ⟨h1,List.pairwise_singleton ..,fun x hx y hy=> ?_⟩,fun x=>by rw [et,List.mem_append,List.mem_append,h2]⟩
    rw [List.mem_singleton.1 hy]
    rw [h2,List.mem_take_iff_getElem] at hx
    obtain⟨k,hk2,rfl⟩:=hx
    have hkm:k<m:=by omega
    show Op.bytesLess _ _=true
    cases hq:Op.bytesLess (l[k]'(by omega)) (l[m]'(by omega)) with
    | true=>rfl
    | false=>
      have e:=zgy hq (hle k hkm)
      exfalso
      unfold Lib.keeps at hk
      rw [decide_eq_true_eq] at hk
      rcases hk with hk | hk
      ·omega
      ·apply hk
       rw [ey,getElem!_pos _ (m-1) (by simp; omega)]
       show l[m]'(by omega)=l[m-1]'(by omega)
       have e1:=hle (m-1) (by omega)
       by_cases ek:k=m-1
       ·subst ek; exact e.symm
       ·have e2:=List.pairwise_iff_getElem.1 hs k (m-1) (by omega) (by omega) (by omega)
        rw [e] at e2
        exact zgy e1 e2
   ·rw [if_neg hk,List.append_nil]
    refine⟨h1,fun x=> ?_⟩
    rw [h2,et,List.mem_append,List.mem_singleton]
    refine⟨.inl,fun h=>h.elim id fun h=> ?_⟩
    unfold Lib.keeps at hk
    rw [decide_eq_true_eq,not_or,Classical.not_not,ey,getElem!_pos _ (m-1) (by simp; omega)] at hk
    rw [h,hk.2]
    exact List.mem_take_iff_getElem.2 ⟨m-1,by omega,rfl⟩
theorem zmj (c:ChD):(evL c).Pairwise SL:=(zhv _ (zmQ _) _ (Nat.le_refl _)).1
theorem zns {c:ChD} {s:Str8} :s∈evL c↔s≠[]/\ ∃t∈c.trans,t.event=s:=by
 unfold evL Lib.compact
 rw [(zhv _ (zmQ _) _ (Nat.le_refl _)).2,List.take_length,zpK]
 unfold za0
 rw [List.take_length,List.mem_filter,List.mem_map]
 constructor
 ·rintro⟨⟨t,h1,h2⟩,h3⟩
  exact⟨by simpa using h3,t,h1,h2⟩
 ·rintro⟨h,t,h1,h2⟩
  exact⟨⟨t,h1,h2⟩,by simpa using h⟩
theorem zt4 (c:ChD):(evL c).length<=c.trans.length:=by
 have h1:(Lib.compact (zdz (za0 c c.trans.length))).length<=(zdz (za0 c c.trans.length)).length:=by
  unfold Lib.compact Lib.compactUpTo
  rw [List.length_map]
  exact Nat.le_trans (List.length_filter_le ..) (by simp)
 have h2:=zg2 c c.trans.length
 unfold evL
 have h3:(zdz (za0 c c.trans.length)).length=(za0 c c.trans.length).length:=by simp [zdz]
 omega
/-! Where a text stands, or would stand -/
def posL (l:List Str8) (x:Str8):Nat:=(l.filter fun y=>Op.bytesLess y x).length
def Cut (l:List Str8) (x:Str8) (p:Nat):Prop:=p<=l.length/\ ∀k y,l[k]? =some y->(Op.bytesLess y x=true↔k<p)
theorem zlS: ∀ {l:List Str8},l.Pairwise SL-> ∀x,Cut l x (posL l x)
 | [],_,x=>⟨Nat.zero_le _,fun k y h=>by simp at h⟩
 | a::l,h,x=>by
   obtain⟨h1,h2⟩:=List.pairwise_cons.1 h
   obtain⟨k1,k2⟩:=zlS h2 x
   unfold posL at*
   rw [List.filter_cons]
   by_cases ha:Op.bytesLess a x=true
   ·rw [if_pos ha,List.length_cons]
    refine⟨by simp only [List.length_cons]; omega,fun k y hk=> ?_⟩
    cases k with
    | zero=>
      obtain rfl:a=y:=by simpa using hk
      exact⟨fun _=>by omega,fun _=>ha⟩
    | succ k=>
      rw [k2 k y (by simpa using hk)]
      omega
   ·rw [if_neg ha]
    have hno: ∀y∈l,¬Op.bytesLess y x=true:=fun y hy hb=>ha (zgx (h1 y hy) hb)
    have e:(l.filter fun y=>Op.bytesLess y x)=[]:=List.filter_eq_nil_iff.2 hno
    rw [e]
    refine⟨Nat.zero_le _,fun k y hk=>⟨fun hb=> ?_,fun hk=>by simp at hk⟩⟩
    cases k with
    | zero=>
      obtain rfl:a=y:=by simpa using hk
      exact absurd hb ha
    | succ k=>exact absurd hb (hno y (List.mem_of_getElem? (by simpa using hk)))
theorem ztf {l:List Str8} (h:l.Pairwise SL) {x:Str8} (hx:x∈l):l[posL l x]? =some x:=by
 obtain⟨h1,h2⟩:=zlS h x
 obtain⟨k,hk⟩:=List.mem_iff_getElem?.1 hx
 have h3:=(h2 k x hk)
 rw [zhx] at h3
 have h3: ¬k<posL l x:=fun e=>by simpa using h3.2 e
 have hkl:=(List.getElem?_eq_some_iff.1 hk).1
 by_cases e:k=posL l x
 ·rw [<-e]; exact hk
 ·have hp:posL l x<l.length:=by omega
  have h4:=List.pairwise_iff_getElem.1 h (posL l x) k hp hkl (by omega)
  rw [(List.getElem?_eq_some_iff.1 hk).2] at h4
  have:=(h2 _ _ (List.getElem?_eq_getElem hp)).1 h4
  omega
def evI (c:ChD) (s:Str8):Int:=if (evL c)[posL (evL c) s]? =some s then(posL (evL c) s:Nat) else -1
theorem zk2 {c:ChD} {s:Str8} (h:s∈evL c): ∃k:Nat,evI c s=k/\(evL c)[k]? =some s:=⟨posL (evL c) s,by unfold evI; rw [if_pos (ztf (zmj c) h)],ztf (zmj c) h⟩
theorem zre {c:ChD} {s:Str8} (h:s∉evL c):evI c s= -1:=by
 unfold evI
 rw [if_neg fun e=>h (List.mem_of_getElem? e)]
theorem zuz {c:ChD} {s t:Str8} (hs:s∈evL c) (ht:t∈evL c) (h:evI c s=evI c t):s=t:=by
 obtain⟨k,h1,h2⟩:=zk2 hs
 obtain⟨j,h3,h4⟩:=zk2 ht
 have:k=j:=by omega
 subst this
 exact Option.some.inj (h2.symm.trans h4)
theorem zml (c:ChD):evI c []= -1:=zre fun h=>(zns.1 h).1 rfl
/-! A state's transitions -/
def zb5 (c:ChD) (k:Nat):Int×Int:=match c.trans[k]? with
 | some t=>(t.src,evI c t.event)
 | none=>(-1, -1)
def zes (c:ChD) (j:Nat) (p:Int×Int):List Nat:=(List.range j).filter fun k=>zb5 c k=p
def keysTo (c:ChD):Nat->List (Int×Int)
 | 0=>[]
 | j+1=>if zb5 c j∈keysTo c j then keysTo c j else keysTo c j++[zb5 c j]
def atL (c:ChD) (i e:Int):List Nat:=zes c c.trans.length (i,e)
theorem zgl (c:ChD) (j:Nat) (p:Int×Int):zes c (j+1) p=if zb5 c j=p then zes c j p++[j] else zes c j p:=by
 unfold zes
 rw [List.range_succ,List.filter_append]
 by_cases h:zb5 c j=p<;>simp [h]
theorem zgq {c:ChD} {p:Int×Int} : ∀ {j:Nat},p∈keysTo c j↔ ∃k,k<j/\zb5 c k=p
 | 0=>by simp [keysTo]
 | j+1=>by
   unfold keysTo
   split
   ·rename_i h
    rw [zgq]
    constructor
    ·rintro⟨k,h1,h2⟩; exact⟨k,by omega,h2⟩
    ·rintro⟨k,h1,h2⟩
     by_cases e:k=j
     ·subst e; rw [<-h2]; exact zgq.1 h
     ·exact⟨k,by omega,h2⟩
   ·rw [List.mem_append,zgq,List.mem_singleton]
    constructor
    ·rintro(⟨k,h1,h2⟩ | h)
     ·exact⟨k,by omega,h2⟩
     ·exact⟨j,by omega,h.symm⟩
    ·rintro⟨k,h1,h2⟩
     by_cases e:k=j
     ·subst e; exact .inr h2.symm
     ·exact .inl ⟨k,by omega,h2⟩
theorem zfH (c:ChD): ∀j,(keysTo c j).Nodup
 | 0=> .nil
 | j+1=>by
   unfold keysTo
   split
   ·exact zfH c j
   ·rename_i h
    exact List.nodup_append.2 ⟨zfH c j,by simp,fun a ha b hb e=>h (by rw [List.mem_singleton.1 hb] at e; exact e ▸ ha)⟩
theorem ziR {c:ChD} {j:Nat} {p:Int×Int} (h:p∉keysTo c j):zes c j p=[]:=by
 unfold zes
 rw [List.filter_eq_nil_iff]
 intro k hk
 simp only [decide_eq_true_eq]
 exact fun e=>h (zgq.2 ⟨k,List.mem_range.1 hk,e⟩)
theorem zpP (c:ChD) (j:Nat) (p:Int×Int):(zes c j p).length<=j:=by
 unfold zes
 exact Nat.le_trans (List.length_filter_le ..) (by simp)
def idxP (p:Int×Int):List (Int×Int)->Nat->Option Nat
 | [],_=>none
 | q::l,i=>if p=q then some i else idxP p l (i+1)
theorem zhd {p:Int×Int} : ∀ {l:List (Int×Int)} {i n:Nat},idxP p l i=some n->i<=n/\l[n-i]? =some p
 | [],i,n,h=>by simp [idxP] at h
 | q::l,i,n,h=>by
   unfold idxP at h
   split at h
   ·rename_i e
    obtain rfl:i=n:=by simpa using h
    simp [e]
   ·obtain⟨h1,h2⟩:=zhd h
    refine⟨by omega, ?_⟩
    rw [show n-i=(n-(i+1))+1 by omega,List.getElem?_cons_succ]
    exact h2
theorem zfg {p:Int×Int} : ∀ {l:List (Int×Int)} {i:Nat},idxP p l i=none->p∉l
 | [],i,h=>by simp
 | q::l,i,h=>by
   unfold idxP at h
   split at h
   ·cases h
   ·rename_i e
    rw [List.mem_cons]
    exact fun hh=>hh.elim e (zfg h)
theorem ztx {c:ChD} (i:Int) (s:Str8) (h:s=[]\/s∈evL c):atL c i (evI c s)=(List.range c.trans.length).filter fun k=>match c.trans[k]? with | some t=>decide (t.src=i/\t.event=s) | none=>false:=by
 unfold atL zes
 apply List.filter_congr
 intro k hk
 have hk:=List.mem_range.1 hk
 have hs:c.trans[k]? =some c.trans[k]:=List.getElem?_eq_getElem hk
 unfold zb5
 rw [hs]
 simp only [Prod.mk.injEq]
 congr 1
 generalize ht:c.trans[k]=t at*
 have htm:t∈c.trans:=List.mem_of_getElem? hs
 apply propext
 refine and_congr_right fun _=>⟨fun e=> ?_,fun e=>by rw [e]⟩
 rcases h with rfl | h
 ·rw [zml] at e
  by_cases hn:t.event=[]
  ·exact hn
  ·obtain⟨k,h1,_⟩:=zk2 (zns.2 ⟨hn,t,htm,rfl⟩)
   omega
 ·obtain⟨k,h1,_⟩:=zk2 h
  by_cases hn:t.event=[]
  ·rw [hn,zml] at e; omega
  ·exact zuz (zns.2 ⟨hn,t,htm,rfl⟩) h e
end
section
theorem zm2 (env:Env) (s:List UInt8):Con Tryz.prog env 210 [Sg s] (B false):=by
 refine zaa Tryz.func210 rfl Tryz.call210 (by rw [Tryz.ntmps210]; simp) ?_
 rw [Tryz.ntmps210,Tryz.results210]
 repeat refine st0 ?_
 exact aR0
theorem zsk (env:Env) (s:List UInt8):Con Tryz.prog env 265 [Sg s] (B false):=by
 refine zaa Tryz.func265 rfl Tryz.call265 (by rw [Tryz.ntmps265]; simp) ?_
 rw [Tryz.ntmps265,Tryz.results265]
 repeat refine st0 ?_
 exact aR0
theorem zqv (env:Env) (s t:List UInt8):Con Tryz.prog env 209 [Sg s,Sg t] (B (Op.bytesLess s t)):=by
 have f0:=zsk env s
 refine zaa Tryz.func209 rfl Tryz.call209 (by rw [Tryz.ntmps209]; simp) ?_
 rw [Tryz.ntmps209,Tryz.results209]
 repeat (first | refine st0 ?_ | refine cC0 f0 ?_)
 exact aR0
theorem zmv (env:Env) (l:List (List UInt8)) (x:List UInt8) (p:Nat) (hp:Cut l x p) (hl:l.length<=1000000):Con Tryz.prog env 132 [.seq 1 (l.map zc0),Sg x] (.tuple [I p,B (l[p]? == some x)]):=by
 have f0:=zm2 env x
 refine zaa Tryz.func132 rfl Tryz.call132 (by rw [Tryz.ntmps132]; simp) ?_
 rw [Tryz.ntmps132,Tryz.results132]
 repeat refine st0 ?_
 refine zac (D:=Nat×Nat) (fun d _=>[(0, .seq 1 (l.map zc0)),(1,Sg x),(6,I l.length),(7,I d.1),(8,I d.2)]) (fun _ _=>[]) (fun d _ _=>d.1<=p/\p<=d.2/\d.2<=l.length) (fun d=>d.2-d.1) (0,l.length) ?_ ?_ ?_ ?_
 ·exact⟨Nat.zero_le _,hp.1,Nat.le_refl _⟩
 ·(simp only [go_sem])
 ·(simp only [go_sem])
 rintro⟨i,j⟩ ws esc ⟨h1,h2,h3⟩
 simp only at h1 h2 h3
 by_cases hlt:i<j
 ·have g1:=nlt hlt
  have hm:(i+j)/2<l.length:=by omega
  obtain⟨y,hy⟩: ∃y,l[(i+j)/2]? =some y:=⟨l[(i+j)/2],List.getElem?_eq_getElem hm⟩
  have hyp:=hp.2 _ _ hy
  have f1:=zqv env y x
  have g2:IntKind.i64.wrap ((i:Int)+(j:Int))=((i+j:Nat):Int):=by rw [zaC (by omega) (by omega)]; omega
  have g3:IntKind.u64.wrap ((i+j:Nat):Int)=((i+j:Nat):Int):=IntWalk.u64_in _ (by omega)
  have g4:IntKind.i64.wrap (((i+j:Nat):Int).fdiv (2^min 1 64))=(((i+j)/2:Nat):Int):=by
   rw [show ((i+j:Nat):Int).fdiv (2^min 1 64)=(((i+j)/2:Nat):Int) from(Int.ofNat_fdiv (i+j) 2).symm,zaC (by omega) (by omega)]
  have g5:(((i+j)/2:Nat):Int)< (l.length:Int):=by omega
  have g6:=zab (k:=(i+j)/2) (n:=l.length) hm (by omega)
  generalize hmm:(i+j)/2=mm at*
  cases hb:Op.bytesLess y x with
  | true=>
    rw [hb] at f1 hyp
    have:=hyp.1 rfl
    have F:=ai g1<|ai g2<|ai g3<|ai g4<|ai g5<|ai g6<|ai hy<|zc0.eq_1
    repeat (first | refine st ?_ | refine cC f1 ?_)
    refine⟨(mm+1,j),⟨?_, ?_, ?_⟩, ?_, ?_, ?_⟩
    ·simp only; omega
    ·exact h2
    ·exact h3
    ·(simp only [go_sem,F])
    ·(simp only [go_sem,F])
    ·simp only; omega
  | false=>
    rw [hb] at f1 hyp
    have: ¬mm<p:=fun h=>by cases hyp.2 h
    have F:=ai g1<|ai g2<|ai g3<|ai g4<|ai g5<|ai g6<|ai hy<|zc0.eq_1
    repeat (first | refine st ?_ | refine cC f1 ?_)
    refine⟨(i,mm),⟨?_, ?_, ?_⟩, ?_, ?_, ?_⟩
    ·exact h1
    ·simp only; omega
    ·simp only; omega
    ·(simp only [go_sem,F])
    ·(simp only [go_sem,F])
    ·simp only; omega
 ·obtain rfl:i=j:=by omega
  obtain rfl:i=p:=by omega
  have g1: ¬(i:Int)< (i:Int):=by omega
  by_cases hi:i<l.length
  ·have g2:=nlt hi
   obtain⟨y,hy⟩: ∃y,l[i]? =some y:=⟨l[i],List.getElem?_eq_getElem hi⟩
   have f1:=zm2 env y
   cases hb:(y==x) with
   | true=>
     have hr:(l[i]? == some x)=true:=by rw [hy]; simpa using hb
     rw [hr]
     have F:=ai g1<|ai g2<|ai hy<|ai hb<|zc0.eq_1
     repeat (first | refine st ?_ | refine cC f0 ?_ | refine cC f1 ?_)
     exact aR
   | false=>
     have hr:(l[i]? == some x)=false:=by rw [hy]; simpa using hb
     rw [hr]
     have F:=ai g1<|ai g2<|ai hy<|ai hb<|zc0.eq_1
     repeat (first | refine st ?_ | refine cC f0 ?_ | refine cC f1 ?_)
     exact aR
  ·have g2: ¬(i:Int)< (l.length:Int):=by omega
   have hr:(l[i]? == some x)=false:=by rw [List.getElem?_eq_none (by omega)]; rfl
   rw [hr]
   have F:=ai g1<|ai g2<|zc0.eq_1
   repeat (first | refine st ?_ | refine cC f0 ?_)
   exact aR
end
section
theorem zfO (env:Env) (c:ChD) (h:Full c): ∀(n i:Nat),i<c.states.length->c.states.length<=i+n->Con Tryz.prog env 54 [.agg (chAV c),I i] (.own 3 1 ((bgL c i).map zad))
 | 0,i,hi,hn=>by omega
 | n+1,i,hi,hn=>by
   have hlen:=h.few
   obtain⟨s,hs⟩: ∃s,c.states[i]? =some s:=⟨c.states[i],List.getElem?_eq_getElem hi⟩
   have hb:=zuU h hs
   have hbl:=ztv h hi
   have g0:((i:Nat):Int)< (c.states.length:Int):=by omega
   by_cases e1:s.kind=1
   ·by_cases e2:0<=s.initial
    ·obtain⟨j,hj,e3⟩:=zl7 h hs e1 e2
     have hg:=za5 h.toRight (zaW hj).1
     rw [if_pos ⟨e1,e2⟩,e3,Int.toNat_natCast] at hb
     have f0:=zfO env c h n j (by omega) (by omega)
     rw [hb] at hbl
     have hf:Fits (1+(bgL c j).length) 8:=zai (by simp at hbl; omega) (by omega)
     rw [hb]
     refine zaa Tryz.func54 rfl Tryz.call54 (by rw [Tryz.ntmps54]; simp) ?_
     rw [Tryz.ntmps54,Tryz.results54]
     have F:=ai chAV.eq_1<|ai stAV.eq_1<|ai hs<|ai e1<|ai e3<|ai g0<|ai zad.eq_1<|hf
     repeat (first | refine st ?_ | refine cC f0 ?_)
     exact aR
    ·rw [if_neg fun e=>e2 e.2,if_neg (by omega)] at hb
     rw [hb]
     refine zaa Tryz.func54 rfl Tryz.call54 (by rw [Tryz.ntmps54]; simp) ?_
     rw [Tryz.ntmps54,Tryz.results54]
     have F:=ai chAV.eq_1<|ai stAV.eq_1<|ai hs<|ai e1<|ai e2<|ai g0<|zad.eq_1
     repeat refine st ?_
     exact aR
   ·rw [if_neg fun e=>e1 e.1] at hb
    have e1':(s.kind==1)=false:=by simpa using e1
    by_cases e2:s.kind=2
    ·rw [if_pos e2] at hb
     have f1:=zc9 env c i (by omega)
     generalize hK:kidsL c i true=K at*
     have hKm: ∀k∈K,i<k/\k<c.states.length:=fun k hk=>by
      rw [<-hK] at hk
      have:=za5 h.toRight (zaW hk).1
      omega
     have hKl:K.length<=32:=by
      have:=(zcD c i true).length_le_of_subset (l₂:=List.range c.states.length) fun m hm=>List.mem_range.2 (hKm m (hK ▸ hm)).2
      rw [hK] at this
      simp at this
      omega
     have hpre: ∀j,(i::(K.take j).flatMap (bgL c)).length<=32:=fun j=>by
      have e:(K.take j).flatMap (bgL c)++(K.drop j).flatMap (bgL c)=K.flatMap (bgL c):=by rw [<-List.flatMap_append,List.take_append_drop]
      have:=congrArg List.length e
      rw [hb] at hbl
      simp only [List.length_cons,List.length_append] at*
      omega
     refine zaa Tryz.func54 rfl Tryz.call54 (by rw [Tryz.ntmps54]; simp) ?_
     rw [Tryz.ntmps54,Tryz.results54]
     have F:=ai chAV.eq_1<|ai stAV.eq_1<|ai hs<|ai e1'<|ai e2<|ai g0<|zad.eq_1
     repeat (first | refine st ?_ | refine cC f1 ?_)
     refine zac (D:=Nat) (fun j vs=>[(2, .loc 2 (vs 2) 0 0),(5, .row 10 (vs 10)),(37, .row 37 (vs 37)),(38,I K.length),(39,I j)]) (fun j _=>[(2,⟨5,[chAV c],26,false⟩),(10,⟨1,(i::(K.take j).flatMap (bgL c)).map zad,3,true⟩),(37,⟨1,K.map zad,3,true⟩)]) (fun j _ esc=>j<=K.length/\esc 10=false) (fun j=>K.length-j) 0 ?_ ?_ ?_ ?_
     ·exact⟨Nat.zero_le _,rfl⟩
     ·(simp only [go_sem,F])
     ·have F:=ai chAV.eq_1<|zad.eq_1
      (simp only [go_sem,List.flatMap_nil,F])
     rintro j ws esc ⟨hj,e0⟩
     by_cases hlt:j<K.length
     ·obtain⟨k,hk⟩: ∃k,K[j]? =some k:=⟨K[j],List.getElem?_eq_getElem hlt⟩
      have hkm:=hKm k (List.mem_of_getElem? hk)
      have q1:=nlt hlt
      have q2:=zab hlt (by omega)
      have f0:=zfO env c h n k (by omega) (by omega)
      have htk:(K.take (j+1)).flatMap (bgL c)=(K.take j).flatMap (bgL c)++bgL c k:=by rw [List.take_add_one,hk,List.flatMap_append]; simp
      have hp:=hpre (j+1)
      rw [htk] at hp
      have hf:Fits (((K.take j).flatMap (bgL c)).length+1+(bgL c k).length) 8:=zai (by simp only [List.length_cons,List.length_append] at hp; omega) (by omega)
      have F:=ai chAV.eq_1<|ai zad.eq_1<|ai hk<|ai q1<|ai q2<|ai hf<|e0
      repeat (first | refine st ?_ | refine cC f0 ?_)
      refine⟨j+1,⟨hlt,by simp only [go_sem,e0]⟩, ?_, ?_,by omega⟩
      ·(simp only [go_sem,F])
      ·have F:=ai chAV.eq_1<|ai zad.eq_1<|htk
       (simp only [go_sem,List.map_append,F])
     ·obtain rfl:j=K.length:=by omega
      have q1: ¬(K.length:Int)< (K.length:Int):=by omega
      have hta:K.take K.length=K:=List.take_length
      rw [hb]
      have F:=ai zad.eq_1<|ai q1<|ai hta<|e0
      repeat refine st ?_
      exact aR
    ·rw [if_neg e2] at hb
     have e2':(s.kind==2)=false:=by simpa using e2
     rw [hb]
     refine zaa Tryz.func54 rfl Tryz.call54 (by rw [Tryz.ntmps54]; simp) ?_
     rw [Tryz.ntmps54,Tryz.results54]
     have F:=ai chAV.eq_1<|ai stAV.eq_1<|ai hs<|ai e1'<|ai e2'<|ai g0<|zad.eq_1
     repeat refine st ?_
     exact aR
theorem zkV (env:Env) (c:ChD) (hc:c.trans.length<=1000000) (x y:AV) (s:List UInt8):Con Tryz.prog env 52 [.ref 9 [[Sg c.name,I c.initial,varsAV c.vars,stsAV c.states,trsAV c.trans,zaq c, .seq 1 ((evL c).map zc0),x,y]] 0 0,Sg s] (I (evI c s)):=by
 have hl:=zt4 c
 have f0:=zmv env (evL c) s (posL (evL c) s) (zlS (zmj c) s) (by omega)
 unfold evI
 by_cases h:(evL c)[posL (evL c) s]? =some s
 ·have hb:((evL c)[posL (evL c) s]? == some s)=true:=by simpa using h
  rw [hb] at f0
  rw [if_pos h]
  refine zaa Tryz.func52 rfl Tryz.call52 (by rw [Tryz.ntmps52]; simp) ?_
  rw [Tryz.ntmps52,Tryz.results52]
  repeat (first | refine st0 ?_ | refine cC0 f0 ?_)
  exact aR0
 ·have hb:((evL c)[posL (evL c) s]? == some s)=false:=by simpa using h
  rw [hb] at f0
  rw [if_neg h]
  refine zaa Tryz.func52 rfl Tryz.call52 (by rw [Tryz.ntmps52]; simp) ?_
  rw [Tryz.ntmps52,Tryz.results52]
  repeat (first | refine st0 ?_ | refine cC0 f0 ?_)
  exact aR0
end

end Go.Proofs.YtnbjaghjdeicmaaGreatDoor