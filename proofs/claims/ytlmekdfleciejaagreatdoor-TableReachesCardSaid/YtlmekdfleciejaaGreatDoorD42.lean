/- Where a transition leads: the program's way. -/
import Derived.Test.YtlmekdfleciejaaGreatDoorD38
import Derived.Test.YtlmekdfleciejaaGreatDoorD40
import Derived.Test.YtlmekdfleciejaaGreatDoorD7
import Derived.Test.YtlmekdfleciejaaGreatDoorD41
set_option maxRecDepth 100000
set_option maxHeartbeats 16000000
set_option linter.unusedSimpArgs false
namespace Go.Proofs.YtlmekdfleciejaaGreatDoor
open Go.RowKit
section
def leadL (c:ChD) (tg:Int) (mem:List MemD):List Int:=match at_ c tg with
 | some s=>if zat s=true then(match mem.find? (fun m=>m.1==tg) with
   | some m=>m.2
   | none=>[s.initial]) else [tg]
 | none=>[]
theorem zjF {c:ChD} (h:Right c) {i k1 k2 m:Int} (z1:inZ c k1=true) (z2:inZ c k2=true) (p1:parZ c k1=i) (p2:parZ c k2=i) (hm:inZ c m=true) (c1:m=k1\/k1∈upL c m) (c2:m=k2\/k2∈upL c m):k1=k2:=by
 obtain⟨a,_,rfl,_⟩:=zb0 z1
 obtain⟨b,_,rfl,_⟩:=zb0 z2
 obtain⟨m,_,rfl,_⟩:=zb0 hm
 have:=zkl h (zdn.2 ⟨zaM.1 z1,p1⟩) (zdn.2 ⟨zaM.1 z2,p2⟩) (m+1) m (by omega) (zaM.1 hm) (c1.imp (by omega) id) (c2.imp (by omega) id)
 omega
theorem zlv {c:ChD} (h:Right c) {d:Int} : ∀(n:Nat) (t:Int),t<n->aboveB c d t=true-> ∃k,(k=t\/(k∈upL c t/\aboveB c d k=true))/\inZ c k=true/\parZ c k=d
 | 0,t,hn,ha=>by
   cases hh:inZ c t with
   | true=>have:=zag.1 hh; omega
   | false=>unfold aboveB at ha; rw [zbq hh] at ha; simp at ha
 | n+1,t,hn,ha=>by
   have hz:inZ c t=true:=by
    cases hh:inZ c t with
    | true=>rfl
    | false=>unfold aboveB at ha; rw [zbq hh] at ha; simp at ha
   rcases (zbg h hz).1 ha with e | e
   ·exact⟨t, .inl rfl,hz,e⟩
   ·have hp:=zbF h hz
    obtain⟨k,hk,k1,k2⟩:=zlv h n (parZ c t) (by omega) e
    refine⟨k, .inr ?_,k1,k2⟩
    rcases hk with rfl | ⟨hk,hd⟩
    ·exact⟨(zbr h hz).2 (.inl rfl),e⟩
    ·exact⟨(zbr h hz).2 (.inr hk),hd⟩
theorem zaD {c:ChD} {d x:Int} (h:aboveB c d x=true):inZ c x=true:=by
 cases hh:inZ c x with
 | true=>rfl
 | false=>unfold aboveB at h; rw [zbq hh] at h; simp at h
theorem zkH {c:ChD} (h:Right c) {a b d:Int} (h1:aboveB c a b=true) (h2:aboveB c b d=true):aboveB c a d=true:=by
 have hz:=zag.1 (zaD h2)
 unfold aboveB at*
 rw [List.contains_iff_mem] at*
 exact zdy h (c.states.length) d b a hz.2 h2 h1
theorem zjL {c:ChD} (h:Right c) {a b:Int} : ∀(n:Nat) (t:Int),t<n->a∈upL c t->b∈upL c t->a=b\/a∈upL c b\/b∈upL c a
 | 0,t,hn,ha,_=>by
   cases hh:inZ c t with
   | true=>have:=zag.1 hh; omega
   | false=>rw [zbq hh] at ha; simp at ha
 | n+1,t,hn,ha,hb=>by
   have hz:inZ c t=true:=by
    cases hh:inZ c t with
    | true=>rfl
    | false=>rw [zbq hh] at ha; simp at ha
   have hp:=zbF h hz
   rw [zbr h hz] at ha hb
   rcases ha with rfl | ha
   ·rcases hb with rfl | hb
    ·exact .inl rfl
    ·exact .inr (.inr hb)
   ·rcases hb with rfl | hb
    ·exact .inr (.inl ha)
    ·exact zjL h n _ (by omega) ha hb
theorem zqW {c:ChD} (h:Full c) {src tg:Int} (hs:inZ c src=true) (ht:inZ c tg=true):aboveB c (domE c src tg) tg=true/\domE c src tg∈upL c src/\(domE c src tg= -1\/(0<=domE c src tg/\zaL c (domE c src tg)=true)):=by
 have hr:=h.toRight
 have root: ∀ {x},inZ c x=true-> -1∈upL c x:=fun {x} hx=>zhu hr (c.states.length) x hx (zag.1 hx).2
 unfold domE
 cases hf:(upL c src).find? (domP c tg) with
 | none=>
   rw [List.find?_eq_none] at hf
   exact absurd rfl (hf _ (root hs))
 | some d=>
   have h1:=List.find?_some hf
   have h2:=List.mem_of_find?_eq_some hf
   have h3:=(zeG hr 40 _ _ h2).1
   simp only [Option.getD_some]
   unfold domP at h1
   rw [Bool.or_eq_true,decide_eq_true_eq,Bool.and_eq_true] at h1
   rcases h1 with h1 | h1
   ·have:d= -1:=by omega
    subst this
    exact⟨by unfold aboveB; rw [List.contains_iff_mem]; exact root ht,h2, .inl rfl⟩
   ·refine⟨h1.2,h2, ?_⟩
    rcases Int.lt_or_le d 0 with q | q
    ·exact .inl (by omega)
    ·exact .inr ⟨q,h1.1⟩
structure Uni (c:ChD) (d:Int) (P:List Int):Prop where
 real: ∀k∈P,∃s,at_ c k=some s/\zat s=false
 bel: ∀k∈P,aboveB c d k=true
 up: ∀k∈P,parZ c k=d\/parZ c k∈P
 one: ∀x,zaL c x=true\/x= -1-> ∀k1∈P,∀k2∈P,parZ c k1=x->parZ c k2=x->k1=k2
 has: ∃k∈P,parZ c k=d
theorem ziG {c:ChD} {x:Int} (h:zar c x=true): ∃s,at_ c x=some s/\zat s=false:=by
 obtain⟨s,hs,hk⟩:=zcH h
 refine⟨s,hs, ?_⟩
 unfold zat
 rcases hk with e | e<;>simp [e]
theorem zmQ {c:ChD} (h:Full c) {d:Int} {l:List Int} (hl: ∀x∈l,aboveB c d x=true/\ ∃s,at_ c x=some s/\zat s=false) (hne:l≠[]) (_hd: -1<=d)
 (hone: ∀x,zaL c x=true\/x= -1-> ∀k1∈upsL c l d,∀k2∈upsL c l d,parZ c k1=x->parZ c k2=x->k1=k2):Uni c d (upsL c l d):=by
 have hr:=h.toRight
 have hm:=(zdR (c:=c) (d:=d) (l:=l)).2
 have hbel: ∀k∈upsL c l d,aboveB c d k=true:=fun k hk=>by
  rcases (hm k).1 hk with hk | ⟨_,_,_,_,hk⟩
  ·exact(hl k hk).1
  ·exact hk
 refine⟨fun k hk=> ?_,hbel,fun k hk=> ?_,hone, ?_⟩
 ·rcases (hm k).1 hk with hk | ⟨i,hi,h1,h2,_⟩
  ·exact(hl k hk).2
  ·exact ziG (zhv h (c.states.length) i k (zag.1 (zaD (hl i hi).1)).2 h1 h2)
 ·have hz:=zaD (hbel k hk)
  rcases (zbg hr hz).1 (hbel k hk) with e | e
  ·exact .inl e
  ·refine .inr ((hm _).2 (.inr ?_))
   have h0:0<=parZ c k:=(zag.1 (zaD e)).1
   rcases (hm k).1 hk with hk | ⟨i,hi,h1,h2,_⟩
   ·exact⟨k,hk,(zbr hr hz).2 (.inl rfl),h0,e⟩
   ·exact⟨i,hi,zdy hr (c.states.length) i k _ (zag.1 (zaD (hl i hi).1)).2 h1 ((zbr hr hz).2 (.inl rfl)),h0,e⟩
 ·obtain⟨t,ht⟩:=List.exists_mem_of_ne_nil l hne
  obtain⟨k,hk,k1,k2⟩:=zlv hr (c.states.length) t (zag.1 (zaD (hl t ht).1)).2 (hl t ht).1
  refine⟨k,(hm k).2 ?_,k2⟩
  rcases hk with rfl | ⟨hk,e⟩
  ·exact .inl ht
  ·exact .inr ⟨t,ht,hk,(zag.1 k1).1,e⟩
theorem zmU {c:ChD} (h:Full c) {d t:Int} (ha:aboveB c d t=true) (hd: -1<=d) (hr: ∃s,at_ c t=some s/\zat s=false):Uni c d (upsL c [t] d):=by
 have hm:=(zdR (c:=c) (d:=d) (l:=[t])).2
 have hc: ∀k∈upsL c [t] d,inZ c k=true/\(t=k\/k∈upL c t):=fun k hk=>by
  rcases (hm k).1 hk with hk | ⟨i,hi,h1,h2,_⟩
  ·rw [List.mem_singleton.1 hk]; exact⟨zaD ha, .inl rfl⟩
  ·rw [List.mem_singleton.1 hi] at h1; exact⟨(zcu h.toRight h1 h2).1, .inr h1⟩
 refine zmQ h (fun x hx=>by rw [List.mem_singleton.1 hx]; exact⟨ha,hr⟩) (by simp) hd fun x _ k1 h1 k2 h2 e1 e2=> ?_
 exact zjF h.toRight (hc k1 h1).1 (hc k2 h2).1 e1 e2 (zaD ha) (hc k1 h1).2 (hc k2 h2).2
theorem zki {act:List Int} {ks:List Nat} (h:manyI act ks<=1) {a b:Int} (ha:a∈zL ks) (hb:b∈zL ks) (h1:a∈act) (h2:b∈act):a=b:=by
 rw [<-zkk] at h
 have m1:a∈(zL ks).filter fun k=>act.contains k:=List.mem_filter.2 ⟨ha,by simpa using h1⟩
 have m2:b∈(zL ks).filter fun k=>act.contains k:=List.mem_filter.2 ⟨hb,by simpa using h2⟩
 generalize (zL ks).filter (fun k=>act.contains k)=q at*
 match q,h with
 | [],_=>simp at m1
 | [x],_=>rw [List.mem_singleton.1 m1,List.mem_singleton.1 m2]
theorem zo3 {c:ChD} (h:Full c) {d p:Int} (hp:zar c p=true) {l:List Int} (hb:zmq c p l=true) (hd: -1<=d) (hdp:d=p\/aboveB c d p=true):Uni c d (upsL c l d):=by
 have hr:=h.toRight
 unfold zmq at hb
 rw [Bool.and_eq_true,Bool.and_eq_true,List.all_eq_true,List.all_eq_true] at hb
 obtain⟨⟨b1,b2⟩,b3⟩:=hb
 have hlp: ∀x∈l,aboveB c p x=true/\ ∃s,at_ c x=some s/\zat s=false:=fun x hx=>by
  have:=b2 x hx
  unfold zbt at this
  rw [Bool.and_eq_true,Bool.and_eq_true] at this
  refine⟨this.1.1, ?_⟩
  have:=this.1.2
  split at this
  ·rename_i s hs; exact⟨s,hs,by simpa using this⟩
  ·cases this
 have hdx: ∀x,aboveB c p x=true->aboveB c d x=true:=fun x hx=>by
  rcases hdp with rfl | e
  ·exact hx
  ·exact zkH hr e hx
 have hm:=(zdR (c:=c) (d:=d) (l:=l)).2
 have hz: ∀k∈upsL c l d,inZ c k=true:=fun k hk=>by
  rcases (hm k).1 hk with hk | ⟨_,_,_,_,hk⟩
  ·exact zaD (hlp k hk).1
  ·exact zaD hk
 have hpz:inZ c p=true:=by
  obtain⟨s,hs,_⟩:=zcH hp
  unfold at_ at hs
  split at hs
  ·rename_i h0
   have:=(List.getElem?_eq_some_iff.1 hs).1
   exact zag.2 ⟨h0,by omega⟩
  ·cases hs
 obtain⟨t,ht⟩:=List.exists_mem_of_ne_nil l (zna b1)
 refine zmQ h (fun x hx=>⟨hdx x (hlp x hx).1,(hlp x hx).2⟩) (zna b1) hd fun x hx k1 h1 k2 h2 e1 e2=> ?_
 have tri: ∀k∈upsL c l d,aboveB c p k=true\/p=k\/k∈upL c p:=fun k hk=>by
  rcases (hm k).1 hk with hk | ⟨i,hi,q1,q2,_⟩
  ·exact .inl (hlp k hk).1
  ·have hip:p∈upL c i:=List.contains_iff_mem.1 (hlp i hi).1
   rcases zjL hr (c.states.length) i (zag.1 (zaD (hlp i hi).1)).2 hip q1 with e | e | e
   ·exact .inr (.inl e)
   ·exact .inl (List.contains_iff_mem.2 e)
   ·exact .inr (.inr e)
 have low: ∀k,k∈upsL c l d->aboveB c p k=true->k∈deepRA c p l:=fun k hk ha=>by
  unfold deepRA
  rw [List.mem_append,zfC hr fun x hx=>zaD (hlp x hx).1,zdR.2]
  rcases (hm k).1 hk with hk | ⟨i,hi,q1,q2,_⟩
  ·exact .inl (.inl hk)
  ·exact .inl (.inr ⟨i,hi,q1,q2,ha⟩)
 have hreal: ∀k∈upsL c l d,k∈kidZ c (parZ c k):=fun k hk=>by
  obtain⟨j,s,rfl,hs,ha⟩:=zb0 (hz k hk)
  refine List.mem_map.2 ⟨j,zqU hs (zcx hs).symm ?_,rfl⟩
  rcases (hm _).1 hk with hk | ⟨i,hi,q1,q2,_⟩
  ·obtain⟨s',e,e2⟩:=(hlp _ hk).2
   rw [ha] at e; cases e; exact e2
  ·obtain⟨s',e,e2⟩:=ziG (zhv h (c.states.length) i _ (zag.1 (zaD (hlp i hi).1)).2 q1 q2)
   rw [ha] at e; cases e; exact e2
 have both: ∀ka kb,ka∈upsL c l d->kb∈upsL c l d->parZ c ka=x->parZ c kb=x->aboveB c p ka=true->ka=kb:=fun ka kb ha hb ea eb hap=>by
  have hkb:aboveB c p kb=true:=by
   have:=(zbg hr (hz ka ha)).1 hap
   rw [ea, <-eb] at this
   exact(zbg hr (hz kb hb)).2 this
  have hxd:x∈deepRA c p l:=by
   rcases (zbg hr (hz ka ha)).1 hap with e | e
   ·unfold deepRA
    rw [<-ea,e]
    simp
   ·have hx0:0<=parZ c ka:=(zag.1 (zaD e)).1
    rw [ea] at e hx0
    refine low x ((hm x).2 (.inr ?_)) e
    have hup:x∈upL c ka:=(zbr hr (hz ka ha)).2 (.inl ea.symm)
    rcases (hm ka).1 ha with q | ⟨i,hi,q1,q2,_⟩
    ·exact⟨ka,q,hup,hx0,hdx x e⟩
    ·exact⟨i,hi,zdy hr (c.states.length) i ka x (zag.1 (zaD (hlp i hi).1)).2 q1 hup,hx0,hdx x e⟩
  have hc:=b3 x hxd
  unfold zbv at hc
  cases hs:at_ c x with
  | none=>rw [hs] at hc; cases hc
  | some s=>
    have hpl:zaL c x=true:=hx.resolve_right fun e=>by rw [e] at hs; simp [at_] at hs
    rw [zcF hs] at hpl
    rw [hs] at hc
    have hk1:s.kind=1:=by simpa using hpl
    simp only [hk1] at hc
    have hle:manyI (deepRA c p l) (kidsL c x true)<=1:=by
     simp at hc
     omega
    have r1:=hreal ka ha
    have r2:=hreal kb hb
    rw [ea] at r1
    rw [eb] at r2
    exact zki hle r1 r2 (low ka ha hap) (low kb hb hkb)
 rcases tri k1 h1 with a | a
 ·exact both k1 k2 h1 h2 e1 e2 a
 ·rcases tri k2 h2 with b | b
  ·exact(both k2 k1 h2 h1 e2 e1 b).symm
  ·exact zjF hr (hz k1 h1) (hz k2 h2) e1 e2 hpz a b
theorem zpm {c:ChD} (h:Full c) {d tg:Int} (hz:inZ c tg=true) {mem:List MemD} (hm:zc3 c mem=true) (ha:aboveB c d tg=true) (hd: -1<=d):Uni c d (upsL c (leadL c tg mem) d):=by
 have hr:=h.toRight
 obtain⟨k,s,rfl,hs,hat⟩:=zb0 hz
 unfold leadL
 rw [hat]
 simp only
 by_cases hmy:zat s=true
 ·rw [if_pos hmy]
  obtain⟨q1,q2,q3,q4,q5⟩:=zqw h hs hmy
  have hdp:d=s.parent\/aboveB c d s.parent=true:=by
   have:=(zbg hr hz).1 ha
   rw [zcx hs] at this
   exact this.imp Eq.symm id
  have kidcase: ∀t∈kidZ c s.parent,Uni c d (upsL c [t] d):=fun t ht=>by
   obtain⟨t1,t2,_⟩:=zcz hr ht
   refine zmU h ((zbg hr t1).2 (by rw [t2]; exact hdp.imp Eq.symm id)) hd ?_
   obtain⟨j,hj,rfl⟩:=List.mem_map.1 ht
   obtain⟨s',e1,_,e2,_⟩:=zp1 hj
   exact⟨s',by rw [zbp]; exact e1,e2⟩
  cases hf:mem.find? (fun m=>m.1==(k:Int)) with
  | none=>
    refine kidcase _ ?_
    rcases h.cases hs with⟨e,_⟩ | ⟨e,_⟩ | ⟨e,_⟩ | ⟨_,_,_,e⟩
    ·omega
    ·omega
    ·omega
    ·obtain⟨j,hj,e⟩:=zhV.1 e
     exact List.mem_map.2 ⟨j,hj,e⟩
  | some m=>
    have e1:=List.find?_some hf
    have e2:=(zkf hm).2 m (List.mem_of_find?_eq_some hf)
    simp only [beq_iff_eq] at e1
    unfold memB at e2
    rw [e1,hat] at e2
    simp only at e2 |-
    split at e2
    ·rw [Bool.and_eq_true,decide_eq_true_eq] at e2
     obtain⟨t,ht⟩:=List.length_eq_one_iff.1 e2.1
     rw [ht] at e2 |-
     exact kidcase t (by simpa using e2.2)
    ·rw [Bool.and_eq_true,zjy h q2] at e2
     exact zo3 h q2 e2.2 hd hdp
 ·rw [if_neg hmy]
  exact zmU h ha hd ⟨s,hat,by simpa using hmy⟩
end
section
abbrev memsAV (l:List MemD):AV:= .seq 2 (l.map mmAV)
theorem zpo {s:StD} :zat s=false->s.kind≠4/\s.kind≠5:=fun h=>by
 unfold zat at h
 simpa using h
def zmi (s:StD) (k:Int) (mem:List MemD):List Int:=match mem.find? (fun m=>m.1==k) with | some m=>m.2 | none=>[s.initial]
theorem zmg {s:StD} {k:Int} {mem:List MemD} {m:MemD} (h:mem.find? (fun m=>m.1==k)=some m):zmi s k mem=m.2:=by unfold zmi; rw [h]
theorem zmh {s:StD} {k:Int} {mem:List MemD} (h:mem.find? (fun m=>m.1==k)=none):zmi s k mem=[s.initial]:=by unfold zmi; rw [h]
theorem znO (env:Env) (c:ChD) (hc:Right c) (hs:Small c) (k:Nat) (s:StD) (hsk:c.states[k]? =some s) (mem:List MemD) (hl:mem.length<=1000000) (hm: ∀m∈mem,m.2.length<=4096):Con Tryz.prog env 164 [zai c,I k,memsAV mem] (.own 3 1 ((leadL c k mem).map intAV)):=by
 have hlen:=hc.few
 have f0:=zaG env c hs
 have hk:=(List.getElem?_eq_some_iff.1 hsk).1
 have q0:((k:Nat):Int)< (c.states.length:Int):=by omega
 have hat:at_ c (k:Int)=some s:=by rw [zbp]; exact hsk
 have hlead:leadL c k mem=if zat s=true then(zmi s k mem) else [(k:Int)]:=by unfold leadL; rw [hat]; rfl
 rw [hlead]
 unfold zai at f0 |-
 cases hmy:zat s with
 | false=>
   rw [if_neg (by simp)]
   obtain⟨n4,n5⟩:=zpo hmy
   have b4:(s.kind==4)=false:=by simpa using n4
   have b5:(s.kind==5)=false:=by simpa using n5
   refine zaa Tryz.func164 rfl Tryz.call164 (by rw [Tryz.ntmps164]; simp) ?_
   rw [Tryz.ntmps164,Tryz.results164]
   have F:=ai chAV.eq_1<|ai stAV.eq_1<|ai q0<|ai hsk<|ai b4<|ai b5<|bneA
   repeat (first | refine st ?_ | refine cC f0 ?_)
   exact aR
 | true=>
   rw [if_pos rfl]
   have hk45:((s.kind==4)=true)\/((s.kind==4)=false/\(s.kind==5)=true):=by
    unfold zat at hmy
    cases h4:(s.kind==4) with
    | true=>exact .inl rfl
    | false=>rw [h4] at hmy; exact .inr ⟨rfl,by simpa using hmy⟩
   have main: ∀b4 b5:Bool,(s.kind==4)=b4->(s.kind==5)=b5->(b4=true\/b5=true)->Con Tryz.prog env 164 [.ref 9 [tabCells c] 0 0,I k,memsAV mem] (.own 3 1 ((zmi s k mem).map intAV)):=fun b4 b5 h4 h5 hb=>by
    cases b4<;>cases b5<;>(try simp at hb)<;>
    ·refine zaa Tryz.func164 rfl Tryz.call164 (by rw [Tryz.ntmps164]; simp) ?_
     rw [Tryz.ntmps164,Tryz.results164]
     have F:=ai chAV.eq_1<|ai stAV.eq_1<|ai q0<|ai hsk<|ai h4<|ai h5<|bneA
     repeat (first | refine st ?_ | refine cC f0 ?_)
     refine zab (D:=Nat) (fun j vs=>[(1,I k),(7, .loc 7 (vs 7) 0 0),(27,memsAV mem),(28,I mem.length),(29,I j)]) (fun _ _=>[(7,⟨5,[chAV c],26,false⟩)]) (fun j _ _=>j<=mem.length/\mem.find? (fun m=>m.1==(k:Int))=(mem.drop j).find? (fun m=>m.1==(k:Int))) (fun j=>mem.length-j) 0 ?_ ?_ ?_ ?_
     ·exact⟨Nat.zero_le _,rfl⟩
     ·(simp only [go_sem,F])
      try rfl
     ·have F:=chAV.eq_1
      (simp only [go_sem,F])
      try rfl
     rintro j ws esc ⟨hj,hf⟩
     by_cases hlt:j<mem.length
     ·obtain⟨x,hx⟩: ∃x,mem[j]? =some x:=⟨mem[j],List.getElem?_eq_getElem hlt⟩
      have q1:=nlt hlt
      have q2:=zac hlt (by omega)
      rw [zcL hx] at hf
      have f1:=ze0 env (x.2.map intAV) (by rw [List.length_map]; exact hm x (List.mem_of_getElem? hx))
      cases he:(x.1==(k:Int)) with
      | true=>
        rw [he] at hf
        simp only [if_true] at hf
        rw [zmg hf]
        have F:=ai mmAV.eq_1<|ai hx<|ai q1<|he
        repeat (first | refine st ?_ | refine cC f1 ?_)
        exact aR
      | false=>
        rw [he] at hf
        simp only [Bool.false_eq_true,if_false] at hf
        have F:=ai mmAV.eq_1<|ai hx<|ai q1<|ai q2<|he
        repeat (first | refine st ?_ | refine cC f1 ?_)
        refine⟨j+1,⟨hlt,hf⟩, ?_, ?_,by omega⟩
        ·(simp only [go_sem,F])
        ·have F:=chAV.eq_1
         (simp only [go_sem,F])
     ·obtain rfl:j=mem.length:=by omega
      have q1: ¬(mem.length:Int)< (mem.length:Int):=by omega
      rw [List.drop_length,List.find?_nil] at hf
      rw [zmh hf]
      have F:=ai chAV.eq_1<|ai stAV.eq_1<|ai q0<|ai q1<|hsk
      repeat (first | refine st ?_ | refine cC f0 ?_)
      exact aR
   rcases hk45 with h4 | ⟨h4,h5⟩
   ·exact main _ _ h4 rfl (.inl rfl)
   ·exact main _ _ h4 h5 (.inr rfl)
theorem zle {c:ChD} (h:Full c) {l:List Int} (hn:l.Nodup) (hz: ∀x∈l,inZ c x=true):(growL c l).length<=32:=by
 refine Nat.le_trans (zc2 (zd7 c _ _ _ hn) fun x hx=> ?_) h.toRight.few
 exact((zcV h hn).1 hx).in h hz
def tgtL (c:ChD) (src tg:Int) (mem:List MemD):List Nat:=sortL c (growL c (upsL c (leadL c tg mem) (domE c src tg)))
theorem znP {c:ChD} (h:Full c) {tg:Int} (hz:inZ c tg=true) {mem:List MemD} (hm:zc3 c mem=true):(∀x∈leadL c tg mem,inZ c x=true)/\(leadL c tg mem).length<=1000000:=by
 obtain⟨d1,_,d3⟩:=zqW h hz hz
 have hu:=zpm h hz hm d1 (by rcases d3 with e | e<;>omega)
 have h1: ∀x∈leadL c tg mem,inZ c x=true:=fun x hx=>zaD (hu.bel x ((zdR.2 x).2 (.inl hx)))
 refine⟨h1, ?_⟩
 unfold leadL
 split
 ·rename_i s hs
  split
  ·split
   ·rename_i m hf
    have e2:=(zkf hm).2 m (List.mem_of_find?_eq_some hf)
    unfold memB at e2
    split at e2
    ·split at e2
     ·rw [Bool.and_eq_true,decide_eq_true_eq] at e2; omega
     ·unfold deepB at e2
      simp only [Bool.and_eq_true] at e2
      have hr:=e2.2.1.1.1
      have hnd:m.2.Nodup:=zdE hr
      have hin: ∀x∈m.2,inZ c x=true:=fun x hx=>by
       have:=List.all_eq_true.1 e2.2.1.1.2 x hx
       unfold zb1 at this
       rw [Bool.and_eq_true] at this
       exact zaD this.1
      exact Nat.le_trans (zc2 hnd hin) (by have:=h.toRight.few; omega)
    ·cases e2
   ·simp
  ·simp
 ·simp
theorem zgR (env:Env) (c:ChD) (h:Full c) (hs:Small c) (t:TrD) (hsrc:inZ c t.src=true) (htg:inZ c t.target=true) (mem:List MemD) (hl:mem.length<=1000000) (hm: ∀m∈mem,m.2.length<=4096) (hmem:zc3 c mem=true):
 Con Tryz.prog env 106 [zai c, .agg (trAV t),memsAV mem] (.own 3 1 ((tgtL c t.src t.target mem).map zae)):=by
 have hc:=h.toRight
 obtain⟨k,s,e,hsk,_⟩:=zb0 htg
 obtain⟨l1,l2⟩:=znP h htg hmem
 obtain⟨u1,u2⟩:=zdR (c:=c) (d:=domE c t.src t.target) (l:=leadL c t.target mem)
 have u3: ∀x∈upsL c (leadL c t.target mem) (domE c t.src t.target),inZ c x=true:=fun x hx=>by
  rcases (u2 x).1 hx with h | ⟨i,_,q1,q2,_⟩
  ·exact l1 x h
  ·exact(zcu hc q1 q2).1
 have f0:=zbH env c
 have f1:=znO env c hc hs k s hsk mem hl hm
 rw [<-e] at f1
 have f2:=zhg env c hc hs t hsrc
 have f3:=zpY env c hc (leadL c t.target mem) l2 l1 (domE c t.src t.target)
 have f4:=zlf env c h hs _ u1 u3
 have f5:=zfS env c hc (growL c (upsL c (leadL c t.target mem) (domE c t.src t.target))) (by have:=zle h u1 u3; omega)
 unfold tgtL
 generalize growL c (upsL c (leadL c t.target mem) (domE c t.src t.target))=G at*
 generalize upsL c (leadL c t.target mem) (domE c t.src t.target)=U at*
 generalize leadL c t.target mem=A at*
 unfold trAV at f2
 unfold zal at f0 f5
 unfold zai at f0 f1 f2 f3 f4 |-
 refine zaa Tryz.func106 rfl Tryz.call106 (by rw [Tryz.ntmps106]; simp) ?_
 rw [Tryz.ntmps106,Tryz.results106]
 have F:=trAV.eq_1
 repeat (first | refine st ?_ | refine cC f0 ?_ | refine cC f1 ?_ | refine cC f2 ?_ | refine cC f3 ?_ | refine cC f4 ?_ | refine cC f5 ?_)
 exact aR
end

end Go.Proofs.YtlmekdfleciejaaGreatDoor