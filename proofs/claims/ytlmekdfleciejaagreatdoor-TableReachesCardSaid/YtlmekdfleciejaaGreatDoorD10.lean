/- The plain law of charts' trees: in a right chart parents are ahead; what is counted. No program is named here. -/
import Derived.Test.YtlmekdfleciejaaGreatDoorD9
import Derived.Test.YtlmekdfleciejaaGreatDoorProg
import Derived.Test.YtlmekdfleciejaaGreatDoorD1
import Derived.Test.YtlmekdfleciejaaGreatDoorD5
set_option maxHeartbeats 400000
namespace Go.Proofs.YtlmekdfleciejaaGreatDoor
section
open Go.RowKit
def Turned (s s2:St):Prop:= ∀(x:Ctx) (a:Act) (w:World) (m:Mem),Sim x s a w m-> ∃m',Sim x s2 a w m'
theorem Turned.refl (s:St):Turned s s:=fun _ _ _ m h=>⟨m,h⟩
theorem Turned.trans {s s2 s3:St} (h:Turned s s2) (k:Turned s2 s3):Turned s s3:=fun x a w m hh=>by
 obtain⟨m',h2⟩:=h x a w m hh
 exact k x a w m' h2
theorem Turned.less {s s2:St} (h:Less s s2):Turned s s2:=fun _ _ _ m hh=>⟨m,hh.less h⟩
theorem Turned.ren {s:St} (r r2:Nat) (row:Row) (hne:r2≠r) (hr:s.rows r=some row) (hr2:s.rows r2=none) (hrz:row.sz≠0) (hp:row.pure=true):Turned s (zcE s r r2 row):=fun _ _ _ _ hh=>⟨_,hh.ren r r2 row hne hr hr2 hrz hp⟩
theorem Turned.sees {s:St} (L:List (Nat×Nat×AV)) (hL:zhq s L):Turned s (seenSt s L):=fun _ _ _ m hh=>by
 obtain⟨S',k⟩:=hh.sees L hL
 exact⟨_,k⟩
theorem Turned.mapSee {s:St} (r:Nat) (row:Row) (hr:s.rows r=some row) (hsz:row.sz=0) (hb:row.es.all (·.all AV.bare)=true):Turned s (zma s r (.fmap row.es)):=fun _ _ _ m hh=>by
 obtain⟨S',k⟩:=hh.mapSee r row hr hsz hb
 exact⟨_,k⟩
theorem Turned.head {s:St} {F:List (Nat×AV)} {R:List (Nat×Row)} (hF:zdw s F) (hR:zcZ s R):Turned s (Go.Proofs.YtlmekdfleciejaaGreatDoor.head F R s.vs s.esc):= .less (zbl hF hR)
section
variable {P:Program} {env:Env} {nt:Nat} {Q:Exit->St->Prop} {s:St}
theorem zh8 {c:Code} (h:awp P env nt c (fun e s1=> ∃s2,Turned s1 s2/\Q e s2) s):awp P env nt c Q s:=fun ro x he hn a w m hS=>by
 refine wpIn_mono (h ro x he hn a w m hS) ?_
 rintro e a' w' ⟨s',m',⟨s2,h1,h2⟩,h3⟩
 obtain⟨m2,h4⟩:=h1 _ _ _ _ h3
 exact⟨s2,m2,h2,h4⟩
theorem zpO {c:Code} {s2:St} (ht:Turned s s2) (h:awp P env nt c Q s2):awp P env nt c Q s:=fun ro x he hn a w m hS=>by
 obtain⟨m2,h4⟩:=ht _ _ _ _ hS
 exact h ro x he hn a w m2 h4
end
def rowsAt:Nat->List Row->List (Nat×Row)
 | _,[]=>[]
 | b,r::l=>(b,r)::rowsAt (b+1) l
theorem zfk {t:Nat} : ∀ {l:List Row} {b:Nat},zav (rowsAt b l) t=if b<=t then l[t-b]? else none
 | [],b=>by simp [rowsAt,zav]
 | r::l,b=>by
   simp only [rowsAt,zav,zfk (l:=l)]
   by_cases h:t=b
   ·subst h; simp
   ·rw [if_neg h]
    by_cases h2:b<=t
    ·rw [if_pos h2,if_pos (by omega),show t-b=(t-(b+1))+1 by omega,List.getElem?_cons_succ]
    ·rw [if_neg h2,if_neg (by omega)]
theorem holdR_rowsAt {s:St} : ∀ {l:List Row} {b:Nat},(∀q r,l[q]? =some r->s.rows (q+b)=some r)->zcZ s (rowsAt b l)
 | [],b,h=>trivial
 | r::l,b,h=>⟨by have:=h 0 r rfl; rwa [Nat.zero_add] at this,holdR_rowsAt fun q r' hq=>by
    have:=h (q+1) r' (by simpa using hq)
    rwa [show q+1+b=q+(b+1) by omega] at this⟩
theorem zeN {p:Nat×Row} : ∀ {l:List Row} {b:Nat},p∈rowsAt b l-> ∃q,l[q]? =some p.2/\p.1=q+b
 | [],b,h=>by simp [rowsAt] at h
 | r::l,b,h=>by
   simp only [rowsAt,List.mem_cons] at h
   rcases h with rfl | h
   ·exact⟨0,rfl,by simp⟩
   ·obtain⟨q,h1,h2⟩:=zeN h
    exact⟨q+1,by simpa using h1,by omega⟩
end
section
open Go.RowKit
def zbe (c:Int):Bool:=decide (c=95\/(97<=c/\c<=122)\/(65<=c/\c<=90))
def zfu (c:Int):Bool:=decide (48<=c/\c<=57)
def zba (c:Int):Bool:=zbe c||zfu c||decide (c=46)
theorem zeU (c:Int) (w:World):Calls Tryz.prog 214 #[.int .u8 c] w fun e w'=>e= .returned (.bool (zbe c))/\w=w':=by
 by_cases h1:c=95
 ·subst h1
  go_enter Tryz.func214,Tryz.ntmps214
  go_wp2
  go_ret
  exact⟨rfl,rfl⟩
 have e1:(c==95)=false:=by simp [h1]
 by_cases h2:97<=c<;>by_cases h3:c<=122<;>by_cases h4:65<=c<;>by_cases h5:c<=90
 all_goals first
  |(exfalso; omega)
  |(go_enter Tryz.func214,Tryz.ntmps214
    go_wp2
    go_ret
    exact⟨by simp [zbe]; omega,rfl⟩)
theorem zoy (c:Int) (w:World):Calls Tryz.prog 241 #[.int .u8 c] w fun e w'=>e= .returned (.bool (zfu c))/\w=w':=by
 by_cases h2:48<=c
 all_goals
  go_enter Tryz.func241,Tryz.ntmps241
  go_wp2
  go_ret
  exact⟨by simp [zfu]; try omega,rfl⟩
theorem ziW (c:Int) (w:World):Calls Tryz.prog 216 #[.int .u8 c] w fun e w'=>e= .returned (.bool (zba c))/\w=w':=by
 by_cases h1:zbe c<;>by_cases h2:zfu c
 all_goals
  go_enter Tryz.func216,Tryz.ntmps216
  go_wp2_with (first
   |(go_at_call 214; refine(zeU _ _).mono ?_; rintro e w' ⟨rfl,rfl⟩)
   |(go_at_call 241; refine(zoy _ _).mono ?_; rintro e w' ⟨rfl,rfl⟩))
  go_ret
  exact⟨by simp [zba,h1,h2]<;>rfl,rfl⟩
def innerLen (l:List UInt8):Nat:=(l.takeWhile fun c=>zba c.toNat).length
theorem zgh (l:List UInt8) (k:Nat) (hk:k<=l.length) (h1: ∀j (h:j<l.length),j<k->zba l[j].toNat=true) (h2: ∀h:k<l.length,¬zba l[k].toNat=true):innerLen l=k:=by
 unfold innerLen
 induction l generalizing k with
 | nil=>simp at hk |-; omega
 | cons c l ih=>
   rw [List.takeWhile_cons]
   cases k with
   | zero=>
     rw [if_neg (show ¬zba c.toNat=true from h2 (by simp))]
     rfl
   | succ k=>
     rw [if_pos (show zba c.toNat=true from h1 0 (by simp) (by omega))]
     simp only [List.length_cons] at hk |-
     rw [ih k (by omega) (fun j h hj=>h1 (j+1) (by simpa using h) (by omega)) (fun h=>h2 (by simpa using h))]
theorem zm7 (l:List UInt8) (hl:l.length<=9223372036854775807) (w:World):
 Calls Tryz.prog 215 #[.string ⟨l.toArray⟩, .int .i64 0, .func (.func 216) #[] #[]] w fun e w'=>e= .returned (.int .i64 (innerLen l))/\w=w':=by
 go_enter Tryz.func215,Tryz.ntmps215
 go_wp2_with fail
 go_loop [1] (fun i=> ∃k:Nat,k<=l.length/\i= .int .i64 k/\ ∀j (h:j<l.length),j<k->zba l[j].toNat=true) (fun i=>l.length-(intOf i).toNat)
 case atStart=>exact⟨0,by omega,rfl,fun j _ h=>by omega⟩
 case round=>
  obtain⟨k,hk,rfl,hall⟩:=hrel
  have HA:=Lib.hid hall
  try clear hall
  by_cases hlt:k<l.length
  ·by_cases hin:zba l[k].toNat=true
   ·have hin':zba (((ByteArray.mk l.toArray)[k]'(by simpa [ByteArray.size] using hlt)).toNat)=true:=hin
    have HI:=Lib.hid hin
    try clear hin
    go_wp2_with (go_at_call 216; refine(ziW _ _).mono ?_; rintro e w' ⟨rfl,rfl⟩)
    go_round
    case rel=>
     refine⟨k+1,by omega,by go_num,fun j h hj=> ?_⟩
     rcases Nat.lt_or_ge j k with h' | h'
     ·exact HA.out j h h'
     ·obtain rfl:j=k:=by omega
      exact HI.out
    case measure=>simp [intOf]; omega
   ·have hin':zba (((ByteArray.mk l.toArray)[k]'(by simpa [ByteArray.size] using hlt)).toNat)=false:=Bool.eq_false_iff.2 hin
    have HI:=Lib.hid hin
    try clear hin
    go_wp2_with (go_at_call 216; refine(ziW _ _).mono ?_; rintro e w' ⟨rfl,rfl⟩)
    go_ret
    refine⟨?_,rfl⟩
    rw [zgh l k hk HA.out (fun _=>HI.out)]
    rfl
  ·go_wp2_with fail
   go_ret
   refine⟨?_,rfl⟩
   rw [zgh l k hk HA.out (fun h=>absurd h hlt)]
   rfl
def zaA (l:List UInt8):Bool:=decide (l.length<=32)&&(match l with | []=>false | c::_=>zbe c.toNat)&&l.all fun c=>zba c.toNat
theorem ziX (l:List UInt8):(innerLen l=l.length)↔(l.all fun c=>zba c.toNat)=true:=by
 unfold innerLen
 induction l with
 | nil=>simp
 | cons c l ih=>
   rw [List.takeWhile_cons]
   by_cases h:zba c.toNat=true
   ·rw [if_pos h]
    simp only [List.length_cons,List.all_cons,h,Bool.true_and]
    rw [<-ih]
    omega
   ·rw [if_neg h]
    simp [h]
theorem zpj (l:List UInt8) (hl:l.length<=9223372036854775807) (w:World):
 Calls Tryz.prog 177 #[.string ⟨l.toArray⟩] w fun e w'=>e= .returned (.bool (zaA l))/\w=w':=by
 cases l with
 | nil=>
   go_enter Tryz.func177,Tryz.ntmps177
   go_wp2_with fail
   go_ret
   exact⟨rfl,rfl⟩
 | cons c r=>
   generalize hL:c::r=l at*
   have hpos:0<l.length:=by rw [<-hL]; simp
   have h0:l[0]=c:=by subst hL; rfl
   have hne:l.isEmpty=false:=by rw [<-hL]; rfl
   have hN:zaA l=(decide (l.length<=32)&&zbe c.toNat&&decide ((innerLen l:Int)=l.length)):=by
    subst hL
    simp only [zaA]
    congr 1
    rw [Bool.eq_iff_iff, <-ziX]
    simp only [decide_eq_true_eq]
    omega
   have HN:=Lib.hid hN
   try clear hN hL
   by_cases h32:l.length<=32
   ·by_cases hc:zbe c.toNat=true
    ·have hc':zbe (((ByteArray.mk l.toArray)[0]'(by simpa [ByteArray.size] using hpos)).toNat)=true:=by rw [zpZ l 0 hpos,h0]; exact hc
     have HC:=Lib.hid hc
     try clear hc h0
     go_enter Tryz.func177,Tryz.ntmps177
     go_wp2_with (first
      |(go_at_call 214; refine(zeU _ _).mono ?_; rintro e w' ⟨rfl,rfl⟩)
      |(go_at_call 215; refine(zm7 l hl _).mono ?_; rintro e w' ⟨rfl,rfl⟩))
     go_ret
     rw [HN.out]
     refine⟨?_,rfl⟩
     simp [h32,HC.out]
     rfl
    ·have hc':zbe (((ByteArray.mk l.toArray)[0]'(by simpa [ByteArray.size] using hpos)).toNat)=false:=by rw [zpZ l 0 hpos,h0]; exact Bool.eq_false_iff.2 hc
     have HC:=Lib.hid hc
     try clear hc h0
     go_enter Tryz.func177,Tryz.ntmps177
     go_wp2_with (go_at_call 214; refine(zeU _ _).mono ?_; rintro e w' ⟨rfl,rfl⟩)
     go_ret
     rw [HN.out]
     exact⟨by simp [HC.out],rfl⟩
   ·go_enter Tryz.func177,Tryz.ntmps177
    go_wp2_with fail
    go_ret
    rw [HN.out]
    exact⟨by simp [h32]; try omega,rfl⟩
/-! The document's -/
end
section
open Go.RowKit
/-! Expressions -/
def zaf (k:Int):Int:=if 1<=k/\k<=4 then 0 else if k=5\/k=6 then 1 else if 7<=k/\k<=19 then 2 else -1
theorem zff (k:Int): -1<=zaf k/\zaf k<=2:=by
 unfold zaf
 repeat' split
 all_goals omega
def numB (o:OpD) (vs ss:Int):Bool:=if o.kind=1 then decide (0<=o.n/\o.n<=2147483647) else if o.kind=2 then decide (0<=o.n/\o.n<vs) else if o.kind=4 then decide (0<=o.n/\o.n<ss) else decide (o.n=0)
def zec (vs ss n:Int) (o:OpD):Bool:=decide (0<=zaf o.kind)&&decide (zaf o.kind<=n)&&numB o vs ss
def hgt (vs ss:Int):List OpD->Int->Option Int
 | [],n=>some n
 | o::l,n=>if zec vs ss n o then hgt vs ss l (n-zaf o.kind+1) else none
def zeZ (l:List OpD) (vs ss:Int):Int:=if 32<l.length then 8 else if hgt vs ss l 0=some 1 then 0 else 1
def zaK (l:List OpD) (vs ss:Int):Bool:=zeZ l vs ss==0
theorem zld {vs ss:Int} {l:List OpD} {k:Nat} {o:OpD} {n:Int} (h:l[k]? =some o) (hn:hgt vs ss l 0=hgt vs ss (l.drop k) n):(zec vs ss n o=true->hgt vs ss l 0=hgt vs ss (l.drop (k+1)) (n-zaf o.kind+1))/\(zec vs ss n o=false->hgt vs ss l 0=none):=by
 have hk:k<l.length:=(List.getElem?_eq_some_iff.1 h).1
 have he:l.drop k=o::l.drop (k+1):=by
  rw [List.drop_eq_getElem_cons hk]
  congr 1
  rw [List.getElem?_eq_getElem hk] at h
  exact Option.some.inj h
 rw [he] at hn
 simp only [hgt] at hn
 exact⟨fun e=>by rw [hn,if_pos e],fun e=>by rw [hn,if_neg (by rw [e]; simp)]⟩
theorem zn2 {vs ss:Int} {l:List OpD} {k:Nat} {n:Int} (h:l.length<=k) (hn:hgt vs ss l 0=hgt vs ss (l.drop k) n):hgt vs ss l 0=some n:=by
 rw [hn,List.drop_eq_nil_of_le h]
 rfl
/-! Actions, states -/
def actB (nv ns:Int) (a:ActD):Bool:=
 if a.kind=1 then decide (0<=a.n/\a.n<nv)&&(a.name == [])&&zaK a.code nv ns
 else if a.kind=2\/a.kind=4 then(a.n==0)&&zaA a.name&&zaK a.code nv ns
 else if a.kind=3 then(a.n==0)&&(a.name == [])&&zaK a.code nv ns
 else if a.kind=5 then(a.n==0)&&zaA a.name&&(a.code == [])
 else false
def zbE (nv ns:Int) (l:List ActD):Bool:=decide (l.length<=32)&&l.all (actB nv ns)
def zbV (s:StD):Bool:=(s.kind==1)||(s.kind==2)
def zat (s:StD):Bool:=(s.kind==4)||(s.kind==5)
def zbL (c:ChD) (i:Int) (real:Bool) (k:Nat):Bool:=match c.states[k]? with
 | some s=>(s.parent==i)&&(!real|| !zat s)
 | none=>false
def zaT (c:ChD) (i:Int) (real:Bool) (n:Nat):List Nat:=(List.range n).filter (zbL c i real)
def kidsL (c:ChD) (i:Int) (real:Bool):List Nat:=zaT c i real c.states.length
theorem zgg (c:ChD) (i:Int) (real:Bool) (k:Nat):zaT c i real (k+1)=zaT c i real k++if zbL c i real k then [k] else []:=by
 unfold zaT
 rw [List.range_succ,List.filter_append]
 congr 1
 simp only [List.filter_cons,List.filter_nil]
theorem zaX (c:ChD) (i:Int) (real:Bool) (k:Nat):(zaT c i real k).length<=k:=by
 have:=List.length_filter_le (zbL c i real) (List.range k)
 simpa [zaT] using this
theorem zep {c:ChD} {i:Int} {real:Bool} {k n:Nat} (h:k∈zaT c i real n):k<n/\zbL c i real k=true:=by
 simpa [zaT,List.mem_filter] using h
def zci (c:ChD) (name:List UInt8):Nat->Int
 | 0=> -1
 | k+1=>if zci c name k= -1 then(match c.states[k]? with
   | some s=>if s.name=name then(k:Int) else -1
   | none=> -1) else zci c name k
def zgP (c:ChD) (name:List UInt8):Int:=zci c name c.states.length
theorem zkr (c:ChD) (name:List UInt8) {k:Nat} (h:zci c name k≠ -1): ∀n,k<=n->zci c name n=zci c name k:=by
 intro n hn
 induction n with
 | zero=>obtain rfl:k=0:=by omega
         rfl
 | succ n ih=>
   by_cases e:k=n+1
   ·rw [e]
   ·have:=ih (by omega)
    simp only [zci]
    rw [this,if_neg h]
theorem zjd (c:ChD) (name:List UInt8) {k:Nat} (hk:k<c.states.length) (hn:zci c name k= -1) (s:StD) (hs:c.states[k]? =some s) (he:s.name=name):zgP c name=k:=by
 have h1:zci c name (k+1)=k:=by
  simp only [zci,if_pos hn,hs,if_pos he]
 unfold zgP
 rw [zkr c name (k:=k+1) (by rw [h1]; omega) _ hk,h1]
theorem zgo (c:ChD) (name:List UInt8) {k:Nat} (hn:zci c name k= -1) (s:StD) (hs:c.states[k]? =some s) (he:s.name≠name):zci c name (k+1)= -1:=by
 simp only [zci,if_pos hn,hs,if_neg he]
def zax (p:Nat->Bool) (n:Nat):Option Nat:=(List.range n).find? fun k=> !p k
theorem zaH {p:Nat->Bool} {n:Nat} (h: ∀j,j<n->p j=true):zax p n=none:=by
 unfold zax
 rw [List.find?_eq_none]
 intro x hx
 simp [h x (by simpa using hx)]
theorem zbf {p:Nat->Bool} {n k:Nat} (hk:k<n) (h: ∀j,j<k->p j=true) (hb:p k=false):zax p n=some k:=by
 unfold zax
 have e:List.range n=List.range k++(k::(List.range (n-k-1)).map (k+1+ ·)):=by
  have:n=k+(n-k):=by omega
  rw [this,List.range_add]
  congr 1
  have e2:k+(n-k)-k-1+1=n-k:=by omega
  have:n-k=(n-k-1)+1:=by omega
  rw [show k+(n-k)-k-1=n-k-1 by omega,this,List.range_succ_eq_map,List.map_cons,List.map_map]
  simp only [Nat.add_zero,Nat.add_sub_cancel,List.cons.injEq,true_and]
  apply List.map_congr_left
  intro a _
  simp only [Function.comp]
  omega
 rw [e,List.find?_append]
 have h1:(List.range k).find? (fun k=> !p k)=none:=zaH h
 rw [h1]
 simp [hb]
/-! What is right -/
def at_ (c:ChD) (i:Int):Option StD:=if 0<=i then c.states[i.toNat]? else none
def zar (c:ChD) (i:Int):Bool:=match at_ c i with
 | some q=>zbV q
 | none=>false
def zaC (c:ChD) (i:Nat) (s:StD):Bool:=(s.parent == -1)||(decide (0<=s.parent)&&decide (s.parent<i)&&zar c s.parent)
def zaB (c:ChD) (s:StD):Bool:=match at_ c s.parent with
 | some q=>q.kind==1
 | none=>false
def inL (l:List Nat) (n:Int):Bool:=l.any fun k=>(k:Int)==n
def zan (c:ChD) (i:Nat) (s:StD):Bool:=
 if s.kind=1 then(if kidsL c i true=[] then s.initial == -1 else inL (kidsL c i true) s.initial)
 else if s.kind=2 then((kidsL c i true).all fun k=>zar c k)&&decide (0< (kidsL c i true).length)&&(s.initial == -1)
 else if s.kind=3 then(kidsL c i false == [])&&((s.parent == -1)||zaB c s)&&(s.initial == -1)&&(s.out == [])
 else if s.kind=4\/s.kind=5 then(kidsL c i false == [])&&zaB c s&&inL (kidsL c s.parent true) s.initial&&(s.inn == [])&&(s.out == [])
 else false
def zap (c:ChD) (i:Nat) (s:StD):Bool:=zaA s.name&&(zgP c s.name==(i:Int))&&zaC c i s&&zan c i s&&zbE c.vars.length c.states.length s.inn&&zbE c.vars.length c.states.length s.out
def zfy (c:ChD) (i:Nat):Bool:=match c.states[i]? with
 | some s=>zap c i s
 | none=>false
def newVar (c:ChD) (name:List UInt8) (i:Nat):Bool:=(c.vars.take i).all fun x=> !(x.name==name)
def varB (c:ChD) (i:Nat) (v:VarD):Bool:=newVar c v.name i&&zaA v.name&& !(v.name == [100,97,116,97])&& !(v.name == [105,110])&&decide (-2147483647<=v.start)&&decide (v.start<=2147483647)
def zeA (c:ChD) (i:Nat):Bool:=match c.vars[i]? with
 | some v=>varB c i v
 | none=>false
def zcq (c:ChD) (t:TrD):Bool:=zar c t.src&&((t.event == [])||zaA t.event)&&((t.guard == [])||zaK t.guard c.vars.length c.states.length)&&zbE c.vars.length c.states.length t.acts&&((t.target == -1)||(decide (0<=t.target)&&decide (t.target<c.states.length)))
def zh6 (c:ChD) (i:Nat):Bool:=match c.trans[i]? with
 | some t=>zcq c t
 | none=>false
def topB (c:ChD):Bool:=match at_ c c.initial with
 | some q=>(q.parent == -1)&&zbV q
 | none=>false
def chk (c:ChD):Int×Int:=
 if 32<c.states.length\/64<c.trans.length\/8<c.vars.length then(8, -1)
 else if c.states=[]\/zaA c.name=false then(1, -1)
 else match zax (zeA c) c.vars.length with
  | some i=>(1,2000+i)
  | none=>match zax (zfy c) c.states.length with
    | some i=>(1,i)
    | none=>if topB c=false then(1, -1) else match zax (zh6 c) c.trans.length with
      | some i=>(1,1000+i)
      | none=>(0, -1)
end
section
theorem zam {α:Type} {l:List α} {i:Nat} (h:i<l.length): ∃x,l[i]? =some x/\x∈l:=⟨l[i],List.getElem?_eq_getElem h,List.getElem_mem h⟩
end
section
open Go.RowKit
structure Right (c:ChD):Prop where
 few:c.states.length<=32
 par: ∀(k:Nat) (s:StD),c.states[k]? =some s-> -1<=s.parent/\s.parent<k
 top: ∃(m:Nat) (q:StD),c.initial=m/\c.states[m]? =some q/\q.parent= -1
theorem zbQ {p:Nat->Bool} {n:Nat} (h:zax p n=none) (j:Nat) (hj:j<n):p j=true:=by
 unfold zax at h
 rw [List.find?_eq_none] at h
 simpa using h j (by simpa using hj)
theorem zkT {c:ChD} (h:(chk c).1=0):Right c:=by
 unfold chk at h
 split at h
 ·simp at h
 rename_i h1
 split at h
 ·simp at h
 split at h
 ·simp at h
 split at h
 ·simp at h
 rename_i h3
 split at h
 ·simp at h
 rename_i h4
 refine⟨by omega,fun k s hs=> ?_, ?_⟩
 ·have hk:k<c.states.length:=(List.getElem?_eq_some_iff.1 hs).1
  have:=zbQ h3 k hk
  unfold zfy at this
  rw [hs] at this
  have hp:zaC c k s=true:=by
   simp only [zap,Bool.and_eq_true] at this
   exact this.1.1.1.2
  simp only [zaC,Bool.or_eq_true,Bool.and_eq_true,decide_eq_true_eq,beq_iff_eq] at hp
  omega
 ·have ht:topB c=true:=by simpa using h4
  unfold topB at ht
  split at ht
  ·rename_i q hq
   simp only [Bool.and_eq_true,beq_iff_eq] at ht
   unfold at_ at hq
   split at hq
   ·rename_i h0
    exact⟨c.initial.toNat,q,by omega,hq,ht.1⟩
   ·cases hq
  ·cases ht
def low (c:ChD) (n:Nat) (k:Nat):Bool:=match c.states[k]? with
 | some s=>decide (s.parent+1<n)&& !zat s
 | none=>false
theorem zp1 {c:ChD} {i:Int} {k:Nat} (h:k∈kidsL c i true): ∃s,c.states[k]? =some s/\s.parent=i/\zat s=false/\k<c.states.length:=by
 obtain⟨h1,h2⟩:=zep h
 obtain⟨s,hs,_⟩:=zam h1
 unfold zbL at h2
 rw [hs] at h2
 simp at h2
 exact⟨s,hs,h2.1,h2.2,h1⟩
theorem zqU {c:ChD} {i:Int} {k:Nat} {s:StD} (hs:c.states[k]? =some s) (hp:s.parent=i) (hm:zat s=false):k∈kidsL c i true:=by
 have hk:k<c.states.length:=(List.getElem?_eq_some_iff.1 hs).1
 unfold kidsL zaT
 rw [List.mem_filter]
 refine⟨by simpa using hk, ?_⟩
 unfold zbL
 rw [hs]
 simp [hp,hm]
end

end Go.Proofs.YtlmekdfleciejaaGreatDoor