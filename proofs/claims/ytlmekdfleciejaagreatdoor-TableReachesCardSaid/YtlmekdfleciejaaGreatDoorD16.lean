/- awake of layer 24, by the contracts of what it calls: it changes a chart that it made. -/
import Derived.Test.YtlmekdfleciejaaGreatDoorD1
import Derived.Deep.Slices
import Derived.Lib.SmallJoins
import Derived.ChangeSame
import Derived.Test.YtlmekdfleciejaaGreatDoorD4
import Derived.Test.YtlmekdfleciejaaGreatDoorD5
import Derived.Test.YtlmekdfleciejaaGreatDoorD13
import Derived.Test.YtlmekdfleciejaaGreatDoorD15
import Derived.Test.YtlmekdfleciejaaGreatDoorD10
set_option maxRecDepth 100000
set_option maxHeartbeats 1000000
set_option linter.unusedSimpArgs false
namespace Go.Proofs.YtlmekdfleciejaaGreatDoor
section
open Go.RowKit Go.ChangeShapes Go.WideShapes Go.Deep
def zoW {α:Type} (size:Nat) (R:List Value->α->Prop) (xs:List Value) (l:List α):Prop:=
 xs.length=l.length*size/\ ∀i (h:i<l.length),R ((xs.drop (i*size)).take size) l[i]
def zco {α:Type} (w:World) (B size:Nat) (R:List Value->α->Prop) (v:Value) (l:List α):Prop:=
 ∃A c xs,v= .slice A l.length c/\l.length<=c/\l.length<=maxLen/\Reads w B size A l.length xs/\zoW size R xs l
theorem elem_len {α:Type} {size:Nat} {R:List Value->α->Prop} {xs:List Value} {l:List α} (h:zoW size R xs l) (i:Nat) (hi:i<l.length):((xs.drop (i*size)).take size).length=size:=by
 have h1:=h.1
 have h2:(i+1)*size<=l.length*size:=Nat.mul_le_mul_right _ (by omega)
 rw [Nat.add_mul,Nat.one_mul] at h2
 simp
 omega
theorem zco.elem {α:Type} {w:World} {B size:Nat} {R:List Value->α->Prop} {A:Option Addr} {n c:Nat} {l:List α} (h:zco w B size R (.slice A n c) l) (k:Nat) (hk:k<l.length):
 ∃b off cs,A=some ⟨b,off,none⟩/\b<B/\R cs l[k]/\cs.length=size/\ ∀j u,cs[j]? =some u->w.cell? ⟨b,off+k*size+j,none⟩=some u:=by
 obtain⟨A',c',xs,e,_,_,hr,hrow⟩:=h
 cases e
 obtain⟨b,off,rfl,hb,hc⟩:=hr.2 (by omega)
 refine⟨b,off,_,rfl,hb,hrow.2 k hk,elem_len hrow k hk,fun j u hu=> ?_⟩
 rw [Nat.add_assoc]
 apply hc
 rw [List.getElem?_take] at hu
 split at hu
 ·rw [List.getElem?_drop] at hu
  exact hu
 ·cases hu
theorem zco.form {α:Type} {w:World} {B size:Nat} {R:List Value->α->Prop} {v:Value} {l:List α} (h:zco w B size R v l): ∃A c,v= .slice A l.length c/\l.length<=c/\l.length<=maxLen:=by
 obtain⟨A,c,xs,e,h1,h2,_⟩:=h
 exact⟨A,c,e,h1,h2⟩
theorem zco.moved {α:Type} {w w':World} {B size:Nat} {R R':List Value->α->Prop} {v:Value} {l:List α} (h:zco w B size R v l) (hk: ∀b off,b<B->w'.cell? ⟨b,off,none⟩=w.cell? ⟨b,off,none⟩) (hR: ∀cs a,a∈l->R cs a->R' cs a):zco w' B size R' v l:=by
 obtain⟨A,c,xs,e,h1,h2,h3,h4⟩:=h
 exact⟨A,c,xs,e,h1,h2,h3.moved hk,h4.1,fun i hi=>hR _ _ (List.getElem_mem _) (h4.2 i hi)⟩
theorem zco.wider {α:Type} {w:World} {B B' size:Nat} {R R':List Value->α->Prop} {v:Value} {l:List α} (h:zco w B size R v l) (hB:B<=B') (hR: ∀cs a,a∈l->R cs a->R' cs a):zco w B' size R' v l:=by
 obtain⟨A,c,xs,e,h1,h2,h3,h4⟩:=h
 exact⟨A,c,xs,e,h1,h2,h3.wider hB,h4.1,fun i hi=>hR _ _ (List.getElem_mem _) (h4.2 i hi)⟩
theorem flat_len {α:Type} (f:Nat->List α) (size:Nat): ∀n,(∀i,i<n->(f i).length=size)->((List.range n).flatMap f).length=n*size
 | 0,_=>by simp
 | n+1,h=>by
   rw [List.range_succ,List.flatMap_append,List.length_append,flat_len f size n (fun i hi=>h i (by omega)),Nat.add_mul]
   simp [h n (by omega)]
theorem zdo {α:Type} (f:Nat->List α) (size:Nat): ∀n,(∀i,i<n->(f i).length=size)-> ∀i,i<n->(((List.range n).flatMap f).drop (i*size)).take size=f i
 | 0,_,i,hi=>by omega
 | n+1,h,i,hi=>by
   have hl:=flat_len f size n (fun i hi=>h i (by omega))
   rw [List.range_succ,List.flatMap_append]
   by_cases e:i=n
   ·subst e
    rw [<-hl,List.drop_left]
    simp [<-h i (by omega)]
   ·have h2:(i+1)*size<=n*size:=Nat.mul_le_mul_right _ (by omega)
    rw [Nat.add_mul,Nat.one_mul] at h2
    rw [List.drop_append_of_le_length (by omega),List.take_append_of_le_length (by rw [List.length_drop,hl]; omega)]
    exact zdo f size n (fun i hi=>h i (by omega)) i (by omega)
theorem znK {α:Type} {n:Nat} {p:Nat->α->Prop} (h: ∀i,i<n-> ∃a,p i a): ∃l:List α,l.length=n/\ ∀i (hi:i<l.length),p i l[i]:=by
 induction n with
 | zero=>exact⟨[],rfl,fun i hi=>by simp at hi⟩
 | succ n ih=>
   obtain⟨l,hl,hp⟩:=ih (fun i hi=>h i (by omega))
   obtain⟨a,ha⟩:=h n (by omega)
   refine⟨l++[a],by simp [hl],fun i hi=> ?_⟩
   by_cases e:i<l.length
   ·rw [List.getElem_append_left e]
    exact hp i e
   ·have:i=l.length:=by simp at hi; omega
    subst this
    simp
    rw [hl]
    exact ha
section
variable {H:Type} {enc:TypeId×Value->H} {P:Program} {w:World} {base:Nat} {spare:Nat->Bool} {held:Bool}
theorem open_list {α:Type} {t e:TypeId} {size fuel:Nat} {R:List Value->α->Prop} {cs:List Value} {x:DataW H×List MemPlace} (ht:P.underlying t=some (.slice e)) (hC:P.cellsOf e=size) (hpos:0<size)
 (hR: ∀(m:Nat) (cs:List Value) (y:DataW H×List MemPlace),DataW.trod enc P w base spare held m e cs=some y-> ∃a,R cs a)
 (h:DataW.trod enc P w base spare held fuel t cs=some x): ∃v l,cs=[v]/\zco w w.heap.size size R v l:=by
 rcases open_slice ht h with⟨rfl,_⟩ | ⟨a,len,cap,m,n,D,Pl,rfl,hb,hl,hm,hmm,_,hx⟩
 ·exact⟨_,[],rfl,none,0,[],rfl,Nat.le_refl _,Nat.zero_le _,Reads.empty _ _ _ _,by simp,fun i hi=>by simp at hi⟩
 have hlm:len<=m:=by rw [hmm]; split<;>omega
 rw [hC] at hx
 have hch: ∀i,∃cs':List Value,i<len->w.cells? base (a.add (i*size)) size=some cs'/\DataW.trod enc P w base spare held n e cs'=some (D i,Pl i):=fun i=>by
  by_cases hi:i<len
  ·obtain⟨cs',h1,h2⟩:=hx i (by omega)
   exact⟨cs',fun _=>⟨h1,h2⟩⟩
  ·exact⟨[],fun h=>absurd h hi⟩
 let f:Nat->List Value:=fun i=>(hch i).choose
 have hf: ∀i,i<len->w.cells? base (a.add (i*size)) size=some (f i)/\DataW.trod enc P w base spare held n e (f i)=some (D i,Pl i):=fun i hi=>(hch i).choose_spec hi
 have hfl: ∀i,i<len->(f i).length=size:=fun i hi=>(World.cells?_some (hf i hi).1).2.1
 obtain⟨l,hll,hl2⟩:=znK (n:=len) (p:=fun i a=>R (f i) a) fun i hi=>hR _ _ _ (hf i hi).2
 refine⟨_,l,rfl,some a,cap,(List.range len).flatMap f,by rw [hll],by omega,by omega,⟨by rw [hll,flat_len f size len hfl],fun hn=> ?_⟩,by rw [hll,flat_len f size len hfl],fun i hi=> ?_⟩
 ·rw [hll] at hn
  have h0:=World.cells?_some (hf 0 hn).1
  have hc0:=h0.2.2 0 hpos
  have hsp:a.spot=none:=by
   rw [Nat.zero_mul] at hc0
   have:(f 0)[0]? =some ((f 0)[0]'(by rw [hfl 0 hn]; exact hpos)):=List.getElem?_eq_getElem _
   rw [this] at hc0
   have e:(a.add 0).add 0=a:=rfl
   rw [e] at hc0
   unfold World.cell? at hc0
   cases hs:a.spot with
   | none=>rfl
   | some s=>
     rw [hs] at hc0
     split at hc0<;>simp at hc0
  obtain⟨b,off,sp⟩:=a
  simp only at hsp
  subst hsp
  have hcell: ∀j u,((List.range len).flatMap f)[j]? =some u->w.cell? ⟨b,off+j,none⟩=some u:=by
   intro j u hu
   have hj:j<len*size:=by
    rcases Nat.lt_or_ge j (len*size) with h | h
    ·exact h
    ·rw [List.getElem?_eq_none (by rw [flat_len f size len hfl]; exact h)] at hu
     cases hu
   have hq:j/size<len:=Nat.div_lt_of_lt_mul (by rw [Nat.mul_comm]; exact hj)
   have hr:j%size<size:=Nat.mod_lt _ hpos
   have hpart:=zdo f size len hfl (j/size) hq
   have e:j=j/size*size+j%size:=by rw [Nat.mul_comm]; exact(Nat.div_add_mod j size).symm
   have hget:(f (j/size))[j%size]? =some u:=by
    rw [<-hpart,List.getElem?_take,if_pos hr,List.getElem?_drop, <-e]
    exact hu
   have:=(World.cells?_some (hf _ hq).1).2.2 (j%size) hr
   rw [hget,add_plain,add_plain,Nat.add_assoc, <-e] at this
   exact this
  refine⟨b,off,rfl, ?_,hcell⟩
  have hx0:((List.range len).flatMap f)[0]? =some (((List.range len).flatMap f)[0]'(by rw [flat_len f size len hfl]; exact Nat.mul_pos hn hpos)):=List.getElem?_eq_getElem _
  exact World.block_lt_of_cell? w ⟨b,off+0,none⟩ (hcell 0 _ hx0)
 ·rw [zdo f size len hfl i (by omega)]
  exact hl2 i hi
end
/-! Elements of one cell -/
def OneR {α:Type} (f:α->Value) (cs:List Value) (a:α):Prop:=cs=[f a]
theorem zpg {α:Type} {f:α->Value} {l:List α} {xs:List Value} (h:zoW 1 (OneR f) xs l):xs=l.map f:=by
 apply List.ext_getElem
 ·simpa using h.1
 ·intro i h1 h2
  have hi:i<l.length:=by simpa using h2
  have:=h.2 i hi
  unfold OneR at this
  rw [Nat.mul_one] at this
  have h3:((xs.drop i).take 1)[0]? =some (f l[i]):=by rw [this]; rfl
  rw [List.getElem?_take,if_pos (by omega),List.getElem?_drop,Nat.add_zero,List.getElem?_eq_getElem h1] at h3
  simpa using h3
theorem zco.one {α:Type} {w:World} {B:Nat} {f:α->Value} {v:Value} {l:List α} (h:zco w B 1 (OneR f) v l): ∃A c,v= .slice A l.length c/\l.length<=c/\l.length<=maxLen/\Reads w B 1 A l.length (l.map f):=by
 obtain⟨A,c,xs,e,h1,h2,h3,h4⟩:=h
 rw [zpg h4] at h3
 exact⟨A,c,e,h1,h2,h3⟩
section
variable {H:Type} {enc:TypeId×Value->H} {P:Program} {w:World} {base:Nat} {spare:Nat->Bool} {held:Bool}
end
end
section
open Go.RowKit
def RVs (S:Nat->Nat->Prop) (w:World):List Value->List AV->Prop
 | [],[]=>True
 | v::vs,c::cs=>(v.oneCell'=true/\RV S w v c)/\RVs S w vs cs
 | _,_=>False
def RAs (S:Nat->Nat->Prop) (w:World):List Value->List AV->Prop
 | [],[]=>True
 | v::vs,c::cs=>RV S w v c/\RAs S w vs cs
 | _,_=>False
section
variable {S:Nat->Nat->Prop} {w:World}
theorem RVs.at_: ∀ {vs:List Value} {cs:List AV},RVs S w vs cs->vs.length=cs.length/\ ∀(i:Nat) (v:Value) (c:AV),vs[i]? =some v->cs[i]? =some c->v.oneCell'=true/\RV S w v c
 | [],[],_=>⟨rfl,fun i v c h _=>by simp at h⟩
 | v::vs,c::cs,⟨h,hs⟩=>by
   obtain⟨h1,h2⟩:=RVs.at_ hs
   refine⟨by simp [h1],fun i u d hu hd=> ?_⟩
   cases i with
   | zero=>
     simp only [List.getElem?_cons_zero,Option.some.injEq] at hu hd
     subst hu hd
     exact h
   | succ i=>exact h2 i u d (by simpa using hu) (by simpa using hd)
 | [],_::_,h=>h.elim
 | _::_,[],h=>h.elim
theorem RAs.at_: ∀ {vs:List Value} {cs:List AV},RAs S w vs cs->vs.length=cs.length/\ ∀(i:Nat) (v:Value) (c:AV),vs[i]? =some v->cs[i]? =some c->RV S w v c
 | [],[],_=>⟨rfl,fun i v c h _=>by simp at h⟩
 | v::vs,c::cs,⟨h,hs⟩=>by
   obtain⟨h1,h2⟩:=RAs.at_ hs
   refine⟨by simp [h1],fun i u d hu hd=> ?_⟩
   cases i with
   | zero=>
     simp only [List.getElem?_cons_zero,Option.some.injEq] at hu hd
     subst hu hd
     exact h
   | succ i=>exact h2 i u d (by simpa using hu) (by simpa using hd)
 | [],_::_,h=>h.elim
 | _::_,[],h=>h.elim
theorem RVs.agg {vs:List Value} {cs:List AV} (h:RVs S w vs cs):RV S w (.agg vs.toArray) (.agg cs):=by
 obtain⟨h1,h2⟩:=h.at_
 refine .agg vs cs h1 (fun v hv=> ?_) fun i v c hv hc=>(h2 i v c hv hc).2
 obtain⟨i,hi,rfl⟩:=List.getElem_of_mem hv
 exact(h2 i _ _ (List.getElem?_eq_getElem hi) (List.getElem?_eq_getElem (by omega))).1
theorem RV.lit_inv {v u:Value} (h:RV S w v (.lit u)):v=u:=by
 cases h; rfl
end
theorem znJ {α:Type} {w:World} {B size:Nat} {R:List Value->α->Prop} {v:Value} {l:List α} (enc:α->List AV) (hz: ∀a,(enc a).length=size) (h:zco w B size R v l)
 (hR: ∀cs a,a∈l->R cs a-> ∀(j:Nat) (u:Value) (c:AV),cs[j]? =some u->(enc a)[j]? =some c->u.oneCell'=true/\RV (fun b _=>b<B) w u c):RV (fun b _=>b<B) w v (.seq size (l.map enc)):=by
 obtain⟨A,c,xs,rfl,hc,hm,hr,hrow⟩:=h
 have hz': ∀(i:Nat) (e:List AV),(l.map enc)[i]? =some e->e.length=size:=fun i e he=>by
  rw [List.getElem?_map] at he
  cases hx:l[i]? with
  | none=>rw [hx] at he; cases he
  | some a=>rw [hx] at he; cases he; exact hz a
 have key: ∀(i j:Nat) (c:AV),cellAt (l.map enc) i j=some c-> ∃u,xs[i*size+j]? =some u/\u.oneCell'=true/\RV (fun b _=>b<B) w u c:=fun i j c hh=>by
  have hlt:=zbS hz' hh
  rw [List.length_map] at hlt
  have hj:(enc (l[i]'hlt.1))[j]? =some c:=by
   unfold cellAt at hh
   rw [List.getElem?_map,List.getElem?_eq_getElem hlt.1] at hh
   exact hh
  have hlen:=elem_len hrow i hlt.1
  have hju:((xs.drop (i*size)).take size)[j]? =some (((xs.drop (i*size)).take size)[j]'(by omega)):=List.getElem?_eq_getElem _
  refine⟨_, ?_,hR _ _ (List.getElem_mem hlt.1) (hrow.2 i hlt.1) j _ c hju hj⟩
  rw [<-hju,List.getElem?_take,if_pos hlt.2,List.getElem?_drop]
 by_cases h0:l=[]
 ·subst h0
  exact .seq A 0 c size [] 0 0 (fun _ _=>undef) rfl (Nat.zero_le _) (fun h=>by omega) (fun i e he=>by simp at he) (fun i j c hc=>by simp [cellAt] at hc) (fun i j c hc=>by simp [cellAt] at hc)
 ·obtain⟨b,off,rfl,hb,hcell⟩:=hr.2 (List.length_pos_iff.2 h0)
  refine .seq _ _ c size _ b off (fun i j=>xs.getD (i*size+j) undef) (by simp) hc (fun _=>rfl) hz' (fun i j c hh=> ?_) fun i j c hh=> ?_
  ·obtain⟨u,h1,h2,_⟩:=key i j c hh
   have:xs.getD (i*size+j) undef=u:=by simp [List.getD,h1]
   rw [this]
   exact⟨hb,hcell _ u h1,h2⟩
  ·obtain⟨u,h1,_,h2⟩:=key i j c hh
   have:xs.getD (i*size+j) undef=u:=by simp [List.getD,h1]
   rw [this]
   exact h2
end
section
open Go.RowKit
attribute [local go_sem_proc ↓] reduceIte
attribute [local go_sem_proc] reduceCtorEq Nat.reduceBEq Nat.reduceAdd Nat.reduceSub Nat.reduceEqDiff Nat.reduceLT Nat.reduceLeDiff Nat.reduceMul Int.reduceToNat Int.reduceBEq Int.reduceBNe Int.reduceEq Int.reduceLT Int.reduceLE
attribute [local go_sem] zop zjs zlo zgs zlg zeX zg2 zeY List.isEmpty_cons Array.isEmpty_iff zhd zjn zfr zgr zet zcM zbR zjo zds zev zcj zdL zkY za9 mfind zdH Rd.map AV.bare AV.bare.bareL AV.ofVal zaz zcD zde zdw zcZ Takes zaQ zaE zom zjp zol zlr zqb zlp zeu zoo zlj zlq zok zhf zlm zon zlk zft zln zfs zll zhe zqa zjq zp8 zp9 zoq zor zp3 zp5 zn6 zp4 zn3 zn4 zn5 znn zkG zkz zj5 znH unRd zkp exRd val zdk zcm seen AV.plain AV.soft adopt fzArgs Rd.run AV.asCells zfg runL Comes' Rd.row Rd.bind Out.app apps Eff.app St.renew St.setRow St.show St.put St.init upd zgt zju zpA eqFs zbd zjt zea zmo zck zcl zgw zgv bound zgu zcX zdM zjr zce zfq zdp zbX fz zbm zbY shows za4 splice wrs wes Value.oneCell' List.getD_cons_zero List.getD_cons_succ List.getD_nil List.length_cons List.length_nil List.map_cons List.map_nil List.nil_append List.cons_append List.all_cons List.all_nil List.getElem?_cons_zero List.getElem?_cons_succ List.set_cons_zero List.set_cons_succ List.take_succ_cons List.take_zero List.drop_succ_cons List.drop_zero List.take_nil List.drop_nil List.replicate_succ List.replicate_zero Bool.and_true Bool.true_and Bool.and_self and_self true_and and_true Nat.zero_add Nat.add_zero Option.some.injEq Nat.zero_lt_succ Bool.not_true Bool.not_false ne_eq not_true_eq_false not_false_eq_true Option.map_some Option.map_none List.toList_toArray head zgj zav List.length_map Int.toNat_natCast Int.natCast_nonneg List.getElem?_map decide_true decide_false Bool.false_eq_true if_true if_false Bool.or_self Bool.or_true Bool.true_or Bool.false_or Bool.or_false Bool.and_false Bool.false_and List.flatten_cons List.flatten_nil List.append_nil nat0 or_self or_false false_or or_true true_or and_false false_and List.length_append List.isEmpty_nil bne_self_eq_false beq_self_eq_true zah zp0 bytesOf_map wants Int.cast_ofNat_Int gt_iff_lt ge_iff_le
attribute [local go_sem <-] List.map_drop List.map_take
/-! Weaker values -/
theorem Str.iface {t:TypeId} {c' c:AV} (h:Str c' c):Str (.iface t c') (.iface t c):=fun S w v hv=>by
 cases hv with
 | iface _ v _ hv=>exact .iface t v c (h S w v hv)
theorem Str.ref1 {cs' cs:List AV} {off:Nat} (h:Strs cs' cs):Str (.ref cs.length [cs'] 0 off) (.ref cs.length [cs] 0 off):=fun S w v hv=>by
 cases hv with
 | ref sz es i off b o u hz hc hr=>
   have at': ∀(i j:Nat) (c:AV),cellAt [cs] i j=some c-> ∃c',cellAt [cs'] i j=some c'/\Str c' c:=fun i j c hcc=>by
    cases i with
    | zero=>
      have hj:cs[j]? =some c:=hcc
      have hlt:j<cs'.length:=by rw [h.1]; exact(List.getElem?_eq_some_iff.1 hj).1
      exact⟨cs'[j],List.getElem?_eq_getElem hlt,h.2 j _ c (List.getElem?_eq_getElem hlt) hj⟩
    | succ i=>simp [cellAt] at hcc
   refine .ref _ [cs] 0 off b o u (fun i e he=>by
    cases i with
    | zero=>simp at he; rw [<-he]
    | succ i=>simp at he) (fun i j c hcc=> ?_) fun i j c hcc=> ?_
   ·obtain⟨c',h1,_⟩:=at' i j c hcc
    exact hc i j c' h1
   ·obtain⟨c',h1,h2⟩:=at' i j c hcc
    exact h2 S w _ (hr i j c' h1)
abbrev sentV (a:Addr):AV:= .lit (.iface 261 (.pointer (some a)))
abbrev errV (p:Int) (e:AV):AV:= .iface 120 (.ref 3 [[.any,I p,e]] 0 0)
abbrev nilE:AV:= .lit .nilIface
theorem zpB (s p:AV) (q:Int) (hp:p=I q) (e:AV):RStr (.iface 120 (.ref 3 [[s,p,e]] 0 0)) (errV q e):=by
 subst hp
 exact .of (.iface (.ref1 (cs:=[.any,I q,e]) (.cons (.any _) (.refl _)))) (fun _ _ _ h=>by cases h) (fun _ _ _ h=>by cases h)
def zm6 (ad:Nat->Addr) (g:Nat):Option AV:=
 if g=1 then some (sentV (ad 1)) else
 if g=2 then some (sentV (ad 2)) else
 if g=3 then some (sentV (ad 3)) else
 if g=4 then some (sentV (ad 4)) else
 if g=5 then some (sentV (ad 5)) else
 if g=6 then some (sentV (ad 6)) else
 if g=0 then some (sentV (ad 7)) else
 if g=7 then some (sentV (ad 8)) else
 if g=8 then some (sentV (ad 9)) else none
structure More where
 inv:World->Prop
 up: ∀w w',inv w->Below w.heap.size w w'->inv w'
def zaI (ad:Nat->Addr) (mo:More):Env:=⟨zm6 ad,fun w=>Sents w ad/\mo.inv w,fun w w' h hb=>⟨h.1.below hb,mo.up w w' h.2 hb⟩⟩
theorem zjv {ad:Nat->Addr} {mo:More} {w:World} (h:Sents w ad) (hm:mo.inv w):EnvOk (zaI ad mo) (fun b _=>b<w.heap.size) w:=by
 refine⟨⟨h,hm⟩,fun b o hb=>hb,fun g c hg=> ?_⟩
 have one: ∀ {g:Nat} {a:Addr},Sent w g a-> ∃u,w.cell? ⟨g,0,none⟩=some u/\u.oneCell'=true/\g<w.heap.size/\RV (fun b _=>b<w.heap.size) w u (sentV a):=fun hs=>⟨_,hs.1,rfl,zoE hs.1, .lit _⟩
 have hg:zm6 ad g=some c:=hg
 unfold zm6 at hg
 split at hg
 ·rename_i e; subst e; cases hg; exact one h.s1
 split at hg
 ·rename_i e; subst e; cases hg; exact one h.s2
 split at hg
 ·rename_i e; subst e; cases hg; exact one h.s3
 split at hg
 ·rename_i e; subst e; cases hg; exact one h.s4
 split at hg
 ·rename_i e; subst e; cases hg; exact one h.s5
 split at hg
 ·rename_i e; subst e; cases hg; exact one h.s6
 split at hg
 ·rename_i e; subst e; cases hg; exact one h.s7
 split at hg
 ·rename_i e; subst e; cases hg; exact one h.s8
 split at hg
 ·rename_i e; subst e; cases hg; exact one h.s9
 cases hg
section
variable {ad:Nat->Addr} {mo:More} {f:Nat->AV}
end
theorem zkq {env:Env} {g:Nat} {c:AV} (h:env g=some c) (f:Nat->AV):gt env f (.global g)= .ref 1 [[c]] 0 0:=by simp only [gt,h]
theorem zcy (env:Env) (s:List UInt8) (a:Addr):Con Tryz.prog env 114 [Sg s,sentV a] (errV (-1) (sentV a)):=by
 refine zaj Tryz.func114 rfl Tryz.call114 (by rw [Tryz.ntmps114]; simp) ?_
 rw [Tryz.ntmps114,Tryz.results114]
 repeat (first | refine oO rfl (by simp only [go_sem]; exact⟨rfl,rfl⟩) ?_ | refine gR ?_ | refine gO ?_ | refine oZ (zb5 ?_) | refine oZ ?_ | refine oS ?_ | refine gT ?_ | refine gD Tryz.mixed ?_ | refine oB ?_ | refine oK ?_ | (refine oX ?_; simp only [zaQ,zaE, ↓reduceIte,Nat.reduceEqDiff,reduceCtorEq]))
 (refine zak ?_; refine⟨_,(by show (zaz _ _ _).run _=some _; simp only [go_sem]; rfl), ?_⟩)
 exact zpB _ _ _ rfl _
/-! fault.Code -/
theorem zkx {P:Program} {env:Env} {f:FuncId} {cs:List AV} {u:Value} (henter: ∀(args:Array Value) (w:World),(callFunc f args).run P w= .ok (.enter f args) w)
 (h: ∀(w:World) (S:Nat->Nat->Prop) (vs:List Value),EnvOk env S w->vs.length=cs.length->(∀(i:Nat) (v:Value) (c:AV),vs[i]? =some v->cs[i]? =some c->RV S w v c)->Calls P f vs.toArray w fun e w'=>e= .returned u/\Below w.heap.size w w'):Con P env f cs (.lit u):=by
 refine⟨henter,fun w S vs hE hl hv=>(h w S vs hE hl hv).mono ?_⟩
 rintro e w' ⟨rfl,hb⟩
 exact⟨u,rfl,hb,S,fun _ _ h=>h,fun _ _ h=> .inl h,fun b o hb'=>Nat.lt_of_lt_of_le (hE.low b o hb') hb.size, .lit _⟩
theorem zlU {w:World} {ad:Nat->Addr} (h:Sents w ad) (k:Nat) (hk:1<=k/\k<=9):Lies w (ad k):=by
 obtain rfl | rfl | rfl | rfl | rfl | rfl | rfl | rfl | rfl:k=1\/k=2\/k=3\/k=4\/k=5\/k=6\/k=7\/k=8\/k=9:=by omega
 ·exact h.s1.2
 ·exact h.s2.2
 ·exact h.s3.2
 ·exact h.s4.2
 ·exact h.s5.2
 ·exact h.s6.2
 ·exact h.s7.2
 ·exact h.s8.2
 ·exact h.s9.2
end
section
open Go.RowKit
end
section
open Go.RowKit
abbrev smallCs (k:Int):Array Value:= #[.string ⟨#[97]⟩, .int .i64 1, .int .i64 (-1), .int .i64 k, .slice none 0 0, .slice none 0 0, .string ⟨#[98]⟩, .int .i64 1, .int .i64 0, .int .i64 (-1), .slice none 0 0, .slice none 0 0]
def zkK (w:World) (g:Nat) (k:Int):Prop:= ∀i v,(smallCs k)[i]? =some v->w.cell? ⟨g,i,none⟩=some v
theorem zkK.below {w w':World} {g:Nat} {k:Int} (h:zkK w g k) (hb:Below w.heap.size w w'):zkK w' g k:=fun i v hi=>cell_below (h i v hi) hb
theorem EnvOk.all {env:Env} {S:Nat->Nat->Prop} {w:World} (h:EnvOk env S w):EnvOk env (fun b _=>b<w.heap.size) w:=⟨h.inv,fun _ _ h=>h,fun g c hg=>by
 obtain⟨u,h1,h2,h3,h4⟩:=h.env g c hg
 exact⟨u,h1,h2,h.low _ _ h3,h4.mono fun b o hb=>⟨h.low _ _ hb, .rfl⟩⟩⟩
theorem EnvOk.belowA {env:Env} {w w':World} (h:EnvOk env (fun b _=>b<w.heap.size) w) (hb:Below w.heap.size w w'):EnvOk env (fun b _=>b<w'.heap.size) w':=⟨env.up _ _ h.inv hb,fun _ _ h=>h,fun g c hg=>by
 obtain⟨u,h1,h2,h3,h4⟩:=h.env g c hg
 exact⟨u,cell_below h1 hb,h2,Nat.lt_of_lt_of_le h3 hb.size,h4.mono fun b o (hbo:b<_)=>⟨Nat.lt_of_lt_of_le hbo hb.size,hb.stay hbo⟩⟩⟩
theorem zpG {P:Program} {env:Env} {f:FuncId} {cs:List AV} {res:AV} {w:World} {vs:List Value} (h:Con P env f cs res) (hE:EnvOk env (fun b _=>b<w.heap.size) w) (hres: ∀e sz es,res≠ .own e sz es) (hv:RAs (fun b _=>b<w.heap.size) w vs cs):
 Calls P f vs.toArray w fun e w'=> ∃v,e= .returned v/\Below w.heap.size w w'/\EnvOk env (fun b _=>b<w'.heap.size) w'/\RV (fun b _=>b<w'.heap.size) w' v res:=by
 obtain⟨h1,h2⟩:=hv.at_
 refine(h.calls w _ vs hE h1 h2).mono ?_
 rintro e w' ⟨v,rfl,hb,S',_,_,hlt,hr⟩
 refine⟨v,rfl,hb,hE.belowA hb, ?_⟩
 have hr':RV S' w' v res:=by
  cases res with
  | own e sz es=>exact(hres e sz es rfl).elim
  | _=>exact hr
 exact hr'.mono fun b o hbo=>⟨hlt b o hbo, .rfl⟩
end

end Go.Proofs.YtlmekdfleciejaaGreatDoor