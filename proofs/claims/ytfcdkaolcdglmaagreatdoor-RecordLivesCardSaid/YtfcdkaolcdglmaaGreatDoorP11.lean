/- The n-th of the sets of states that may be active together is one; one state more or less, and it is none; plain. No program is named here. -/
import Derived.Test.YtfcdkaolcdglmaaGreatDoorP10
set_option linter.unusedSimpArgs false
set_option linter.defProp false
namespace Go.Proofs
open Go.Shelf
def Tryz.sortS_ren:Go.Shelf.Ren:=⟨fun|190=>48|125=>105|258=>104|128=>147|129=>148|302=>139|303=>140|304=>141|305=>142|306=>143|307=>144|308=>106|309=>145|310=>146|333=>168|329=>169|330=>170|334=>171|335=>172|336=>149|344=>193|n=>n,fun|31=>61|9=>9|3=>3|46=>184|0=>0|51=>114|53=>156|4=>4|183=>211|182=>210|131=>132|5=>5|218=>229|222=>233|228=>246|229=>53|n=>n,fun|n=>n⟩
def Tryz.sortS:Go.Proofs.Lays.n190 prog Tryz.sortS_ren:={
 mixed:=by kernel_rfl
 f125:=func105.trans (congrArg some (by kernel_rfl))
 f128:=func147.trans (congrArg some (by kernel_rfl))
 f129:=func148.trans (congrArg some (by kernel_rfl))
 f190:=func48.trans (congrArg some (by kernel_rfl))
 f258:=func104.trans (congrArg some (by kernel_rfl))
 f302:=func139.trans (congrArg some (by kernel_rfl))
 f303:=func140.trans (congrArg some (by kernel_rfl))
 f304:=func141.trans (congrArg some (by kernel_rfl))
 f305:=func142.trans (congrArg some (by kernel_rfl))
 f306:=func143.trans (congrArg some (by kernel_rfl))
 f307:=func144.trans (congrArg some (by kernel_rfl))
 f308:=func106.trans (congrArg some (by kernel_rfl))
 f309:=func145.trans (congrArg some (by kernel_rfl))
 f310:=func146.trans (congrArg some (by kernel_rfl))
 f329:=func169.trans (congrArg some (by kernel_rfl))
 f330:=func170.trans (congrArg some (by kernel_rfl))
 f333:=func168.trans (congrArg some (by kernel_rfl))
 f334:=func171.trans (congrArg some (by kernel_rfl))
 f335:=func172.trans (congrArg some (by kernel_rfl))
 f336:=func149.trans (congrArg some (by kernel_rfl))
 f344:=func193.trans (congrArg some (by kernel_rfl))
 t0:=Tryz.underlying0
 a0:=Tryz.isAgg0
 z0:=Tryz.sizeOf0
 v0:=Tryz.zeroValue0
 t3:=Tryz.underlying3
 a3:=Tryz.isAgg3
 z3:=Tryz.sizeOf3
 v3:=Tryz.zeroValue3
 t4:=Tryz.underlying4
 a4:=Tryz.isAgg4
 z4:=Tryz.sizeOf4
 v4:=Tryz.zeroValue4
 t5:=Tryz.underlying5
 a5:=Tryz.isAgg5
 z5:=Tryz.sizeOf5
 v5:=Tryz.zeroValue5
 t9:=Tryz.underlying9
 a9:=Tryz.isAgg9
 z9:=Tryz.sizeOf9
 v9:=Tryz.zeroValue9
 t31:=Tryz.underlying61
 a31:=Tryz.isAgg61
 z31:=Tryz.sizeOf61
 v31:=Tryz.zeroValue61
 t46:=Tryz.underlying184
 a46:=Tryz.isAgg184
 z46:=Tryz.sizeOf184
 v46:=Tryz.zeroValue184
 t51:=Tryz.underlying114
 a51:=Tryz.isAgg114
 z51:=Tryz.sizeOf114
 v51:=Tryz.zeroValue114
 t53:=Tryz.underlying156
 a53:=Tryz.isAgg156
 z53:=Tryz.sizeOf156
 v53:=Tryz.zeroValue156
 t131:=Tryz.underlying132
 a131:=Tryz.isAgg132
 z131:=Tryz.sizeOf132
 v131:=Tryz.zeroValue132
 t182:=Tryz.underlying210
 a182:=Tryz.isAgg210
 z182:=Tryz.sizeOf210
 v182:=Tryz.zeroValue210
 t183:=Tryz.underlying211
 a183:=Tryz.isAgg211
 z183:=Tryz.sizeOf211
 v183:=Tryz.zeroValue211
 t218:=Tryz.underlying229
 a218:=Tryz.isAgg229
 z218:=Tryz.sizeOf229
 v218:=Tryz.zeroValue229
 t222:=Tryz.underlying233
 a222:=Tryz.isAgg233
 z222:=Tryz.sizeOf233
 v222:=Tryz.zeroValue233
 t228:=Tryz.underlying246
 a228:=Tryz.isAgg246
 z228:=Tryz.sizeOf246
 v228:=Tryz.zeroValue246
 t229:=Tryz.underlying53
 a229:=Tryz.isAgg53
 z229:=Tryz.sizeOf53
 v229:=Tryz.zeroValue53 }
def Tryz.sortI_ren:Go.Shelf.Ren:=⟨fun|189=>173|125=>105|257=>194|128=>147|129=>148|294=>210|295=>211|296=>212|297=>213|298=>214|299=>215|216=>208|300=>216|301=>217|328=>232|329=>169|330=>170|331=>233|332=>234|215=>231|343=>246|n=>n,fun|28=>35|3=>3|46=>184|0=>0|51=>114|53=>156|4=>4|183=>211|182=>210|131=>132|5=>5|9=>9|218=>229|222=>233|228=>246|229=>53|n=>n,fun|n=>n⟩
def Tryz.sortI:Go.Proofs.Lays.n189 prog Tryz.sortI_ren:={
 mixed:=by kernel_rfl
 f125:=func105.trans (congrArg some (by kernel_rfl))
 f128:=func147.trans (congrArg some (by kernel_rfl))
 f129:=func148.trans (congrArg some (by kernel_rfl))
 f189:=func173.trans (congrArg some (by kernel_rfl))
 f215:=func231.trans (congrArg some (by kernel_rfl))
 f216:=func208.trans (congrArg some (by kernel_rfl))
 f257:=func194.trans (congrArg some (by kernel_rfl))
 f294:=func210.trans (congrArg some (by kernel_rfl))
 f295:=func211.trans (congrArg some (by kernel_rfl))
 f296:=func212.trans (congrArg some (by kernel_rfl))
 f297:=func213.trans (congrArg some (by kernel_rfl))
 f298:=func214.trans (congrArg some (by kernel_rfl))
 f299:=func215.trans (congrArg some (by kernel_rfl))
 f300:=func216.trans (congrArg some (by kernel_rfl))
 f301:=func217.trans (congrArg some (by kernel_rfl))
 f328:=func232.trans (congrArg some (by kernel_rfl))
 f329:=func169.trans (congrArg some (by kernel_rfl))
 f330:=func170.trans (congrArg some (by kernel_rfl))
 f331:=func233.trans (congrArg some (by kernel_rfl))
 f332:=func234.trans (congrArg some (by kernel_rfl))
 f343:=func246.trans (congrArg some (by kernel_rfl))
 t0:=Tryz.underlying0
 a0:=Tryz.isAgg0
 z0:=Tryz.sizeOf0
 v0:=Tryz.zeroValue0
 t3:=Tryz.underlying3
 a3:=Tryz.isAgg3
 z3:=Tryz.sizeOf3
 v3:=Tryz.zeroValue3
 t4:=Tryz.underlying4
 a4:=Tryz.isAgg4
 z4:=Tryz.sizeOf4
 v4:=Tryz.zeroValue4
 t5:=Tryz.underlying5
 a5:=Tryz.isAgg5
 z5:=Tryz.sizeOf5
 v5:=Tryz.zeroValue5
 t9:=Tryz.underlying9
 a9:=Tryz.isAgg9
 z9:=Tryz.sizeOf9
 v9:=Tryz.zeroValue9
 t28:=Tryz.underlying35
 a28:=Tryz.isAgg35
 z28:=Tryz.sizeOf35
 v28:=Tryz.zeroValue35
 t46:=Tryz.underlying184
 a46:=Tryz.isAgg184
 z46:=Tryz.sizeOf184
 v46:=Tryz.zeroValue184
 t51:=Tryz.underlying114
 a51:=Tryz.isAgg114
 z51:=Tryz.sizeOf114
 v51:=Tryz.zeroValue114
 t53:=Tryz.underlying156
 a53:=Tryz.isAgg156
 z53:=Tryz.sizeOf156
 v53:=Tryz.zeroValue156
 t131:=Tryz.underlying132
 a131:=Tryz.isAgg132
 z131:=Tryz.sizeOf132
 v131:=Tryz.zeroValue132
 t182:=Tryz.underlying210
 a182:=Tryz.isAgg210
 z182:=Tryz.sizeOf210
 v182:=Tryz.zeroValue210
 t183:=Tryz.underlying211
 a183:=Tryz.isAgg211
 z183:=Tryz.sizeOf211
 v183:=Tryz.zeroValue211
 t218:=Tryz.underlying229
 a218:=Tryz.isAgg229
 z218:=Tryz.sizeOf229
 v218:=Tryz.zeroValue229
 t222:=Tryz.underlying233
 a222:=Tryz.isAgg233
 z222:=Tryz.sizeOf233
 v222:=Tryz.zeroValue233
 t228:=Tryz.underlying246
 a228:=Tryz.isAgg246
 z228:=Tryz.sizeOf246
 v228:=Tryz.zeroValue246
 t229:=Tryz.underlying53
 a229:=Tryz.isAgg53
 z229:=Tryz.sizeOf53
 v229:=Tryz.zeroValue53 }
def Tryz.compS_ren:Go.Shelf.Ren:=⟨fun|194=>49|n=>n,fun|31=>61|9=>9|3=>3|4=>4|0=>0|n=>n,fun|n=>n⟩
def Tryz.compS:Go.Proofs.Lays.n194 prog Tryz.compS_ren:={
 mixed:=by kernel_rfl
 f194:=func49.trans (congrArg some (by kernel_rfl))
 t0:=Tryz.underlying0
 a0:=Tryz.isAgg0
 z0:=Tryz.sizeOf0
 v0:=Tryz.zeroValue0
 t3:=Tryz.underlying3
 a3:=Tryz.isAgg3
 z3:=Tryz.sizeOf3
 v3:=Tryz.zeroValue3
 t4:=Tryz.underlying4
 a4:=Tryz.isAgg4
 z4:=Tryz.sizeOf4
 v4:=Tryz.zeroValue4
 t9:=Tryz.underlying9
 a9:=Tryz.isAgg9
 z9:=Tryz.sizeOf9
 v9:=Tryz.zeroValue9
 t31:=Tryz.underlying61
 a31:=Tryz.isAgg61
 z31:=Tryz.sizeOf61
 v31:=Tryz.zeroValue61 }
end Go.Proofs
namespace Go.Proofs.YtfcdkaolcdglmaaGreatDoor
open Go.Proofs.Tryz
open Go.RowKit Go.Sort Go.Shelf Go.Lib
set_option maxHeartbeats 4000000 in
set_option maxRecDepth 100000 in
theorem Ca(p:Option Addr)(cap:Nat)(w:World):Calls prog 48 #[.slice p 0 cap] w fun ex w'=>ex= .returned (.tuple #[])/\w'=w:=by
 go_enter func48,ntmps48
 go_wp2_with (first|go_in)
 refine wp_loop_rounds 1 ?_;simp only[Code.rounds]
 go_wp2_with (first|go_in)
 refine wp_loop_rounds 1 ?_;simp only[Code.rounds]
 go_wp2_with (first|go_in)
 go_end0
 exact⟨rfl,rfl⟩
def Eb(s:List UInt8):List Value:=[encStr s]
def d8{a:Type}(f:a->Value): ∀l:List a,(l.map fun s=>[f s]).flatten=l.map f
 |[]=>rfl
 |x::l=>by simp[d8 f l]
def Hi{w:World}{g:Nat}{l:List (List UInt8)}(h:Holds id w g 0 (l.map encStr).toArray):Holds encStr w g 0 l.toArray:=fun j b=>by
 have a:j<l.length:=by simpa using b
 have:=h j (by simpa using a);rw[Qr _ j (by simpa using a)]at this;rw[Qr _ j b];simpa using this
def Tryz.sortEnter: ∀(args:Array Value)(w:World),(callFunc 48 args).run prog w= .ok (.enter 48 args) w:=Sv func48 (by kernel_rfl) rfl
def Tryz.compEnter: ∀(args:Array Value)(w:World),(callFunc 49 args).run prog w= .ok (.enter 49 args) w:=Sv func49 (by kernel_rfl) rfl
def gQ(l:List (List UInt8)):List (List UInt8):=l.mergeSort fun x y=>decide (x<=y)
def zn(l:List (List UInt8))(f:l.length<4611686018427387904):K' prog 48 [] 9 1 (l.map Eb) ((gQ l).map Eb):=by
 by_cases d:l=[]
 ·subst d;rw[show gQ []=[] by simp[gQ]];exact ma Tryz.sortEnter fun p a w=>Ca p a w
 refine kJ (by rw[O4];exact QD.2 d) Tryz.sortEnter (by simp[gQ]) (fun x c=> ?_) (fun x c=> ?_) fun w g a b e=> ?_
 ·obtain⟨y,_,rfl⟩:=OW.1 c;rfl
 ·obtain⟨y,_,rfl⟩:=OW.1 c;exact⟨rfl,fun u h=>by rw[O2.1 h];rfl⟩
 have b:Holds id w g 0 (l.map encStr).toArray:=by rw[<-d8];exact b
 have:=Any.slices_Sort_string Tryz.sortS g 0 a l w (Hi b) e f;rw[O4];refine(show Calls prog 48 #[.slice (some ⟨g,0,none⟩) l.length a] w _ from this).mono ?_;rintro j k ⟨rfl,n,i,rfl⟩;refine⟨rfl,n,i,?_⟩;rw[j3,show ((gQ l).map Eb).flatten=(gQ l).map encStr from d8 encStr _];simp[gQ]
def Dl(l:List (List UInt8))(J:l.length<=9223372036854775807):VI prog 49 9 1 (l.map Eb) ((Lib.compact l).map Eb):=by
 refine⟨Tryz.compEnter,fun x M=> ?_,fun w o v e=> ?_⟩
 ·obtain⟨y,_,rfl⟩:=OW.1 M;exact⟨rfl,fun u L=>by rw[O2.1 L];rfl⟩
 rw[show (l.map Eb).flatten=l.map encStr from d8 encStr _,O4]at e;rw[show ((Lib.compact l).map Eb).flatten=(Lib.compact l).map encStr from d8 encStr _,O4];by_cases z:l=[]
 ·subst z
  obtain⟨p,a,rfl⟩: ∃p a,v= .slice p 0 a:=by
   rcases e.2 with⟨rfl,_⟩|⟨g,a,b,rfl,_⟩
   ·exact⟨_,_,rfl⟩
   exact⟨_,_,rfl⟩
  refine(show Calls prog 49 #[.slice p 0 a] w _ from Any.slices_Compact_string_empty Tryz.compS p a w).mono ?_;rintro E N ⟨rfl,rfl⟩;exact⟨_,rfl,rfl,⟨rfl,rfl,rfl,OO _,fun _ _ _=>rfl⟩,fun _ h=>h,e⟩
 rcases e.2 with⟨_,h⟩|⟨g,a,b,rfl,c,d,A,G,B,H⟩
 ·exact absurd (Ox h) z
 have O:g<w.heap.size:=(Od.1 d).1
 have I:Holds encStr w g 0 l.toArray:=fun j D=>by
  have m:j<l.length:=by simpa using D
  have r:(b.toList.take (l.length*1))[j]? =(l.map encStr)[j]? :=by rw[H]
  rw[Q9 (by omega),OS,OE m]at r;refine⟨?_,by simp[World.frozen?,d]⟩;simp only[World.cell?,d,PR,TC,On,P8];rw[<-Qo,r,Qr _ j D];rfl
 have i:(Lib.compact l).length<=l.length:=by
  unfold Lib.compact Lib.compactUpTo;rw[O4];exact O3 (Ol ..) (by simp)
 refine(show Calls prog 49 #[.slice (some ⟨g,0,none⟩) l.length a] w _ from Any.slices_Compact_string Tryz.compS g 0 a l w I J A).mono ?_;rintro E N ⟨rfl,q,rfl⟩;rw[j3];generalize C:((Lib.compact l++List.replicate (l.length-(Lib.compact l).length) []).toArray.map encStr)=F;have f:F.size=l.length:=by rw[<-C];simp;omega
 have k: ∀W:World,grow W #[]=W:=fun W=>by simp[grow]
 have s:=Uv (n:=q) (os:= #[]) F d;have t:=lB (w:=w) (g:=g) (n:=q) (os:= #[]) F;rw[k]at s t;refine⟨_,rfl,rfl,t,fun _ h=>h,⟨by rw[O4,RJ], .inr ⟨g,a,_,rfl,c,s,O3 i A,G,by simp[putCells,B],?_⟩⟩⟩;have K:=tx b F (by rw[f,B];omega);rw[RJ]
 have:((putCells id 0 F b).toList.take (Lib.compact l).length)=(F.toList).take (Lib.compact l).length:=by
  rw[<-K,Sz,Qd (by omega)]
 rw[this, <-C];simp
end Go.Proofs.YtfcdkaolcdglmaaGreatDoor
namespace Go.Proofs.YtfcdkaolcdglmaaGreatDoor
open Go.Proofs.Tryz
open Go.RowKit
structure Right(c:aq):Prop where
 Z6:c.Z9.length<=32
 par: ∀(k:Nat)(s:pc),c.Z9[k]? =some s-> -1<=s.parent/\s.parent<k
 top: ∃(m:Nat) (q:pc),c.initial=m/\c.Z9[m]? =some q/\q.parent= -1
def cX{p:Nat->Bool}{n:Nat}(h:bC p n=none)(j:Nat)(a:j<n):p j=true:=by
 unfold bC at h;rw[SN]at h;simpa using h j (by simpa using a)
def Az{c:aq}(h:(qs c).1=0):Right c:=by
 unfold qs at h;split at h
 ·simp at h
 rename_i l;split at h
 ·simp at h
 split at h
 ·simp at h
 split at h
 ·simp at h
 rename_i e;split at h
 ·simp at h
 rename_i f;refine⟨by omega,fun k s d=> ?_,?_⟩
 ·have g:k<c.Z9.length:=(OG.1 d).1;have:=cX e k g;unfold lm at this;rw[d]at this
  have i:dA c k s=true:=by
   simp only[cG,OJ]at this;exact this.1.1.1.2
  simp only[dA,PS,OJ,OR,P4]at i;omega
 have a:mb c=true:=by simpa using f
 unfold mb at a;split at a
 ·rename_i q b;simp only[OJ,P4]at a;unfold at_ at b;split at b
  ·rename_i j;exact⟨c.initial.toNat,q,by omega,b,a.1⟩
  cases b
 cases a
def low(c:aq)(n:Nat)(k:Nat):Bool:=match c.Z9[k]? with
 |some s=>decide (s.parent+1<n)&& !ab s
 |none=>false
def zD{c:aq}{i:Int}{k:Nat}(h:k∈aw c i true): ∃s,c.Z9[k]? =some s/\s.parent=i/\ab s=false/\k<c.Z9.length:=by
 obtain⟨b,a⟩:=pm h;obtain⟨s,d,_⟩:=aT b;unfold dJ at a;rw[d]at a;simp at a;exact⟨s,d,a.1,a.2,b⟩
def ES{c:aq}{i:Int}{k:Nat}{s:pc}(a:c.Z9[k]? =some s)(e:s.parent=i)(d:ab s=false):k∈aw c i true:=by
 have b:k<c.Z9.length:=(OG.1 a).1;unfold aw b9;rw[OY];refine⟨by simpa using b,?_⟩;unfold dJ;rw[a];simp[e,d]
end Go.Proofs.YtfcdkaolcdglmaaGreatDoor
namespace Go.Proofs.YtfcdkaolcdglmaaGreatDoor
open Go.Proofs.Tryz
open Go.RowKit
def fe(c:aq)(i:Int):Bool:=decide (0<=i)&&decide (i<c.Z9.length)
def aQ(c:aq)(i:Int):Int:=match at_ c i with
 |some s=>s.parent
 |none=> -1
def aJ{c:aq}{i:Int} :fe c i=true↔0<=i/\i<c.Z9.length:=by
 unfold fe;rw[OJ,OR,OR]
def ak{c:aq}{k:Nat} :fe c k=true↔k<c.Z9.length:=by rw[aJ];omega
def bO(c:aq)(k:Nat):at_ c k=c.Z9[k]? :=by unfold at_;rw[OL (by omega),Pd]
def fB{c:aq}{i:Int}(h:fe c i=true): ∃k s,i=(k:Nat)/\c.Z9[k]? =some s/\at_ c i=some s:=by
 obtain⟨b,d⟩:=aJ.1 h;have a:i.toNat<c.Z9.length:=by omega
 refine⟨i.toNat,c.Z9[i.toNat],by omega,OE a,?_⟩;unfold at_;rw[OL b,OE a]
def dn{c:aq}(h:Right c){i:Int}(hi:fe c i=true): -1<=aQ c i/\aQ c i<i:=by
 obtain⟨k,s,rfl,a,b⟩:=fB hi;unfold aQ;rw[b];exact h.par k s a
def fH{c:aq}{k:Nat}{s:pc}(h:c.Z9[k]? =some s):aQ c k=s.parent:=by
 unfold aQ;rw[bO,h]
/-! The way up -/
def UL(c:aq):Nat->Int->List Int
 |0,_=>[]
 |f+1,i=>if fe c i=true then aQ c i::UL c f (aQ c i) else []
def mu(c:aq)(i:Int):List Int:=UL c 40 i
def kS{c:aq}{i:Int}(h:fe c i=false)(f:Nat):UL c f i=[]:=by
 cases f with
 |zero=>rfl
 |succ f=>unfold UL;rw[h];simp
def E3{c:aq}(h:Right c): ∀(f g:Nat)(i:Int),i<f->i<g->UL c f i=UL c g i
 | 0,g,i,d,e=>by
   have:fe c i=false:=by
    cases a:fe c i
    ·rfl
    have:=aJ.1 a;omega
   rw[kS this,kS this]
 | f+1,g,i,d,e=>by
   cases a:fe c i with
   |false=>rw[kS a,kS a]
   | true=>
     have j:=(aJ.1 a).1;obtain⟨b,rfl⟩: ∃b,g=b+1:=⟨g-1,by omega⟩;have:=dn h a;unfold UL;rw[a];simp only[PW];rw[E3 h f b (aQ c i) (by omega) (by omega)]
def cq{c:aq}{i:Int}(h:fe c i=false):mu c i=[]:=kS h _
def xv{c:aq}(h:Right c){i:Int}(hi:fe c i=true):mu c i=aQ c i::mu c (aQ c i):=by
 have d:=h.Z6;have a:=aJ.1 hi;have b:=dn h hi;show UL c (39+1) i=aQ c i::UL c 40 (aQ c i);rw[show UL c (39+1) i=if fe c i=true then aQ c i::UL c 39 (aQ c i) else [] from rfl,OL hi,E3 h 39 40 _ (by omega) (by omega)]
def kZ{c:aq}(h:Right c): ∀(f:Nat)(i:Int)(k:Int),k∈UL c f i-> -1<=k/\k<i
 |0,i,k,hk=>by simp[UL]at hk
 | f+1,i,k,hk=>by
   cases a:fe c i with
   |false=>rw[kS a]at hk;simp at hk
   | true=>
     have:=dn h a;unfold UL at hk;rw[a]at hk;simp only[PW,O7]at hk;rcases hk with rfl|hk
     ·exact this
     have:=kZ h f _ k hk;omega
def cr{c:aq}(h:Right c){i:Int}(hi:fe c i=true){k:Int} :k∈mu c i↔k=aQ c i\/k∈mu c (aQ c i):=by rw[xv h hi,O7]
def uo{c:aq} : ∀(f:Nat)(i:Int),(UL c f i).length<=f
 |0,i=>by simp[UL]
 | f+1,i=>by
   unfold UL;split
   ·have:=uo (c:=c) f (aQ c i);simp;omega
   simp
def rq{c:aq}(h:Right c): ∀(n:Nat)(i:Int),fe c i=true->i<n-> -1∈mu c i
 |0,i,a,b=>by have:=aJ.1 a;omega
 | n+1,i,a,b=>by
   rw[cr h a];have f:=dn h a;by_cases e:aQ c i= -1
   ·exact .inl e.symm
   have d:=aJ.1 a;exact .inr (rq h n _ (aJ.2 (by omega)) (by omega))
def iO{c:aq}(h:Right c): ∀(n:Nat)(i j k:Int),i<n->j∈mu c i->k∈mu c j->k∈mu c i
 | 0,i,j,k,e,a,d=>by
   cases b:fe c i with
   |false=>rw[cq b]at a;simp at a
   |true=>have:=aJ.1 b;omega
 | n+1,i,j,k,e,a,d=>by
   cases b:fe c i with
   |false=>rw[cq b]at a;simp at a
   | true=>
     rw[cr h b]at a |-;have f:=dn h b;rcases a with rfl|a
     ·exact .inr d
     exact .inr (iO h n _ j k (by omega) a d)
/-! What is above a state, as bits -/
def DK(c:aq):Nat->Int->Nat
 |0,_=>0
 |f+1,i=>if fe c i=true then(if 0<=aQ c i then DK c f (aQ c i)||| 2^(aQ c i).toNat else 0) else 0
def uJ{c:aq}(h:Right c): ∀(f:Nat)(i:Int)(k:Nat),(DK c f i).testBit k=decide ((k:Int)∈UL c f i)
 |0,i,k=>by simp[DK,UL]
 | f+1,i,k=>by
   unfold DK UL;cases b:fe c i with
   |false=>simp
   | true=>
     simp only[PW];have l:=dn h b;by_cases e:0<=aQ c i
     ·rw[OL e,SS,uJ h f,RZ];by_cases a:(k:Int)=aQ c i
      ·have:(aQ c i).toNat=k:=by omega
       simp[a,this]
      have: ¬(aQ c i).toNat=k:=by omega
      simp[a,this]
     rw[OK e];have d:aQ c i= -1:=by omega
     have j:fe c (-1)=false:=by
      cases g:fe c (-1)
      ·rfl
      have:=aJ.1 g;omega
     rw[d,kS j];simp
def ql(c:aq)(i:Int):Nat:=DK c 40 i
def si{c:aq}(h:Right c)(i:Int)(k:Nat):(ql c i).testBit k=decide ((k:Int)∈mu c i):=uJ h 40 i k
def nA{c:aq}(h:Right c){i:Int}(hi:i<32):ql c i<2^32:=by
 apply Nat.lt_pow_two_of_testBit;intro k b;rw[si h];simp only[Ov];intro a;have:=kZ h 40 i k a;omega
def wJ{c:aq}(h:Right c){i:Int}(hi:fe c i=true):ql c i=if 0<=aQ c i then ql c (aQ c i)||| 2^(aQ c i).toNat else 0:=by
 apply Nat.eq_of_testBit_eq;intro k;have g:=dn h hi;rw[si h,xv h hi];by_cases e:0<=aQ c i
 ·rw[OL e,SS,si h,RZ];by_cases a:(k:Int)=aQ c i
  ·have:(aQ c i).toNat=k:=by omega
   simp[a,this]
  have: ¬(aQ c i).toNat=k:=by omega
  simp[a,this]
 rw[OK e];have b:aQ c i= -1:=by omega
 have f:fe c (-1)=false:=by
  cases d:fe c (-1)
  ·rfl
  have:=aJ.1 d;omega
 rw[b,cq f];simp
def dZ{a c:Type}{f g:a->List c} : ∀ {l:List a},(∀x∈l,f x=g x)->l.flatMap f=l.flatMap g
 |[],_=>rfl
 | x::l,h=>by
   simp only[Q8];rw[h x (by simp),dZ fun y b=>h y (by simp[b])]
/-! The walk -/
def qx(c:aq):Nat->Int->List Nat
 |0,_=>[]
 |f+1,i=>(aw c i false).flatMap fun k=>k::qx c f k
def mv(c:aq)(i:Int):List Nat:=qx c 40 i
def eG{c:aq}{i:Int}{k:Nat} :k∈aw c i false↔k<c.Z9.length/\aQ c k=i:=by
 unfold aw b9;rw[OY,Oh];constructor
 ·rintro⟨b,a⟩;obtain⟨s,d⟩:=gE b;refine⟨b,?_⟩;unfold dJ at a;rw[d]at a;rw[fH d];simpa using a
 rintro⟨b,a⟩;obtain⟨s,d⟩:=gE b;refine⟨b,?_⟩;unfold dJ;rw[d];rw[fH d]at a;simp[a]
def bQ(c:aq)(i:Int)(a:Bool):(aw c i a).Nodup:=TD Pf List.nodup_range
def ae{c:aq}{i:Int}{k:Nat}(h:k∈aw c i true):k∈aw c i false/\ ∃s,c.Z9[k]? =some s/\ab s=false:=by
 unfold aw b9 at h |-;rw[OY]at h |-;obtain⟨d,a⟩:=h;unfold dJ at a |-;cases b:c.Z9[k]? with
 |none=>rw[b]at a;cases a
 | some s=>
   rw[b]at a;simp at a |-;exact⟨⟨by simpa using d,a.1⟩,a.2⟩
def bK{c:aq}(h:Right c){i:Int}{k:Nat}(b:k∈aw c i false):i<k/\k<c.Z9.length:=by
 obtain⟨a,d⟩:=eG.1 b;have:=dn h (ak.2 a);omega
def Fq{c:aq}(h:Right c): ∀(f g:Nat)(i:Int),(c.Z9.length:Int)<=i+f->(c.Z9.length:Int)<=i+g->qx c f i=qx c g i:=by
 have none: ∀(g:Nat)(i:Int),(c.Z9.length:Int)<=i->qx c g i=[]:=fun g i j=>by
  cases g with
  |zero=>rfl
  | succ g=>
    unfold qx;have:aw c i false=[]:=Q2.2 fun k a=>by have:=bK h a;omega
    rw[this];rfl
 intro f
 induction f with
 |zero=>intro g i b d;rw[none g i (by omega)];rfl
 | succ f e=>
   intro g i b d;cases g with
   |zero=>rw[none (f+1) i (by omega)];rfl
   | succ g=>
     unfold qx;apply dZ;intro k a;have:=bK h a;rw[e g k (by omega) (by omega)]
def Uf{c:aq}(h:Right c){i:Int}(_hi: -1<=i):mv c i=(aw c i false).flatMap fun k=>k::mv c k:=by
 have b:=h.Z6;show (aw c i false).flatMap (fun k=>k::qx c 39 k)=_;apply dZ;intro k a;have:=bK h a;rw[show qx c 39 k=mv c k from Fq h 39 40 k (by omega) (by omega)]
def jd{c:aq}(h:Right c): ∀(n:Nat)(i:Int)(m:Nat), -1<=i->(c.Z9.length:Int)<=i+n->(m∈mv c i↔m<c.Z9.length/\i∈mu c m)
 | 0,i,m,o,w=>by
   rw[Uf h o];have:aw c i false=[]:=Q2.2 fun k b=>by have:=bK h b;omega
   rw[this];simp only[List.flatMap_nil,List.not_mem_nil,false_iff,not_and];intro j l;have:=kZ h 40 m i l;omega
 | n+1,i,m,o,w=>by
   rw[Uf h o,Q4];constructor
   ·rintro⟨k,b,hm⟩;have v:=bK h b;obtain⟨r,t⟩:=eG.1 b;rcases O7.1 hm with rfl|hm
    ·exact⟨r,(cr h (ak.2 r)).2 (.inl t.symm)⟩
    obtain⟨C,D⟩:=(jd h n k m (by omega) (by omega)).1 hm;refine⟨C,iO h 40 m k i (by have:=h.Z6;omega) D ((cr h (ak.2 r)).2 (.inl t.symm))⟩
   rintro⟨j,l⟩
   have s: ∀(d:Nat)(m:Nat),m<d->m<c.Z9.length->i∈mu c m-> ∃k∈aw c i false,m=k\/(k:Int)∈mu c m:=fun d=>by
    induction d with
    |zero=>intro m u;omega
    | succ d B=>
      intro m u hm z;have f:=ak.2 hm;rcases (cr h f).1 z with e|e
      ·exact⟨m,eG.2 ⟨hm,e.symm⟩, .inl rfl⟩
      have x:=dn h f
      have E:0<=aQ c m:=by
       rcases Sq (aQ c m) 0 with q|q
       ·have A:fe c (aQ c m)=false:=by
         cases y:fe c (aQ c m)
         ·rfl
         have:=aJ.1 y;omega
        rw[cq A]at e;simp at e
       exact q
      obtain⟨p,g⟩: ∃p:Nat,aQ c m=p:=⟨(aQ c m).toNat,by omega⟩;rw[g]at e x;obtain⟨k,b,a⟩:=B p (by omega) (by omega) e;refine⟨k,b, .inr ((cr h f).2 ?_)⟩;rw[g];rcases a with rfl|a
      ·exact .inl rfl
      exact .inr a
   obtain⟨k,b,a⟩:=s (m+1) m (by omega) j l;have v:=bK h b;refine⟨k,b,O7.2 ?_⟩;rcases a with e|e
   ·exact .inl e
   exact .inr ((jd h n k m (by omega) (by omega)).2 ⟨j,e⟩)
def jc{c:aq}(h:Right c)(m:Nat):m∈mv c (-1)↔m<c.Z9.length:=by
 rw[jd h 40 (-1) m (by omega) (by have:=h.Z6;omega)];exact⟨fun h=>h.1,fun a=>⟨a,rq h (m+1) m (ak.2 a) (by omega)⟩⟩
def yP{c:aq}(h:Right c){i:Int}{g j:Nat}(u:g∈aw c i false)(v:j∈aw c i false): ∀(d m:Nat),m<d->m<c.Z9.length->(m=g\/(g:Int)∈mu c m)->(m=j\/(j:Int)∈mu c m)->g=j:=by
 obtain⟨l,o⟩:=eG.1 u;obtain⟨n,r⟩:=eG.1 v
 have t: ∀ {x y:Nat},x<c.Z9.length->aQ c x=i->y<c.Z9.length->aQ c y=i-> ¬(y:Int)∈mu c x:=fun {x y} s G B H k=>by
  have I:=dn h (ak.2 s);have J:=dn h (ak.2 B);rcases (cr h (ak.2 s)).1 k with e|e
  ·omega
  have:=kZ h 40 _ _ e;omega
 intro d
 induction d with
 |zero=>intro m w;omega
 | succ d D=>
   intro m w k e1 a;rcases e1 with rfl|e1
   ·rcases a with rfl|a
    ·rfl
    exact absurd a (t l o n r)
   rcases a with rfl|a
   ·exact absurd e1 (t n r l o)
   have b:=ak.2 k;have z:=dn h b
   have E:0<=aQ c m:=by
    rcases Sq (aQ c m) 0 with q|q
    ·have C:fe c (aQ c m)=false:=by
      cases A:fe c (aQ c m)
      ·rfl
      have:=aJ.1 A;omega
     rw[cr h b,cq C]at e1;rcases e1 with e|e
     ·omega
     simp at e
    exact q
   obtain⟨p,f⟩: ∃p:Nat,aQ c m=p:=⟨(aQ c m).toNat,by omega⟩;rw[cr h b,f]at e1 a;rw[f]at z;exact D p (by omega) (by omega) (by rcases e1 with e|e;exact .inl (by omega);exact .inr e) (by rcases a with e|e;exact .inl (by omega);exact .inr e)
def kF{c:aq}(h:Right c): ∀(n:Nat)(i:Int), -1<=i->(c.Z9.length:Int)<=i+n->(mv c i).Nodup
 | 0,i,p,w=>by
   rw[Uf h p];have:aw c i false=[]:=Q2.2 fun k d=>by have:=bK h d;omega
   rw[this];simp
 | n+1,i,p,w=>by
   rw[Uf h p]
   have l: ∀k∈aw c i false,∀m,m∈k::mv c k->m<c.Z9.length/\(m=k\/(k:Int)∈mu c m):=fun k d m hm=>by
    have v:=bK h d;rcases O7.1 hm with rfl|hm
    ·exact⟨v.2, .inl rfl⟩
    obtain⟨t,u⟩:=(jd h n k m (by omega) (by omega)).1 hm;exact⟨t, .inr u⟩
   have j:=bQ c i false;rw[Pt]at j;rw[Pt,List.pairwise_flatMap];refine⟨fun k d=> ?_,?_⟩
   ·rw[<-Pt,QZ];have v:=bK h d;refine⟨fun hm=> ?_,kF h n k (by omega) (by omega)⟩;have:=(jd h n k k (by omega) (by omega)).1 hm;have:=kZ h 40 _ _ this.2;omega
   refine SE (R:=fun a b=>a≠b) ?_ j;intro x y f g s o q A r e;subst e;obtain⟨t,u⟩:=l x f o q;obtain⟨_,z⟩:=l y g o r;exact s (yP h f g (o+1) o (by omega) t u z)
/-! Sorting by the walk -/
def ca(c:aq)(l:List Int):List Nat:=if l.all (fe c)=true then(mv c (-1)).filter fun k=>l.contains (k:Int) else []
def Aq{c:aq}(h:Right c){l:List Int}(b:l.all (fe c)=true){k:Nat} :k∈ca c l↔(k:Int)∈l:=by
 unfold ca;rw[OL b,OY,jc h];simp only[OQ];refine⟨fun h=>h.2,fun a=>⟨ak.1 (OP.1 b _ a),a⟩⟩
def sE{c:aq}(h:Right c)(l:List Int):(ca c l).Nodup:=by
 unfold ca;split
 ·exact TD Pf (kF h 40 (-1) (by omega) (by have:=h.Z6;omega))
 simp
end Go.Proofs.YtfcdkaolcdglmaaGreatDoor
namespace Go.Proofs.YtfcdkaolcdglmaaGreatDoor
open Go.Proofs.Tryz
open Go.RowKit
structure cD(c:aq):Prop extends Right c where
 st: ∀(k:Nat)(s:pc),c.Z9[k]? =some s->cG c k s=true
 tr: ∀(k:Nat)(t:Fr),c.trans[k]? =some t->d9 c t=true
 ini:mb c=true
 ZF:c.trans.length<=64
def Vh{c:aq}(h:(qs c).1=0):cD c:=by
 refine⟨Az h,?_,?_,?_,?_⟩<;>
 ·unfold qs at h;split at h
  ·simp at h
  rename_i g;split at h
  ·simp at h
  split at h
  ·simp at h
  split at h
  ·simp at h
  rename_i d;split at h
  ·simp at h
  rename_i e;split at h
  ·simp at h
  rename_i f
  first
   |(intro k s a
     have:=cX d k (OG.1 a).1;unfold lm at this;rw[a]at this
     exact this)
   |(intro k t b
     have:=cX f k (OG.1 b).1;unfold rJ at this;rw[b]at this
     exact this)
   |(simpa using e)
   |omega
def cD.shape{c:aq}(h:cD c){k:Nat}{s:pc}(a:c.Z9[k]? =some s):dX c k s=true:=by
 have:=h.st k s a;simp only[cG,OJ]at this;exact this.1.1.2
def tB{l:List Nat}{n:Int} :Uw l n=true↔ ∃k∈l,(k:Int)=n:=by
 unfold Uw;rw[P1];simp
def cD.cases{c:aq}(h:cD c){k:Nat}{s:pc}(g:c.Z9[k]? =some s):
 (s.kind=1/\((aw c k true=[]/\s.initial= -1)\/ ∃j∈aw c k true,s.initial=(j:Nat)))\/(s.kind=2/\s.initial= -1/\aw c k true≠[]/\ ∀j∈aw c k true,ar c j=true)\/
  (s.kind=3/\aw c k false=[]/\s.initial= -1)\/((s.kind=4\/s.kind=5)/\aw c k false=[]/\cu c s=true/\Uw (aw c s.parent true) s.initial=true):=by
 have a:=h.shape g;unfold dX at a;split at a
 ·rename_i e;refine .inl ⟨e,?_⟩;split at a
  ·rename_i b;exact .inl ⟨b,by simpa using a⟩
  obtain⟨j,f,d⟩:=tB.1 a;exact .inr ⟨j,f,d.symm⟩
 split at a
 ·rename_i e;simp only[OJ,OR,P4,OP]at a;exact .inr (.inl ⟨e,a.2,fun b=>by rw[b]at a;simp at a,a.1.1⟩)
 split at a
 ·rename_i e;simp only[OJ,P4]at a;exact .inr (.inr (.inl ⟨e,by simpa using a.1.1.1,a.1.2⟩))
 split at a
 ·rename_i e;simp only[OJ,P4]at a;exact .inr (.inr (.inr ⟨e,by simpa using a.1.1.1.1,a.1.1.1.2,a.1.1.2⟩))
 cases a
def sa{c:aq}{i:Int}(h:aw c i false=[]):aw c i true=[]:=by
 apply Q2.2;intro k a;have:=(ae a).1;rw[h]at this;simp at this
abbrev zL(l:List Nat):List Int:=l.map fun k:Nat=>(k:Int)
/-! What begins with a state -/
def VH(c:aq):Nat->Nat->List Nat
 |0,_=>[]
 | f+1,i=>i::match c.Z9[i]? with
   |some s=>if s.kind=1/\0<=s.initial then VH c f s.initial.toNat else if s.kind=2 then(aw c i true).flatMap (VH c f) else []
   |none=>[]
def Fk(c:aq)(i:Nat):List Nat:=VH c 40 i
def yS{c:aq}(h:cD c){i:Nat}{s:pc}(a:c.Z9[i]? =some s)(d:s.kind=1)(b:0<=s.initial): ∃j∈aw c i true,s.initial=(j:Nat):=by
 rcases h.cases a with⟨_,⟨_,e⟩|e⟩|⟨e,_⟩|⟨e,_⟩|⟨e,_⟩
 ·omega
 ·exact e
 ·omega
 ·omega
 omega
def yk{c:aq}(h:cD c): ∀(f g:Nat)(i:Nat),i<c.Z9.length->c.Z9.length<=i+f->c.Z9.length<=i+g->VH c f i=VH c g i
 |0,g,i,a,b,d=>by omega
 |f+1,0,i,a,b,d=>by omega
 | f+1,g+1,i,a,b,d=>by
   unfold VH
   congr 1
   cases o:c.Z9[i]? with
   |none=>rfl
   | some s=>
     simp only;split
     ·rename_i e;obtain⟨j,m,l⟩:=yS h o e.1 e.2;have:=bK h.toRight (ae m).1;rw[l,Pd];exact yk h f g j (by omega) (by omega) (by omega)
     split
     ·apply dZ;intro k n;have:=bK h.toRight (ae n).1;exact yk h f g k (by omega) (by omega) (by omega)
     rfl
def KY(c:aq)(f i:Nat):VH c (f+1) i=i::match c.Z9[i]? with
 |some s=>if s.kind=1/\0<=s.initial then VH c f s.initial.toNat else if s.kind=2 then(aw c i true).flatMap (VH c f) else []
 |none=>[]:=rfl
def Mu{c:aq}(h:cD c){i:Nat}{s:pc}(e:c.Z9[i]? =some s):Fk c i=i::if s.kind=1/\0<=s.initial then Fk c s.initial.toNat else if s.kind=2 then(aw c i true).flatMap (Fk c) else []:=by
 have l:=(OG.1 e).1;have k:=h.Z6;have b:=KY c 39 i;rw[e]at b;simp only at b
 have f: ∀j,j∈aw c i true->VH c 39 j=Fk c j:=fun j d=>by
  have:=bK h.toRight (ae d).1;exact yk h 39 40 j (by omega) (by omega) (by omega)
 refine Eq.trans b (Oj (List.cons i) ?_);by_cases q:s.kind=1/\0<=s.initial
 ·rw[OL q,OL q];obtain⟨j,d,g⟩:=yS h e q.1 q.2;rw[g,Pd];exact f j d
 rw[OK q,OK q];by_cases a:s.kind=2
 ·rw[OL a,OL a];exact dZ f
 rw[OK a,OK a]
def oF{a c:Type}{f:a->List c} : ∀ {l:List a},(∀x∈l,f x=[])->l.flatMap f=[]
 |[],_=>rfl
 | x::l,h=>by
   simp only[Q8];rw[h x (by simp),oF fun y b=>h y (by simp[b])];rfl
def Un{d k:Type}{f:d->List k}{a:d} : ∀ {l:List d},l.Nodup->a∈l->(∀x∈l,x≠a->f x=[])->l.flatMap f=f a
 |[],_,c,_=>by simp at c
 | x::l,j,c,h=>by
   obtain⟨g,i⟩:=QZ.1 j;simp only[Q8];by_cases e:x=a
   ·subst e;rw[oF fun y b=>h y (by simp[b]) fun e=>g (e ▸ b),P9]
   rw[h x (by simp) e,QE];exact Un i ((O7.1 c).resolve_left (Py e)) fun y b=>h y (by simp[b])
def rT{c:aq}(h:cD c){i:Nat}{s:pc}(d:c.Z9[i]? =some s):Fk c i=i::(aw c i true).flatMap fun k=>if s.kind=2\/s.initial=(k:Nat) then Fk c k else []:=by
 rw[Mu h d]
 congr 1
 rcases h.cases d with⟨e,⟨a,b⟩|⟨j,f,b⟩⟩|⟨e,a,_⟩|⟨e,a,_⟩|⟨e,a,_⟩
 ·rw[a,OK (by omega),OK (by omega)];rfl
 ·rw[OL ⟨e,by omega⟩,b,Pd];rw[Un (bQ c i true) f fun x _ g=>by rw[OK];omega];rw[OL (.inr rfl)]
 ·rw[OK (by omega),OL e];apply dZ;intro k _;rw[OL (.inl e)]
 ·rw[OK (by omega),OK (by omega),sa a];rfl
 rw[OK (by omega),OK (by omega),sa a];rfl
def Ib{c:aq}(h:cD c): ∀(n i m:Nat),i<c.Z9.length->c.Z9.length<=i+n->m∈Fk c i->i<=m/\m<c.Z9.length
 |0,i,m,b,e,_=>by omega
 | n+1,i,m,b,e,a=>by
   obtain⟨s,f⟩:=gE b;rw[rT h f,O7,Q4]at a;rcases a with rfl|⟨k,d,a⟩
   ·exact⟨OO _,b⟩
   have g:=bK h.toRight (ae d).1;split at a
   ·have:=Ib h n k m (by omega) (by omega) a;omega
   simp at a
def yj{c:aq}(h:cD c){i:Nat}(hi:i<c.Z9.length):i∈Fk c i:=by
 obtain⟨s,a⟩:=gE hi;rw[rT h a];exact Rh ..
def Ur{c:aq}(h:cD c): ∀(n i m:Nat),i<c.Z9.length->c.Z9.length<=i+n->m∈Fk c i->m=i\/ ∃p s,p∈Fk c i/\c.Z9[p]? =some s/\m∈aw c p true/\(s.kind=2\/s.initial=(m:Nat))
 |0,i,m,b,o,_=>by omega
 | n+1,i,m,b,o,a=>by
   obtain⟨s,g⟩:=gE b;have f:=rT h g;rw[f,O7,Q4]at a;rcases a with rfl|⟨k,d,a⟩
   ·exact .inl rfl
   have t:=bK h.toRight (ae d).1;split at a
   ·rename_i e
    have sub: ∀x,x∈Fk c k->x∈Fk c i:=fun x r=>by
     rw[f,O7,Q4];exact .inr ⟨k,d,by rw[OL e];exact r⟩
    rcases Ur h n k m (by omega) (by omega) a with rfl|⟨p,q,j,l⟩
    ·exact .inr ⟨i,s,yj h b,g,d,e⟩
    exact .inr ⟨p,q,sub p j,l⟩
   simp at a
def Fa{c:aq}(h:cD c): ∀(n i m:Nat)(s:pc)(k:Nat),i<c.Z9.length->c.Z9.length<=i+n->m∈Fk c i->c.Z9[m]? =some s->k∈aw c m true->(s.kind=2\/s.initial=(k:Nat))->k∈Fk c i
 |0,i,m,s,k,g,u,_,_,_,_=>by omega
 | n+1,i,m,s,k,g,u,a,b,d,e=>by
   obtain⟨q,o⟩:=gE g;have r:=rT h o;have t:=a;rw[r,O7,Q4]at a |-;rcases a with rfl|⟨j,l,a⟩
   ·rw[o]at b;cases b;have f:=bK h.toRight (ae d).1;exact .inr ⟨k,d,by rw[OL e];exact yj h f.2⟩
   have f:=bK h.toRight (ae l).1;split at a
   ·rename_i p;exact .inr ⟨j,l,by rw[OL p];exact Fa h n j m s k (by omega) (by omega) a b d e⟩
   simp at a
def Dx{c:aq}(h:cD c){i m:Nat}{s:pc}(hi:i<c.Z9.length)(d:m∈Fk c i)(e:c.Z9[m]? =some s){k:Nat}(a:k∈aw c m true):k∈Fk c i↔s.kind=2\/s.initial=(k:Nat):=by
 have t:=h.Z6;refine⟨fun j=> ?_,Fa h 40 i m s k hi (by omega) d e a⟩;have u:=bK h.toRight (ae a).1;have l:=Ib h 40 i m hi (by omega) d;rcases Ur h 40 i k hi (by omega) j with rfl|⟨p,q,r,b,f,g⟩
 ·omega
 have n:=(eG.1 (ae f).1).2;have o:=(eG.1 (ae a).1).2;have:p=m:=by omega
 subst this;rw[e]at b;cases b;exact g
def xK{c:aq}(h:cD c){i m:Nat}(hi:i<c.Z9.length)(f:m∈Fk c i)(a:m≠i): ∃p:Nat,aQ c m=p/\p∈Fk c i:=by
 have k:=h.Z6;rcases Ur h 40 i m hi (by omega) f with e|⟨p,q,b,g,d,j⟩
 ·exact absurd e a
 exact⟨p,(eG.1 (ae d).1).2,b⟩
def NY{c:aq}(h:cD c){i:Nat}(hi:i<c.Z9.length):(zL (Fk c i)).all (fe c)=true:=by
 have d:=h.Z6;rw[OP];intro x b;obtain⟨k,a,rfl⟩:=OW.1 b;exact ak.2 (Ib h 40 i k hi (by omega) a).2
def Vl(c:aq)(i:Nat):List Nat:=ca c (zL (Fk c i))
def Kl{c:aq}(h:cD c){i:Nat}(hi:i<c.Z9.length){k:Nat} :k∈Vl c i↔k∈Fk c i:=by
 unfold Vl;rw[Aq h.toRight (NY h hi),OW];constructor
 ·rintro⟨j,a,e⟩;have:j=k:=by omega
  exact this ▸ a
 exact fun b=>⟨k,b,rfl⟩
end Go.Proofs.YtfcdkaolcdglmaaGreatDoor
namespace Go.Proofs.YtfcdkaolcdglmaaGreatDoor
open Go.Proofs.Tryz
open Go.RowKit
def cR(act:List Int)(a:List Nat):Nat:=(a.filter fun k:Nat=>act.contains (k:Int)).length
def Ey(act:List Int)(a:List Nat):cR act a<=a.length:=Ol ..
def yX(c:aq)(act:List Int)(i:Nat)(s:pc):Bool:=
 !ab s&&(decide (s.parent<0)||act.contains s.parent)&&
  (if s.kind=1/\aw c i true≠[] then cR act (aw c i true)==1 else if s.kind=2 then cR act (aw c i true)==(aw c i true).length else true)
def vA(c:aq)(act:List Int)(i:Int):Bool:=match at_ c i with
 |some s=>yX c act i.toNat s
 |none=>false
def yO(c:aq)(act:List Int)(n:Nat):Bool:=match act[n]? with
 |some i=>(n==0||decide (act.getD (n-1) 0<i))&&vA c act i
 |none=>true
def rE(c:aq)(act:List Int):Int×Int:=match bC (yO c act) act.length with
 |some n=>(1,max (act.getD n 0) (-1))
 |none=>if cR act (aw c (-1) true)=1 then(0, -1) else(1, -1)
def F'(c:aq)(act:List Int):Bool:=(rE c act).1==0
def zB{c:aq}{act:List Int} :F' c act=true↔(∀n,n<act.length->yO c act n=true)/\cR act (aw c (-1) true)=1:=by
 unfold F' rE;cases h:bC (yO c act) act.length with
 | some n=>
   refine⟨fun e=>by simp at e,fun e=> ?_⟩;rw[bN e.1]at h;cases h
 | none=>
   simp only;split
   ·rename_i e;exact⟨fun _=>⟨fun n b=>cX h n b,e⟩,fun _=>rfl⟩
   rename_i e;exact⟨fun a=>by simp at a,fun a=>absurd a.2 e⟩
/-! What is active at first -/
def Tr(c:aq):Nat:=c.initial.toNat
def cD.topS{c:aq}(h:cD c): ∃s,c.Z9[Tr c]? =some s/\c.initial=(Tr c:Nat)/\s.parent= -1/\(s.kind=1\/s.kind=2):=by
 have:=h.ini;unfold mb at this;cases a:at_ c c.initial with
 |none=>rw[a]at this;simp at this
 | some s=>
   rw[a]at this;unfold at_ at a;split at a
   ·rename_i b;refine⟨s,a,by unfold Tr;omega,?_⟩;simp only[eO,OJ,P4,PS]at this;exact⟨this.1,this.2⟩
   cases a
def rR(c:aq):List Nat:=(List.range c.Z9.length).filter fun k=>decide (k∈Vl c (Tr c))
def j9{c:aq}(h:cD c){k:Nat} :k∈rR c↔k∈Fk c (Tr c):=by
 obtain⟨s,b,_⟩:=h.topS;have a:=(OG.1 b).1;unfold rR;rw[OY,Oh,OR,Kl h a];exact⟨fun e=>e.2,fun e=>⟨(Ib h 40 _ k a (by have:=h.Z6;omega) e).2,e⟩⟩
def ul{l:List Nat}{k:Nat} :(zL l).contains (k:Int)=true↔k∈l:=by
 rw[OQ];unfold zL;rw[OW];constructor
 ·rintro⟨j,a,b⟩;have:j=k:=by omega
  exact this ▸ a
 exact fun h=>⟨k,h,rfl⟩
def filter_one{d:Type} [DecidableEq d]{p:d->Bool}{a:d} : ∀ {l:List d},l.Nodup->a∈l->(∀x∈l,p x=true↔x=a)->l.filter p=[a]
 |[],_,h,_=>by simp at h
 | x::l,k,j,b=>by
   obtain⟨g,i⟩:=QZ.1 k;by_cases e:x=a
   ·subst e;rw[QH,OL ((b x (by simp)).2 rfl),Q5.2 fun y (c:y∈l) f=>g ((b y (Pi _ c)).1 f ▸ c)]
   rw[QH,OK fun f=>e ((b x (by simp)).1 f)];exact filter_one i ((O7.1 j).resolve_left (Py e)) fun y c=>b y (Pi _ c)
def Cc{p:Nat->Bool}{n:Nat} :((List.range n).filter p).Pairwise (· < ·):=List.Pairwise.sublist Pf List.pairwise_lt_range
def Mm{c:aq}{l:List Nat}(h:l.Pairwise (· < ·))(f: ∀k∈l,vA c (zL l) k=true)(i:cR (zL l) (aw c (-1) true)=1):F' c (zL l)=true:=by
 rw[zB];refine⟨fun n g=> ?_,i⟩;have a:n<l.length:=by simpa[zL]using g
 have e:(zL l)[n]? =some ((l[n]:Nat):Int):=by unfold zL;rw[OS,OE a];rfl
 unfold yO;rw[e];simp only[OJ,PS,P4,OR];refine⟨?_,f _ (PV a)⟩;by_cases d:n=0
 ·exact .inl d
 right;have:=Ow.1 h (n-1) n (by omega) a (by omega)
 have b:(zL l).getD (n-1) 0=((l[n-1]'(by omega):Nat):Int):=by
  unfold zL;rw[Oe,OS,OE (by omega)];rfl
 rw[b];omega
def J4{l a:List Nat}(h: ∀k∈a,k∈l):cR (zL l) a=a.length:=by
 unfold cR;rw[List.filter_eq_self.2 fun k b=>ul.2 (h k b)]
def BP{l a:List Nat}{j:Nat}(d:a.Nodup)(b:j∈a)(h: ∀k∈a,k∈l↔k=j):cR (zL l) a=1:=by
 unfold cR;rw[filter_one d b fun k c=>ul.trans (h k c)];rfl
def MV{c:aq}(h:cD c){i m:Nat}{t:pc}(b:c.Z9[i]? =some t)(a:ab t=false)(j:m∈Fk c i): ∃s,c.Z9[m]? =some s/\ab s=false:=by
 have g:=(OG.1 b).1;rcases Ur h 40 i m g (by have:=h.Z6;omega) j with rfl|⟨p,q,_,_,f,_⟩
 ·exact⟨t,b,a⟩
 obtain⟨_,s,d,e⟩:=ae f;exact⟨s,d,e⟩
def AK{c:aq}(h:cD c):F' c (zL (rR c))=true:=by
 obtain⟨t,m,v,r,o⟩:=h.topS;have l:=(OG.1 m).1
 have i:ab t=false:=by
  unfold ab;rcases o with e|e<;>rw[e]<;>rfl
 refine Mm Cc (fun k y=> ?_) ?_
 ·have d:=(j9 h).1 y;obtain⟨s,b,z⟩:=MV h m i d;unfold vA;rw[bO,b];simp only[Pd];unfold yX;rw[z,OJ,OJ];refine⟨⟨rfl,?_⟩,?_⟩
  ·rw[PS,OR];by_cases e:k=Tr c
   ·subst e;rw[m]at b;cases b;left;omega
   obtain⟨p,n,w⟩:=xK h l d e;rw[fH b]at n;right;rw[n];exact ul.2 ((j9 h).2 w)
  have g: ∀j∈aw c k true,(j∈rR c↔s.kind=2\/s.initial=(j:Nat)):=fun j f=>(j9 h).trans (Dx h l d b f);split
  ·rename_i e;rw[P4];rcases h.cases b with⟨_,⟨a,_⟩|⟨j,f,a⟩⟩|⟨a,_⟩|⟨a,_⟩|⟨a,_⟩
   ·exact absurd a e.2
   ·exact BP (bQ ..) f fun x u=>(g x u).trans ⟨fun q=>q.elim (fun q=>by omega) fun q=>by omega,fun q=> .inr (by rw[q];exact a)⟩
   ·omega
   ·omega
   omega
  split
  ·rename_i e;rw[P4];exact J4 fun j f=>(g j f).2 (.inl e)
  rfl
 refine BP (j:=Tr c) (bQ ..) (ES m r i) fun x u=> ?_;rw[j9 h];constructor
 ·intro d;by_cases e:x=Tr c
  ·exact e
  obtain⟨p,n,_⟩:=xK h l d e;have:=(eG.1 (ae u).1).2;omega
 rintro rfl;exact yj h l
/-! What begins is few -/
def LY{c:aq}(h:cD c): ∀(n i m:Nat),i<c.Z9.length->c.Z9.length<=i+n->m∈Fk c i->m<c.Z9.length/\(m=i\/(i:Int)∈mu c m)
 |0,i,m,d,l,_=>by omega
 | n+1,i,m,d,l,a=>by
   obtain⟨s,o⟩:=gE d;rw[rT h o,O7,Q4]at a;rcases a with rfl|⟨k,f,a⟩
   ·exact⟨d, .inl rfl⟩
   have j:=bK h.toRight (ae f).1;have e:=(eG.1 (ae f).1).2;have b:(i:Int)∈mu c k:=(cr h.toRight (ak.2 j.2)).2 (.inl e.symm);split at a
   ·obtain⟨g,h2⟩:=LY h n k m (by omega) (by omega) a;refine⟨g, .inr ?_⟩;rcases h2 with rfl|h2
    ·exact b
    exact iO h.toRight (m+1) m k i (by omega) h2 b
   simp at a
def CJ{c:aq}(h:cD c): ∀(n i:Nat),i<c.Z9.length->c.Z9.length<=i+n->(Fk c i).Nodup
 |0,i,w,y=>by omega
 | n+1,i,w,y=>by
   obtain⟨s,z⟩:=gE w;rw[rT h z,QZ]
   have f: ∀k∈aw c i true,∀m,m∈(if s.kind=2\/s.initial=(k:Nat) then Fk c k else [])->m<c.Z9.length/\(m=k\/(k:Int)∈mu c m):=fun k g m d=>by
    have v:=bK h.toRight (ae g).1;split at d
    ·exact LY h n k m (by omega) (by omega) d
    simp at d
   refine⟨fun d=> ?_,?_⟩
   ·obtain⟨k,g,d⟩:=Q4.1 d;have v:=bK h.toRight (ae g).1;obtain⟨x,u⟩:=f k g i d;rcases u with e|e
    ·omega
    have:=kZ h.toRight 40 _ _ e;omega
   have o:=bQ c i true;rw[Pt]at o;rw[Pt,List.pairwise_flatMap];refine⟨fun k g=> ?_,?_⟩
   ·have v:=bK h.toRight (ae g).1;rw[<-Pt];split
    ·exact CJ h n k (by omega) (by omega)
    exact .nil
   refine SE (R:=fun a b=>a≠b) ?_ o;intro A B j l t p q D r e;subst e;obtain⟨x,u⟩:=f A j p q;obtain⟨_,C⟩:=f B l p r;exact t (yP h.toRight (ae j).1 (ae l).1 (p+1) p (by omega) x u C)
def LM{c:aq}(h:cD c){i:Nat}(hi:i<c.Z9.length):(Fk c i).length<=32:=by
 have b:=h.Z6;have:=(CJ h 40 i hi (by omega)).length_le_of_subset (l₂:=List.range c.Z9.length) fun m a=>Oh.2 (LY h 40 i m hi (by omega) a).1;simp at this;omega
def EK{c:aq}(h:cD c)(i:Nat):(Vl c i).length<=32:=by
 have b:=h.Z6
 have:=(sE h.toRight (zL (Fk c i))).length_le_of_subset (l₂:=List.range c.Z9.length) fun m a=>by
  unfold ca at a;split at a
  ·exact Oh.2 ((jc h.toRight m).1 (OY.1 a).1)
  simp at a
 unfold Vl;simp at this;omega
end Go.Proofs.YtfcdkaolcdglmaaGreatDoor
namespace Go.Proofs.YtfcdkaolcdglmaaGreatDoor
open Go.Proofs.Tryz
open Go.RowKit
/-! The n-th ones -/
end Go.Proofs.YtfcdkaolcdglmaaGreatDoor
namespace Go.Proofs.YtfcdkaolcdglmaaGreatDoor
open Go.Proofs.Tryz
open Go.RowKit
def sM(c:aq)(l:List Nat):List Nat:=(List.range c.Z9.length).filter fun k=>Uw l (k:Int)
def yU{l:List Nat}{k:Nat} :Uw l (k:Int)=true↔k∈l:=by
 rw[tB];constructor
 ·rintro⟨j,a,b⟩;have:j=k:=by omega
  exact this ▸ a
 exact fun h=>⟨k,h,rfl⟩
/-! One more is none -/
end Go.Proofs.YtfcdkaolcdglmaaGreatDoor
