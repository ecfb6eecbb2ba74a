/- Sorts of the library as calls that turn a row of the call's own. No program is named here. -/
import Derived.Test.YtfcdkaolcdglmaaGreatDoorP9
import Derived.Test.YtfcdkaolcdglmaaGreatDoorP6
import Derived.Test.YtfcdkaolcdglmaaGreatDoorRows
import Derived.LaidMore
import Derived.Stop.Joined
import Derived.Shelf.Sort.Plain
import Derived.Shelf.Slices.CompactS
set_option linter.unusedSimpArgs false
set_option maxRecDepth 100000
set_option maxHeartbeats 1000000
set_option linter.defProp false
namespace Go.Proofs.YtfcdkaolcdglmaaGreatDoor
open Go.Proofs.Tryz
section
open Go.RowKit
def b8(k n:Nat):List UInt8:=(List.range k).map fun j=>UInt8.ofNat (n/256^j)
def aU(k n:Nat):(b8 k n).length=k:=by simp[b8]
def HH(k n:Nat):b8 (k+1) n=b8 k n++[UInt8.ofNat (n/256^k)]:=by simp[b8,Qe]
def lu(n:Int):Bool:=decide (n=1\/n=2\/n=4\/n=8)
def nO(n:Int)(w:World):Calls prog 118 #[.int .i64 n] w fun e w'=>e= .returned (.bool (lu n))/\w=w':=by
 by_cases h1:n=1
 ·subst h1
  go_enter func118,ntmps118
  go_wp2
  go_ret
  exact⟨rfl,rfl⟩
 by_cases h2:n=2
 ·subst h2
  go_enter func118,ntmps118
  go_wp2
  go_ret
  exact⟨rfl,rfl⟩
 by_cases h4:n=4
 ·subst h4
  go_enter func118,ntmps118
  go_wp2
  go_ret
  exact⟨rfl,rfl⟩
 by_cases h8:n=8
 ·subst h8
  go_enter func118,ntmps118
  go_wp2
  go_ret
  exact⟨rfl,rfl⟩
 have e1:(n==1)=false:=by simp[h1]
 have e2:(n==2)=false:=by simp[h2]
 have e4:(n==4)=false:=by simp[h4]
 have e8:(n==8)=false:=by simp[h8]
 go_enter func118,ntmps118
 go_wp2
 go_ret
 exact⟨by simp[lu,h1,h2,h4,h8],rfl⟩
def Ij(s:ByteArray)(w:World):Calls prog 15 #[.string s, .nilIface] w fun e w'=>e= .returned .nilIface/\w=w':=by
 go_enter func15,ntmps15
 go_wp2
 go_ret
 exact⟨rfl,rfl⟩
def vV(s:ByteArray)(t:TypeId)(v:Value)(w:World):Calls prog 15 #[.string s, .iface t v] w fun e w'=>e= .returned (.iface 120 (.pointer (some ⟨w.heap.size,0,none⟩)))/\w.alloc (.cells #[.string s, .int .i64 (-1), .iface t v] 122)=w':=by
 go_enter func15,ntmps15
 go_wp2
 go_ret
 exact⟨rfl,rfl⟩
def Tryz.infoU8:(prog.info? 5).map (fun i=>(i.zero,i.size,i.bytes))=some (some (.int .u8 0),1,1):=by kernel_rfl
def Jm(A:Option Addr)(c:Nat)(bs:List UInt8)(n wd:Nat)(w:World)(hr:c0 w w.heap.size 1 A bs.length (bv bs))(hl:bs.length<=140737488351232)(hn:n<18446744073709551616)
 (hw:wd=1\/wd=2\/wd=4\/wd=8)(hf:n<256^wd):
 Calls prog 66 #[.slice A bs.length c, .int .u64 n, .int .i64 wd] w fun e w'=> ∃v,e= .returned (.tuple #[v, .nilIface])/\w'.ownsRow w.heap.size 5 1 v (bs.length+wd) (bv (bs++b8 wd n))/\Below w.heap.size w w':=by
 obtain⟨i0,hi0,hz0,hz1,hz2⟩:=TB Tryz.infoU8;have b1:lu wd=true:=by simp[lu];omega
 have hx:((n:Int)/2^(8*wd)==0)=true:=by
  rw[Ir,P4]
  exact_mod_cast S9 hf
 have hx':((n:Int)/2^(8*wd) != 0)=false:=by simp only[bne,hx];rfl
 have HF:=OI hf;try clear hf
 have hw':wd<8\/8<=wd:=by omega
 have HR:=OI hr;try clear hr
 have hwd:wd<=8:=by omega
 have HW:=OI hw;try clear hw
 have fin: ∀W,W=w->Calls prog 66 #[.slice A bs.length c, .int .u64 n, .int .i64 wd] W fun e w'=> ∃v,e= .returned (.tuple #[v, .nilIface])/\w'.ownsRow w.heap.size 5 1 v (bs.length+wd) (bv (bs++b8 wd n))/\Below w.heap.size w w':=by
  rintro W rfl;rcases hw' with h8|h8
  all_goals
   go_enter func66,ntmps66
   go_wp2_with (first
    |(go_at_call 118;refine(nO _ _).mono ?_;rintro e w' ⟨rfl,rfl⟩)
    |(at_builtin;refine bS _ rfl (.tmp 25) (.tmp 26) _ rfl W.heap.size 5 i0 _ 1 1 Tryz.underlying45 hi0 hz0 hz1 hz2 rfl (by decide) (.slice (some ⟨W.heap.size,0,none⟩) 0 0) 0 [] rfl (World.ownsRow_made W #[] 0 (OO _) (by decide) rfl) W.heap.size A bs.length c (bv bs) rfl (HR.out.alloc (OO _) _) (NW bs) (by unfold maxLen;omega) (by omega) (by simp) ?_;intro v1 w1 hown1 hg1 hat1))
   have hB1:Below W.heap.size W w1:=((Oy _ _).alloc (OO _) _).grown hg1 (by simp) (by simp[Value.ownBlock]);have HO:=OI hown1;have HB1:=OI hB1;try clear hown1 hB1 hg1 hat1
   go_loopw [8,1,29] (fun v8 v1 v29 wr=> ∃k m:Nat,k<=wd/\v29= .int .i64 k/\v1= .int .u64 m/\m=n/256^k/\wr.ownsRow W.heap.size 5 1 v8 (bs.length+k) (bv (bs++b8 k n))/\Below W.heap.size W wr) (fun _ _ i _=>wd-(intOf i).toNat)
   case atStart=>exact⟨0,n,by omega,rfl,rfl,by simp,by simpa[b8]using HO.out,HB1.out⟩
   case round=>
    obtain⟨k,m,hk,rfl,rfl,hm,hO,hB⟩:=hrel;by_cases hlt:k<wd
    ·have HM:=OI hm;have HO2:=OI hO;have HB:=OI hB;have hm2:m<18446744073709551616:=by rw[hm];exact Nat.lt_of_le_of_lt (T3 _ _) hn
     try clear hm hO hB
     go_wp2_with (at_builtin;refine bS _ rfl (.tmp 31) (.tmp 34) _ rfl W.heap.size 5 i0 _ 1 1 Tryz.underlying45 hi0 hz0 hz1 hz2 rfl (by decide) u8 (bs.length+k) (bv (bs++b8 k n)) rfl (HO2.out.alloc _) (wr.heap.size+1) (some ⟨wr.heap.size,0,none⟩) 1 1 [.int .u8 ((m:Int)%256)] rfl (c0.boxed wr 5 #[.int .u8 ((m:Int)%256)] 1 1 rfl) (by simp[Value.oneCell']) (by unfold maxLen;omega) (by omega) (by have:=HB.out.size;simp;omega) ?_;intro v2 w2 hown2 hg2 hat2)
     have hB2:=OI (oR HB.out HB.out.size hg2 HO2.out);have HO3:=OI hown2;try clear hown2 hg2 hat2
     go_wp2
     go_roundw
     case rel=>
      refine⟨k+1,m/256,by omega,by go_num,by go_num,?_,?_,hB2.out⟩
      ·rw[HM.out,Ri,SY]
      rw[<-QY,HH, <-O1,xI]
      have e:bv [UInt8.ofNat (n/256^k)]=[.int .u8 ((m:Int)%256)]:=by
       rw[HM.out];simp[bv]
      rw[e];exact HO3.out
     case measure=>simp[intOf];omega
    obtain rfl:k=wd:=by omega
    go_wp2
    go_ret2
    exact⟨_,rfl,hO,hB⟩
 exact fin w rfl
def Bi(A:Option Addr)(l c:Nat)(b:List UInt8)(n a:Nat)(w:World)(d:b.length=l)(j:c0 w w.heap.size 1 A l (bv b))(h:l<=140737488351232)(i:n<18446744073709551616)
 (m:a=1\/a=2\/a=4\/a=8)(f:n<256^a)(k:Int)(g:k=a):
 Calls prog 66 #[.slice A l c, .int .u64 n, .int .i64 k] w fun e w'=> ∃v,e= .returned (.tuple #[v, .nilIface])/\w'.ownsRow w.heap.size 5 1 v (l+a) (bv (b++b8 a n))/\Below w.heap.size w w':=by
 subst d g;exact Jm A c b n a w j h i m f
def lE:List UInt8->Nat
 |[]=>0
 |c::r=>c.toNat+256*lE r
def o0: ∀l:List UInt8,lE l<256^l.length
 |[]=>by simp[lE]
 | c::r=>by
   have:=o0 r;have:=c.toNat_lt;rw[lE,OU,SY];omega
def rp(k:Nat): ∀n,n<256^k->lE (b8 k n)=n:=by
 induction k with
 |zero=>intro n a;simp at a;subst a;rfl
 | succ k b=>
   intro n a;rw[SY]at a
   have e:b8 (k+1) n=UInt8.ofNat n::b8 k (n/256):=by
    simp only[b8,List.range_succ_eq_map,PE,Q1]
    congr 1
    ·simp
    apply Po;intro j _;simp only[Function.comp];rw[Ri, <-TL]
   rw[e,lE,b _ (by omega)];simp only[UInt8.toNat_ofNat'];omega
def JP(a b:Nat)(d:a<72057594037927936)(f:b<256):bits .or .u64 ((a:Int)*256) (b:Int)=(a:Int)*256+b:=by
 rw[show (a:Int)*256=((a*256:Nat):Int) by omega]
 have c: ∀x:Nat,x<18446744073709551616->(BitVec.ofInt 64 (x:Int)).toNat=x:=fun x g=>by
  rw[Qt,Rj];exact Qw (by omega)
 show IntKind.u64.wrap ((BitVec.ofInt 64 ((a*256:Nat):Int)||| BitVec.ofInt 64 (b:Int)).toNat:Int)=_;rw[T4,c _ (by omega),c _ (by omega),IntKind.wrap_u64]
 have e:a*256||| b=a*256+b:=by
  have:=Nat.two_pow_add_eq_or_of_lt (i:=8) (b:=b) (by omega) a;rw[QU a 256];exact this.symm
 rw[e];omega
def cut(a:List UInt8)(at_ b:Nat):List UInt8:=(a.drop at_).take b
def jN(b:List UInt8)(at_ a:Nat)(h:at_+a<=b.length):(cut b at_ a).length=a:=by simp[cut];omega
def F6(a:List UInt8)(at_ b j:Nat)(h:at_+b<=a.length)(c:j<b):(cut a at_ b)[j]'(by rw[jN _ _ _ h];exact c)=a[at_+j]'(by omega):=by
 simp[cut]
def zQ(a:List UInt8)(j:Nat)(h:j<a.length):(bv a)[j]? =some (.int .u8 (a[j].toNat:Int)):=by simp[bv,h]
def li(A:Option Addr)(n c:Nat)(bs:List UInt8)(at_ wd:Nat)(w:World)(hn:bs.length=n)(hr:c0 w w.heap.size 1 A n (bv bs))(hl:n<=140737488351232)
 (hw:wd=1\/wd=2\/wd=4\/wd=8)(hf:at_+wd<=n)(ka kw:Int)(hka:ka=at_)(hkw:kw=wd):
 Calls prog 68 #[.slice A n c, .int .i64 ka, .int .i64 kw] w fun e w'=>e= .returned (.tuple #[.int .u64 (lE (cut bs at_ wd)), .nilIface])/\w=w':=by
 subst hka hkw;have b1:lu wd=true:=by simp[lu];omega
 have hwd:wd<=8:=by omega
 have hw0:1<=wd:=by omega
 have hN:=OI hn;obtain⟨b,off,rfl,_,hcell⟩:=hr.2 (by omega);have HC:=OI hcell;try clear hn hr hcell hw
 go_enter func68,ntmps68
 go_wp2_with (go_at_call 118;refine(nO _ _).mono ?_;rintro e w' ⟨rfl,rfl⟩)
 go_loop [8,9] (fun v8 v9=> ∃k m:Nat,k<=wd/\v9= .int .i64 ((wd:Int)-1-k)/\v8= .int .u64 m/\m=lE ((cut bs at_ wd).drop (wd-k))) (fun _ i=>(intOf i+1).toNat)
 case atStart=>exact⟨0,0,by omega,by simp,rfl,by rw[Rw,SX (by rw[jN _ _ _ (by rw[hN.out];exact hf)];exact OO _)];rfl⟩
 case round=>
  obtain⟨k,m,hk,rfl,rfl,hm⟩:=hrel;by_cases hlt:k<wd
  ·have hj:at_+(wd-1-k)<bs.length:=by rw[hN.out];omega
   have hc:=HC.out (at_+(wd-1-k)) _ (zQ bs _ hj)
   have hm2:m<72057594037927936:=by
    have h1:=o0 ((cut bs at_ wd).drop (wd-k));have h2:((cut bs at_ wd).drop (wd-k)).length<=7:=by rw[QF,jN _ _ _ (by rw[hN.out];exact hf)];omega
    have h3:256^((cut bs at_ wd).drop (wd-k)).length<=256^7:=Pz (by decide) h2;omega
   have hs:lE ((cut bs at_ wd).drop (wd-(k+1)))=bs[at_+(wd-1-k)].toNat+256*lE ((cut bs at_ wd).drop (wd-k)):=by
    rw[QM (show wd-(k+1)< (cut bs at_ wd).length by rw[jN _ _ _ (by rw[hN.out];exact hf)];omega),lE,F6 bs at_ wd _ (by rw[hN.out];exact hf) (by omega)];rw[show wd-(k+1)+1=wd-k by omega]
    congr 3
    omega
   have hx:=bs[at_+(wd-1-k)].toNat_lt;have ho:=JP m bs[at_+(wd-1-k)].toNat hm2 hx;have e3:(at_:Int)+((wd:Int)-1-k)=((at_+(wd-1-k):Nat):Int):=by omega
   have HS:=OI hs;have HM:=OI hm;generalize bs[at_+(wd-1-k)].toNat=x at*;try clear hs hm
   go_wp2_with fail
   go_round
   case rel=>
    refine⟨k+1,m*256+x,by omega,?_,by go_num,?_⟩
    ·congr 1
     omega
    rw[HS.out, <-HM.out];omega
   case measure=>simp[intOf];omega
  obtain rfl:k=wd:=by omega
  have HM:=OI hm;try clear hm
  go_wp2_with fail
  go_ret2
  refine⟨?_,rfl⟩;rw[HM.out,Sp,Td];rfl
def ku(n:Nat)(f:Nat->Bool):Bool:=(List.range n).all f
def ba{n:Nat}{f:Nat->Bool}(h: ∀j,j<n->f j=true):ku n f=true:=by
 simp only[ku,OP,Oh];exact h
def cm{n k:Nat}{f:Nat->Bool}(b:k<n)(h:f k=false):ku n f=false:=by
 rw[<-Bool.not_eq_true,ku,OP];intro a;have:=a k (by simpa using b);rw[h]at this;cases this
def dC{n:Nat}{f:Nat->Bool}(h:ku n f=true)(j:Nat)(a:j<n):f j=true:=by
 simp only[ku,OP,Oh]at h;exact h j a
structure Rc where
 Z5:Int
 born:Int
 steps:Int
 Z8:List Int
 vars:List Int
 mem:List (Int×List Int)
 timers:List (List UInt8×Int)
 over:Bool
def jP(n:Int):Bool:=decide (0<=n/\n<=1099511627776)
def i6(l:List Int)(j:Nat):Bool:=decide (0<=l.getD j 0)&&decide (l.getD j 0<=31)&&(decide (j=0)||decide (l.getD (j-1) 0<l.getD j 0))
def aX(l:List Int):Bool:=ku l.length (i6 l)&&decide (0<l.length)
def lU(l:List Int)(j:Nat):Bool:=decide (-2147483647<=l.getD j 0)&&decide (l.getD j 0<=2147483647)
def iB(l:List Int):Bool:=ku l.length (lU l)&&decide (l.length<=8)
def mo(l:List (Int×List Int))(j:Nat):Bool:=
 (decide (0<=(l.getD j (0,[])).1)&&decide ((l.getD j (0,[])).1<=31))&&aX (l.getD j (0,[])).2&&(decide (j=0)||decide ((l.getD (j-1) (0,[])).1< (l.getD j (0,[])).1))
def qP(l:List (Int×List Int)):Bool:=ku l.length (mo l)
def jV(l:List (List UInt8×Int))(j:Nat):Bool:=
 bT (l.getD j ([],0)).1&&jP (l.getD j ([],0)).2&&(decide (j=0)||Op.bytesLess (l.getD (j-1) ([],0)).1 (l.getD j ([],0)).1)
def ay(l:List (List UInt8×Int)):Bool:=ku l.length (jV l)&&decide (l.length<=8)
def nK(r:Rc):Bool:=decide (1<=r.Z5/\r.Z5<=2147483647)&&jP r.born&&jP r.steps
def aW(r:Rc):Bool:=nK r&&aX r.Z8&&iB r.vars&&qP r.mem&&ay r.timers
def nw(l:List Int):Nat:=(l.map fun i=>2^i.toNat).sum
def DM(n:Int):Nat:=if n<0 then(-2*n-1).toNat else(2*n).toNat
def cL(l:List Int):List UInt8:=l.flatMap fun v=>b8 4 (DM v)
def bU(l:List (Int×List Int)):List UInt8:=l.flatMap fun m=>b8 1 m.1.toNat++b8 4 (nw m.2)
def pb(l:List (List UInt8×Int)):List UInt8:=l.flatMap fun t=>b8 2 t.1.length++t.1++b8 8 t.2.toNat
def kh(r:Rc):List UInt8:=[73,49]++b8 4 r.Z5.toNat++b8 8 r.born.toNat++b8 8 r.steps.toNat++b8 1 r.over.toNat++b8 4 (nw r.Z8)++b8 1 r.vars.length
def kb(r:Rc):List UInt8:=kh r++cL r.vars++b8 1 r.mem.length++bU r.mem++b8 1 r.timers.length++pb r.timers
def eM{a:Type}(f:a->List UInt8)(l:List a)(k:Nat)(h:k<l.length):(l.take (k+1)).flatMap f=(l.take k).flatMap f++f l[k]:=by
 rw[PG h,QC];simp
def GN(l:List Int)(x:Int):nw (l++[x])=nw l+2^x.toNat:=by simp[nw]
def jZ(l:List Int)(k:Nat)(h:k<l.length):nw (l.take (k+1))=nw (l.take k)+2^l[k].toNat:=by
 rw[PG h,GN]
def al{a:Type}(l:List a)(k:Nat)(d:a)(h:k<l.length):l.getD k d=l[k]:=by simp[List.getD,h]
def kU{l:List Int}{j:Nat}(h:i6 l j=true):0<=l.getD j 0/\l.getD j 0<=31/\(j=0\/l.getD (j-1) 0<l.getD j 0):=by
 simp only[i6,OJ,PS,OR]at h;exact⟨h.1.1,h.1.2,h.2⟩
def sK(l:List Int): ∀k,(∀j,j<=k->j<l.length->i6 l j=true)->k<l.length->nw (l.take k)<2^(l.getD k 0).toNat
 |0,_,_=>by simp[nw];exact Qg (by decide)
 | k+1,h,b=>by
   have f:=sK l k (fun j e=>h j (by omega)) (by omega);rw[jZ l k (by omega), <-al l k 0 (by omega)];have a:=kU (h (k+1) (by omega) b);have c:=kU (h k (by omega) (by omega))
   have d:l.getD k 0<l.getD (k+1) 0:=by
    have:=a.2.2;simp at this;simpa using this
   have:(2:Nat)^((l.getD k 0).toNat+1)<=2^(l.getD (k+1) 0).toNat:=Pz (by decide) (by omega);rw[SY]at this;omega
def xZ(l:List Int)(h:ku l.length (i6 l)=true)(k:Nat)(c:k<=l.length):nw (l.take k)<4294967296:=by
 cases k with
 |zero=>simp[nw]
 | succ k=>
   have d:=sK l k (fun j _ a=>dC h j a) (by omega);rw[jZ l k (by omega), <-al l k 0 (by omega)];have b:=kU (dC h k (by omega));have:(2:Nat)^((l.getD k 0).toNat+1)<=2^32:=Pz (by decide) (by omega);rw[SY]at this;omega
def kM(l:List Int)(h:ku l.length (i6 l)=true):nw l<4294967296:=by
 have:=xZ l h l.length (OO _);rwa [Ob]at this
/-! How bytes are read -/
def Bx(b:List UInt8)(at_ a:Nat):Option (Nat×Nat):=if at_+a<=b.length/\lE (cut b at_ a)<=4611686018427387904 then some (lE (cut b at_ a),at_+a) else none
def Uo(a:List UInt8)(at_:Nat):Option (List UInt8×Nat):=
 if at_+2<=a.length/\at_+2+lE (cut a at_ 2)<=a.length then some (cut a (at_+2) (lE (cut a at_ 2)),at_+2+lE (cut a at_ 2)) else none
def px(n:Nat):Int:=if n%2=1 then -(((n+1)/2:Nat):Int) else((n/2:Nat):Int)
def Ud{d:Type}(c:List UInt8)(K:List Int->Nat->Option d):Nat->Nat->List Int->Option d
 |0,a,b=>K b a
 |n+1,a,b=>(Bx c a 4).bind fun x=>Ud c K n x.2 (b++[px x.1])
def R'{d:Type}(c:List UInt8)(K:List (Int×List Int)->Nat->Option d):Nat->Nat->List (Int×List Int)->Option d
 |0,a,b=>K b a
 |n+1,a,b=>(Bx c a 1).bind fun x=>(Bx c x.2 4).bind fun y=>R' c K n y.2 (b++[((x.1:Int),i' y.1)])
def UE{d:Type}(c:List UInt8)(K:List (List UInt8×Int)->Nat->Option d):Nat->Nat->List (List UInt8×Int)->Option d
 |0,a,b=>K b a
 |n+1,a,b=>(Uo c a).bind fun x=>(Bx c x.2 8).bind fun y=>UE c K n y.2 (b++[(x.1,(y.1:Int))])
def p9(d:List UInt8)(c b s:Int)(o:Bool)(e vs:List Int)(f:List (Int×List Int))(a:Nat):Option Rc:=
 (Bx d a 1).bind fun x=>UE d (fun g _=>some ⟨c,b,s,e,vs,f,g,o⟩) x.1 x.2 []
def p8(d:List UInt8)(c b s:Int)(o:Bool)(f vs:List Int)(a:Nat):Option Rc:=
 (Bx d a 1).bind fun x=>R' d (fun g e=>p9 d c b s o f vs g e) x.1 x.2 []
def p7(d:List UInt8)(c b s:Int)(o:Bool)(f:List Int)(a:Nat):Option Rc:=
 (Bx d a 1).bind fun x=>Ud d (fun g e=>p8 d c b s o f g e) x.1 x.2 []
def p6(d:List UInt8)(c b s:Int)(o:Bool)(a:Nat):Option Rc:=(Bx d a 4).bind fun x=>p7 d c b s o (i' x.1) x.2
def p5(d:List UInt8)(c b s:Int)(a:Nat):Option Rc:=(Bx d a 1).bind fun x=>p6 d c b s (decide (x.1=1)) x.2
def p4(d:List UInt8)(c b:Int)(a:Nat):Option Rc:=(Bx d a 8).bind fun x=>p5 d c b x.1 x.2
def p3(b:List UInt8)(c:Int)(a:Nat):Option Rc:=(Bx b a 8).bind fun x=>p4 b c x.1 x.2
def RW(a:List UInt8):Option Rc:=(Bx a 2 4).bind fun x=>p3 a x.1 x.2
def nM(a:List UInt8):Option Rc:=(RW a).bind fun r=>if aW r=true/\kb r=a then some r else none
def Inv{b:Type}(a:Bool)(T k:Option b):Prop:=(a=false->T=k)/\(a=true->T=none)
def Inv.go{e d:Type}{a bad':Bool}{T:Option e}{q:Option d}{k:d->Option e}(h:Inv a T (q.bind k)){x:d}(f:(q=some x/\bad'=a)\/(q=none/\bad'=true)):Inv bad' T (k x):=by
 rcases f with⟨c,b⟩|⟨c,b⟩
 ·subst c b;exact h
 subst c b;refine⟨fun h=>(by cases h),fun _=> ?_⟩;cases a
 ·exact h.1 rfl
 exact h.2 rfl
end
section
open Go.RowKit Go.ChangeShapes
section
variable {P:Program} {W:World} {nm:String} {ti tp te ts:TypeId} {ms:Array (String×TypeId)} {f:Field}
theorem wO(hi:P.underlying ti=some (.interface ms))(m: ∀u,P.typeName? 3 u=some nm->u=tp)
 (L:P.underlying tp=some (.pointer te))(K:P.underlying te=some (.struct #[f]))(z:f.type=ts)(y:f.offset=0)(M:P.underlying ts=some .string)(J:P.cellsOf te=1)(w:P.cellsOf ts=1):
 ∀(l:List (String×List UInt8))(j:List Nat)(ps:List MemPlace),DataW.LaidVars P W (l.map fun x=>(x.1, .iface nm (.ptr (.agg [.lit (.string x.2)])))) ps->
  l.map (fun x=>P.globalNamed x.1)=j.map some->(∀g∈j,(P.globals[g]?).map (·.type)=some ti)->
  (∀b off,MemPlace.cell b off∈ps->(∃c t,W.heap[b]? =some (.cells c t (0,0)))/\ ∀u v,W.cell? ⟨b,off,none⟩=some (.iface u v)->Value.okWide P W .any 0 u v)->
  ∃k:List Addr,k.length=j.length/\(∀(i:Nat)(g:Nat)(a:Addr),j[i]? =some g->k[i]? =some a->W.cell? ⟨g,0,none⟩=some (.iface tp (.pointer (some a)))/\ ∃Q Y,W.heap[a.block]? =some (.cells Q Y (0,0)))/\
   (k.map fun a=>MemPlace.cell a.block a.off).Sublist ps
 | [],j,ps,_,B,_,_=>by
   obtain rfl:j=[]:=by cases j<;>simp_all
   exact⟨[],rfl,by simp,by simp⟩
 |(n,text)::l,j,ps,U,B,N,d=>by
   obtain⟨g,j,rfl⟩: ∃g E,j=g::E:=by cases j<;>simp_all
   simp only[PE,Qc]at B;obtain⟨Z,t0,C,f0,p0,X,q,H,A,G,r,rfl⟩:=U;obtain rfl:=Pq (B.1.symm.trans q);obtain rfl:=Pq ((N g (by simp)).symm.trans H);obtain⟨V⟩:=C
   have I: ∀u v,V=[.iface u v]->Value.okWide P W .any 0 u v:=fun u v e=>by
    subst e;exact(d g 0 (by simp[MemPlace.row])).2 u v (by simpa using T5 q A 0)
   obtain⟨s,s0,rfl,_,_,_,rfl⟩:=errorString_of_trod hi m L K z y M J w G I;obtain⟨k,R,S,T⟩:=wO hi m L K z y M J w l j X r B.2 (fun D h=>N D (by simp[h])) (fun b off h=>d b off (QR _ h));refine⟨s::k,by simp[R],?_,?_⟩
   ·intro i D O p o;cases i with
    | zero=>
      simp at p o;subst p o;exact⟨by simpa using T5 q A 0,(d s.block s.off (by simp[MemPlace.row])).1⟩
    |succ i=>exact S i D O (by simpa using p) (by simpa using o)
   simp only[PE,MemPlace.row];exact List.Sublist.trans (List.Sublist.append (by simp:[MemPlace.cell s.block s.off].Sublist _) T) (List.Sublist.append (List.sublist_append_right _ _) (List.Sublist.refl _))
end
def Tryz.row160: ∀u,prog.typeName? 3 u=some "*errors.errorString" ->u=307:=
 fun u a=>typeName_ptr_named (nm:= "errors.errorString") (by kernel_rfl) (by kernel_rfl) (by decide) u a
section
open Go.WideShapes
variable {H:Type} {enc:TypeId×Value->H} {P:Program}
theorem ng(g:laidOutB P=true){W e:World}(f:Below W.heap.size W e): ∀(a:List TypeId)(vs:List Value)(ds:List (DataW H))(ps:List MemPlace),
 (∀t∈a,P.readableRec t=true/\t<P.types.size)->(∀x∈ps,x.block<W.heap.size)->DataW.TrodAll enc P W 0 (fun _=>true) true a vs ds ps->DataW.TrodAll enc P e 0 (fun b=>decide (b<W.heap.size)) true a vs ds ps
 |[],[],[],_,_,_,h=>h
 | t::a,v::vs,d::ds,ps,j,i,h=>by
   obtain⟨p,q,l,m,rfl⟩:=h;have r:=j t (by simp);exact⟨p,q,Below.trod g r.1 r.2 l f (fun x c=>i x (PN _ c)),ng g f a vs ds q (fun n k=>j n (by simp[k])) (fun x c=>i x (QR _ c)) m,rfl⟩
 |[],_::_,_,_,_,_,h=>by cases h
 |[],[],_::_,_,_,_,h=>by cases h
 |_::_,[],_,_,_,_,h=>by cases h
 |_::_,_::_,[],_,_,_,h=>by cases h
theorem J8(y:laidOutB P=true){f:Func}{s:ChangeSpec}{v:TypeId}{W m:World}{args:Array Value}{e g:List (DataW H)}{a:List MemPlace}
 (c: ∀t∈f.params.toList,P.readableRec t=true/\t<P.types.size)(k:f.resultTypes= #[v])(l:P.underlying v=some .bool)
 (i:DataW.Whole enc P f.params.toList s.vars false W args.toList e g a)(r:s.vars=[])
 (d:g=[]->s.fn H (e++g)={ results:=[.lit (.bool true)],args:=e })(o:Below W.heap.size W m):s.post enc P f false true false false W args (.bool true) m:=by
 have b: ∀p∈a,p.block<W.heap.size:=fun p z=>i.lt p z;have j:=i;obtain⟨p,q,w,n,rfl,_,_⟩:=i;rw[r]at n;obtain⟨rfl,rfl⟩:=trodVars_none n;have d:=d rfl;rw[P9]at b;refine⟨e,[],p++[],[],p,[],j,?_,?_,?_,?_,fun h=>by cases h⟩
 ·rw[d,k];exact trodAll_mk1 (shut_bool l true)
 ·rw[d];exact ng y o _ _ _ _ c b w
 ·rw[d,r];rfl
 exact World.keptBut_mono (fun x u=>⟨u, .inr (.inl (by simpa using u))⟩) (o.frame (· ∈p++[]))
end
section
open Go.WideShapes
variable {H:Type} {enc:TypeId×Value->H} {P:Program} {w:World} {base:Nat} {spare:Nat->Bool} {held:Bool}
end
end
section
open Go.RowKit Go.ChangeShapes Go.WideShapes Go.Deep
section
variable {H:Type} {enc:TypeId×Value->H} {P:Program} {w:World} {base:Nat} {spare:Nat->Bool} {held:Bool}
theorem dN{a:Array Field}{cs:List Value}{n:Nat}{xs:List (DataW H×List MemPlace)}(m:xs.length=a.size)(j: ∀(i:Nat)(f:Field),a[i]? =some f->DataW.trod enc P w base spare held n f.type ((cs.drop f.offset).take (P.cellsOf f.type))=xs[i]?)
 (i:Nat)(f:Field)(c:a[i]? =some f)(b off k:Nat)(d:f.type=b)(e:f.offset=off)(g:P.cellsOf b=k): ∃y,DataW.trod enc P w base spare held n b ((cs.drop off).take k)=some y:=by
 have h:=j i f c;rw[d,e,g]at h;have l:i<a.size:=(Od.1 c).1;rw[OE (by omega)]at h;exact⟨_,h⟩
def RE{d:Type}(w:World)(e:d->List AV)(c:d->Prop)(cs:List Value)(a:d):Prop:=UW (fun b _=>b<w.heap.size) w cs (e a)/\c a
theorem da{p:Type}{t e:TypeId}{size fuel:Nat}{cs:List Value}{x:DataW H×List MemPlace}(f:p->List AV)(d:p->Prop)(n: ∀a,(f a).length=size)(I:P.underlying t=some (.slice e))(z:P.cellsOf e=size)(g:0<size)
 (B: ∀(m:Nat)(cs:List Value)(y:DataW H×List MemPlace),DataW.trod enc P w base spare held m e cs=some y-> ∃a,RE w f d cs a)
 (h:DataW.trod enc P w base spare held fuel t cs=some x): ∃(v:Value) (l:List p),cs=[v]/\(v.oneCell'=true/\RV (fun b _=>b<w.heap.size) w v (.seq size (l.map f)))/\l.length<=maxLen/\ ∀a∈l,d a:=by
 obtain⟨v,l,r,q⟩:=Vp (R:=RE w f d) I z g B h;have o:=Lw f n q fun cs a _ G j u c J D=>G.1.at_.2 j u c J D;obtain⟨A,c,K,rfl,_,s,_,k⟩:=q;refine⟨_,l,r,⟨rfl,o⟩,s,fun a C=> ?_⟩;obtain⟨i,E,rfl⟩:=Pe C;exact(k.2 i E).2
theorem LW{l:List Value}(h:l.length=2): ∃a b,l=[a,b]:=by
 match l,h with
 |[a,b],_=>exact⟨a,b,rfl⟩
theorem Nm{l:List Value}(h:l.length=4): ∃a b c d,l=[a,b,c,d]:=by
 match l,h with
 |[a,b,c,d],_=>exact⟨a,b,c,d,rfl⟩
theorem Mn{l:List Value}(h:l.length=5): ∃a b c d e,l=[a,b,c,d,e]:=by
 match l,h with
 |[a,b,c,d,e],_=>exact⟨a,b,c,d,e,rfl⟩
theorem Nl{l:List Value}(h:l.length=6): ∃a b c d e f,l=[a,b,c,d,e,f]:=by
 match l,h with
 |[a,b,c,d,e,f],_=>exact⟨a,b,c,d,e,f,rfl⟩
end
def lk:prog.cellsOf 3=1:=by kernel_rfl
def jp:prog.cellsOf 9=1:=by kernel_rfl
def Mr:prog.cellsOf 67=1:=by kernel_rfl
def EX:prog.cellsOf 68=1:=by kernel_rfl
def Nq:prog.cellsOf 23=1:=by kernel_rfl
def Np:prog.cellsOf 24=1:=by kernel_rfl
def NV:prog.cellsOf 22=1:=by kernel_rfl
def Wc:prog.cellsOf 129=2:=by kernel_rfl
def Ve:prog.cellsOf 181=4:=by kernel_rfl
def Wn:prog.cellsOf 109=6:=by kernel_rfl
def Wo:prog.cellsOf 70=5:=by kernel_rfl
def V0:prog.cellsOf 125=2:=by kernel_rfl
def OD:prog.cellsOf 26=5:=by kernel_rfl
section
variable {H:Type} {enc:TypeId×Value->H} {w:World} {base:Nat} {spare:Nat->Bool} {held:Bool}
theorem Vj(m:Nat)(cs:List Value)(y:DataW H×List MemPlace)(h:DataW.trod enc prog w base spare held m 129 cs=some y): ∃a:mw,RE w cE vD cs a:=by
 obtain⟨r,n,_,_,d,b,c⟩:=Qu Tryz.underlying129 h;rw[Wc]at d;obtain⟨e,f,rfl⟩:=LW d;obtain⟨p,j⟩:=dN b c 0 _ rfl 3 0 1 rfl rfl lk;obtain⟨l,g, -, -⟩:=QP Tryz.underlying3 (show DataW.trod enc prog w base spare held n 3 [e]=some p from j);cases g;obtain⟨q,k⟩:=dN b c 1 _ rfl 3 1 1 rfl rfl lk;obtain⟨o,i, -, -⟩:=QP Tryz.underlying3 (show DataW.trod enc prog w base spare held n 3 [f]=some q from k);cases i;exact⟨⟨l,o⟩,⟨⟨rfl, .lit _⟩,⟨rfl, .lit _⟩,trivial⟩,trivial⟩
theorem Uy(m:Nat)(cs:List Value)(y:DataW H×List MemPlace)(h:DataW.trod enc prog w base spare held m 181 cs=some y): ∃a:n9,RE w bg jM cs a:=by
 obtain⟨J,n,_,_,d,b,c⟩:=Qu Tryz.underlying181 h;rw[Ve]at d;obtain⟨e,f,g,i,rfl⟩:=Nm d;obtain⟨C,p⟩:=dN b c 0 _ rfl 3 0 1 rfl rfl lk;obtain⟨z,j, -, -⟩:=QP Tryz.underlying3 (show DataW.trod enc prog w base spare held n 3 [e]=some C from p);cases j;obtain⟨D,q⟩:=dN b c 1 _ rfl 3 1 1 rfl rfl lk;obtain⟨A,k, -, -⟩:=QP Tryz.underlying3 (show DataW.trod enc prog w base spare held n 3 [f]=some D from q);cases k;obtain⟨E,r⟩:=dN b c 2 _ rfl 9 2 1 rfl rfl jp;obtain⟨B,l, -,x⟩:=RO Tryz.underlying9 (show DataW.trod enc prog w base spare held n 9 [g]=some E from r);cases l;obtain⟨⟨t2⟩⟩:=B;obtain⟨G,s⟩:=dN b c 3 _ rfl 67 3 1 rfl rfl Mr;obtain⟨I,t,o,v,u,p3⟩:=da (size:=2) cE vD (fun _=>rfl) Tryz.underlying67 Wc (by decide) Vj (show DataW.trod enc prog w base spare held n 67 [i]=some G from s);cases o;exact⟨⟨z,A,t2,t⟩,⟨⟨rfl, .lit _⟩,⟨rfl, .lit _⟩,⟨rfl, .lit _⟩,v,trivial⟩,(by simpa[ByteArray.size]using x),⟨u,p3⟩⟩
theorem VQ(m:Nat)(cs:List Value)(y:DataW H×List MemPlace)(h:DataW.trod enc prog w base spare held m 109 cs=some y): ∃a:pc,RE w aP zJ cs a:=by
 obtain⟨V,n,_,_,d,b,c⟩:=Qu Tryz.underlying109 h;rw[Wn]at d;obtain⟨e,f,g,i,j,c5,rfl⟩:=Nl d;obtain⟨N,s⟩:=dN b c 0 _ rfl 9 0 1 rfl rfl jp;obtain⟨J,k, -,I⟩:=RO Tryz.underlying9 (show DataW.trod enc prog w base spare held n 9 [e]=some N from s);cases k;obtain⟨⟨t0⟩⟩:=J;obtain⟨O,t⟩:=dN b c 1 _ rfl 3 1 1 rfl rfl lk;obtain⟨K,l, -, -⟩:=QP Tryz.underlying3 (show DataW.trod enc prog w base spare held n 3 [f]=some O from t);cases l;obtain⟨P,u⟩:=dN b c 2 _ rfl 3 2 1 rfl rfl lk;obtain⟨L,o, -, -⟩:=QP Tryz.underlying3 (show DataW.trod enc prog w base spare held n 3 [g]=some P from u);cases o;obtain⟨Q,v⟩:=dN b c 3 _ rfl 3 3 1 rfl rfl lk;obtain⟨M,p, -, -⟩:=QP Tryz.underlying3 (show DataW.trod enc prog w base spare held n 3 [i]=some Q from v);cases p;obtain⟨R,x⟩:=dN b c 4 _ rfl 68 4 1 rfl rfl EX;obtain⟨T,A,q,E,C,p4⟩:=da (size:=4) bg jM (fun _=>rfl) Tryz.underlying68 Ve (by decide) Uy (show DataW.trod enc prog w base spare held n 68 [j]=some R from x);cases q;obtain⟨S,z⟩:=dN b c 5 _ rfl 68 5 1 rfl rfl EX;obtain⟨U,B,r,G,D,p5⟩:=da (size:=4) bg jM (fun _=>rfl) Tryz.underlying68 Ve (by decide) Uy (show DataW.trod enc prog w base spare held n 68 [c5]=some S from z);cases r;exact⟨⟨t0,K,L,M,A,B⟩,⟨⟨rfl, .lit _⟩,⟨rfl, .lit _⟩,⟨rfl, .lit _⟩,⟨rfl, .lit _⟩,E,G,trivial⟩,(by simpa[ByteArray.size]using I),⟨C,p4⟩,⟨D,p5⟩⟩
theorem VR(m:Nat)(cs:List Value)(y:DataW H×List MemPlace)(h:DataW.trod enc prog w base spare held m 70 cs=some y): ∃a:Fr,RE w cN zI cs a:=by
 obtain⟨S,n,_,_,d,b,c⟩:=Qu Tryz.underlying70 h;rw[Wo]at d;obtain⟨e,f,g,i,j,rfl⟩:=Mn d;obtain⟨L,r⟩:=dN b c 0 _ rfl 3 0 1 rfl rfl lk;obtain⟨I,k, -, -⟩:=QP Tryz.underlying3 (show DataW.trod enc prog w base spare held n 3 [e]=some L from r);cases k;obtain⟨M,s⟩:=dN b c 1 _ rfl 9 1 1 rfl rfl jp;obtain⟨J,l, -,G⟩:=RO Tryz.underlying9 (show DataW.trod enc prog w base spare held n 9 [f]=some M from s);cases l;obtain⟨⟨t1⟩⟩:=J;obtain⟨N,t⟩:=dN b c 2 _ rfl 67 2 1 rfl rfl Mr;obtain⟨Q,x,o,D,A,C⟩:=da (size:=2) cE vD (fun _=>rfl) Tryz.underlying67 Wc (by decide) Vj (show DataW.trod enc prog w base spare held n 67 [g]=some N from t);cases o;obtain⟨O,u⟩:=dN b c 3 _ rfl 68 3 1 rfl rfl EX;obtain⟨R,z,p,E,B,p3⟩:=da (size:=4) bg jM (fun _=>rfl) Tryz.underlying68 Ve (by decide) Uy (show DataW.trod enc prog w base spare held n 68 [i]=some O from u);cases p;obtain⟨P,v⟩:=dN b c 4 _ rfl 3 4 1 rfl rfl lk;obtain⟨K,q, -, -⟩:=QP Tryz.underlying3 (show DataW.trod enc prog w base spare held n 3 [j]=some P from v);cases q;exact⟨⟨I,t1,x,z,K⟩,⟨⟨rfl, .lit _⟩,⟨rfl, .lit _⟩,D,E,⟨rfl, .lit _⟩,trivial⟩,(by simpa[ByteArray.size]using G),⟨A,C⟩,⟨B,p3⟩⟩
theorem VD(m:Nat)(cs:List Value)(y:DataW H×List MemPlace)(h:DataW.trod enc prog w base spare held m 125 cs=some y): ∃a:Uk,RE w iC pP cs a:=by
 obtain⟨s,n,_,_,d,b,c⟩:=Qu Tryz.underlying125 h;rw[V0]at d;obtain⟨e,f,rfl⟩:=LW d;obtain⟨q,j⟩:=dN b c 0 _ rfl 9 0 1 rfl rfl jp;obtain⟨o,g, -,l⟩:=RO Tryz.underlying9 (show DataW.trod enc prog w base spare held n 9 [e]=some q from j);cases g;obtain⟨⟨t0⟩⟩:=o;obtain⟨r,k⟩:=dN b c 1 _ rfl 3 1 1 rfl rfl lk;obtain⟨p,i, -, -⟩:=QP Tryz.underlying3 (show DataW.trod enc prog w base spare held n 3 [f]=some r from k);cases i;exact⟨⟨t0,p⟩,⟨⟨rfl, .lit _⟩,⟨rfl, .lit _⟩,trivial⟩,(by simpa[pP,ByteArray.size]using l)⟩
theorem Ll(m:Nat)(cs:List Value)(y:DataW H×List MemPlace)(h:DataW.trod enc prog w base spare held m 26 cs=some y): ∃a:aq,RE w aA oV cs a:=by
 obtain⟨V,n,_,_,d,b,c⟩:=Qu Tryz.underlying26 h;rw[OD]at d;obtain⟨e,f,g,i,j,rfl⟩:=Mn d;obtain⟨N,r⟩:=dN b c 0 _ rfl 9 0 1 rfl rfl jp;obtain⟨L,k, -,K⟩:=RO Tryz.underlying9 (show DataW.trod enc prog w base spare held n 9 [e]=some N from r);cases k;obtain⟨⟨t0⟩⟩:=L;obtain⟨O,s⟩:=dN b c 1 _ rfl 3 1 1 rfl rfl lk;obtain⟨M,l, -, -⟩:=QP Tryz.underlying3 (show DataW.trod enc prog w base spare held n 3 [f]=some O from s);cases l;obtain⟨P,t⟩:=dN b c 2 _ rfl 22 2 1 rfl rfl NV;obtain⟨S,x,o,G,B,E⟩:=da (size:=2) iC pP (fun _=>rfl) Tryz.underlying22 V0 (by decide) VD (show DataW.trod enc prog w base spare held n 22 [g]=some P from t);cases o;obtain⟨Q,u⟩:=dN b c 3 _ rfl 23 3 1 rfl rfl Nq;obtain⟨T,z,p,I,C,p3⟩:=da (size:=6) aP zJ (fun _=>rfl) Tryz.underlying23 Wn (by decide) VQ (show DataW.trod enc prog w base spare held n 23 [i]=some Q from u);cases p;obtain⟨R,v⟩:=dN b c 4 _ rfl 24 4 1 rfl rfl Np;obtain⟨U,A,q,J,D,p4⟩:=da (size:=5) cN zI (fun _=>rfl) Tryz.underlying24 Wo (by decide) VR (show DataW.trod enc prog w base spare held n 24 [j]=some R from v);cases q;exact⟨⟨t0,M,x,z,A⟩,⟨⟨rfl, .lit _⟩,⟨rfl, .lit _⟩,G,I,J,trivial⟩,(by simpa[ByteArray.size]using K),⟨B,E⟩,⟨C,p3⟩,⟨D,p4⟩⟩
theorem Ct{n:Reach}{e:Nat}{v:Value}{d:DataW H}{p:List MemPlace}(m:Value.okWide prog w n e 26 v)(h:DataW.Trod enc prog w base spare held 26 v d p):
 ∃c:aq,oV c/\RV (fun b _=>b<w.heap.size) w v (.agg (aA c)):=by
 obtain⟨f,rfl,k⟩:=okWide_struct Tryz.underlying26 m;obtain⟨l⟩:=f;obtain⟨a,j⟩:=h;obtain⟨c,g,i⟩:=Ll _ _ _ j;exact⟨c,i,UW.agg g⟩
end
end
section
open Go.RowKit
structure VI(P:Program)(f:FuncId)(e:TypeId)(sz:Nat)(ls ls':List (List Value)):Prop where
 enter: ∀(args:Array Value)(w:World),(callFunc f args).run P w= .ok (.enter f args) w
 ZQ: ∀l∈ls',l.length=sz/\ ∀u∈l,u.oneCell'=true
 calls: ∀(w:World)(base:Nat)(v:Value),w.ownsRow base e sz v ls.length ls.flatten->
  Calls P f #[v] w fun ex w'=> ∃v',ex= .returned v'/\v'.oneCell'=true/\w.grownBy w' v.ownBlock/\(∀g,v'.ownBlock=some g->v.ownBlock=some g)/\w'.ownsRow base e sz v' ls'.length ls'.flatten
def HY{S:Nat->Nat->Prop}{w:World}{row:Row}{a:List (List Value)}{xs:List Value}(b: ∀l∈a,l.length=row.sz)(e:0<row.sz)(r:xs.length=a.length*row.sz)(m:row.es=bI a)
 (s: ∀(i j:Nat)(c:AV),bt row.es i j=some c-> ∃u,xs[i*row.sz+j]? =some u/\RV S w u c):xs=a.flatten:=by
 apply PM;intro p;have o:=eA a b;by_cases q:p<a.length*row.sz
 ·have f:p/row.sz<a.length:=RH (by rw[QU];exact q);have t:p%row.sz<row.sz:=Rt _ e;have g:p/row.sz*row.sz+p%row.sz=p:=R8 p row.sz;have v:=b _ (PV f);have d:(a[p/row.sz])[p%row.sz]? =some ((a[p/row.sz])[p%row.sz]'(by omega)):=OE _;have h:=fW a b _ _ _ _ (OE f) d
  obtain⟨u,k,n⟩:=s (p/row.sz) (p%row.sz) (.lit ((a[p/row.sz])[p%row.sz]'(by omega))) (by
   rw[m];unfold bt bI;rw[OS,OE f]
   simp only[O0,Oo,OS,d])
  rw[g]at h k;have:u=(a[p/row.sz])[p%row.sz]'(by omega):=by cases n;rfl
  rw[h,k,this]
 rw[OT (by omega),OT (by omega)]
def K8{P:Program}{env:b7}{f:FuncId}{r A:Nat}{row:Row}{rows:Nat->Option Row}{vsv:Nat->Nat}{J d:List (List Value)}(L:VI P f row.e row.sz J d)(hr:rows r=some row)(hv:vsv r=A)(hrz:row.sz≠0)(hp:row.pure=true)(T:row.es=bI J):
 Vt P env f [.row r A] [r] rows vsv ⟨.row r (A+1),[.renew r { row with es:=bI d }]⟩:=by
 refine⟨L.enter,fun x s a w m vs hx p hro y hvs=> ?_⟩;obtain⟨H,q2,q3⟩:=hro r (by simp);rw[hr]at H;rw[hv]at q2
 match vs,y with
 |[u],_=>
 have hu:u=m.ρ r:=(hvs 0 u _ rfl rfl).row_.2 q2 row H;subst hu;have k:=(p.rows r row H).cells hrz;obtain⟨xs,S,k2,k3⟩:=k.own;have hn:row.es.length=J.length:=by rw[T];simp[bI]
 have Z: ∀l∈J,l.length=row.sz:=fun l y=>by
  obtain⟨i,hi,rfl⟩:=Pe y;have:=k.len i ((J[i]).map .lit) (by rw[T];simp[bI,hi]);simpa using this
 have hxx:xs=J.flatten:=HY Z k.pos (by rw[<-hn];exact S.1) T fun i j c hc=>by
  obtain⟨u,K,R⟩:=k3 i j c hc;rw[OL hp]at R;exact⟨u,K,R⟩
 rw[hxx,hn]at S;refine(L.calls w x.w.heap.size (m.ρ r) S).mono ?_;rintro ex O ⟨I,rfl,K,B,h,ho⟩
 have hb:Below x.w.heap.size w O:=⟨B.os,B.tape,B.output,B.size,fun q N=>B.block q (PX N p.bel.size) fun e=>by
  have:=(bZ S e.symm).1
  omega⟩
 have E: ∀g,(m.ρ r).ownBlock=some g-> ∀o,¬m.S g o:=k.fresh q3;have C: ∀b o,m.S b o->k0 w O b o:=fun b o n=> .block (B.block b (p.low b o n) fun e=>E b e.symm o n);have hlow: ∀b o,m.S b o->b<O.heap.size:=fun b o n=>PX (p.low b o n) B.size
 have U:dk x (s.renew r { row with es:=bI d } false) a O ⟨m.S,na m.ρ r I⟩:=by
  refine p.renew r _ false I m.S hb (fun b o n=>⟨n,C b o n⟩) (fun b o n=> .inl n) (fun q z M N Q D=>⟨?_,fun e=> ?_,fun _ n=>n⟩) ?_ fun b X=>⟨B.block b (p.fxlt X) fun e=>p.Z3 r row H b e.symm X,fun _ n=>n,fun e=>p.Z3 r row H b (h b e) X⟩
  ·exact B.block Q ((p.rows q z N).blk D).2 fun e=>p.inj r q row z H N (Py M) Q e.symm D
  ·exact p.inj r q row z H N (Py M) Q (h Q e) D
  have W: ∀(i:Nat)(e:List AV),(bI d)[i]? =some e->e.length=row.sz:=fun i e t=>by
   unfold bI at t;rw[OS]at t;cases y:d[i]? with
   |none=>rw[y]at t;cases t
   | some l=>
     rw[y]at t;cases t;simpa using (L.ZQ l (OM y)).1
  have Y:(bI d).length=d.length:=by unfold bI;rw[O4]
  have G:(⟨m.S,na m.ρ r I⟩:k9).ρ r=I:=aE ..;refine .inl ⟨k.pos,W,⟨d.flatten,by rw[G];show O.ownsRow _ _ _ _ (bI d).length _;rw[Y];exact ho,?_,?_⟩,fun t=> ?_,fun g v o _=> ?_,fun _ g v o=> ?_⟩
  ·intro u hu;obtain⟨l,y,hul⟩:=TP.1 hu;exact(L.ZQ l y).2 u hul
  ·intro i j c V;obtain⟨l,u,K,R,rfl⟩:=BV V;refine⟨u,fW d (fun l y=>(L.ZQ l y).1) i j l u K R,?_⟩;show if row.pure=true then _ else _
   rw[OL hp];exact .lit u
  ·have t:na s.esc r false r=true:=t;rw[aE]at t;cases t
  ·rw[G]at v;exact E g (h g v) o
  rw[G]at v;exact E g (h g v) o
 refine⟨I,_,rfl,U, .row r (A+1) K ?_ fun _ row' _=> ?_⟩
 ·show A+1<=na s.vs r (s.vs r+1) r;rw[aE,q2];exact OO _
 show I=na m.ρ r I r;rw[aE]
section
variable {P:Program} {env:b7} {s:St}
theorem uj{o:Oper}{f:FuncId}{args:List AV}{rest:List Ty}{h:St}{row:Row}{g a:List (List Value)}{d:ff}{K:St->List ff->Prop}(r:Nat)(n:bH env s.f o=some (f,args))(l:VI P f row.e row.sz g a)(c:row.sz≠0)(t:row.pure=true)(i:row.es=bI g)
 (m:Is args [.row r (s.vs r)])(v:Is (s.rows r) (some row))(p:Is (s.esc r) false)(j:Is ((⟨.row r (s.vs r+1),[.renew r { row with es:=bI a }]⟩:Out).app o.dst s) h)(e:Is (⟨[r],[r],[r],[]⟩:ff) d)(k:jn P env rest h fun w b=>K w (d::b)):jn P env (⟨o, .always⟩::rest) s K:=by
 unfold Is at e;subst e;exact qC n m (K8 l v rfl c t i) (fun q u=>by rw[O2.1 u];exact p) j k
theorem oU{o:Oper}{f:FuncId}{args:List AV}{rest:List Ty}{e:St}{row:Row}{d a:List (List Value)}{K:St->List ff->Prop}(r:Nat)(l:bH env s.f o=some (f,args))(i:K' P f [] row.e row.sz d a)(c:row.sz≠0)(n:row.pure=true)(g:row.es=bI d)
 (j:Is args [.row r (s.vs r)])(p:Is (s.rows r) (some row))(m:Is (s.esc r) false)(h:Is ((s.setRow r { row with es:=bI a }).put o.dst .any) e)(k:jn P env rest e fun q b=>K q (⟨[r],[r],[r],[]⟩::b)):jn P env (⟨o, .always⟩::rest) s K:=
 xP (rs:=[]) r l (show args=_ from j) p m i g n c h k
end
end
section
open Go.RowKit Go.Sort Go.Shelf Go.Lib
def Uv{w:World}{g n:Nat}{os:Array Obj}{a:Array Value}{e:TypeId}{b:Nat×Nat}(F:Array Value)(c:w.heap[g]? =some (.cells a e b)):
 (grow (putRow id (Sort.ahead w n) g 0 F) os).heap[g]? =some (.cells (putCells id 0 F a) e b):=by
 have d:g<w.heap.size:=(Od.1 c).1;rw[heap_grow_old _ _ (by simpa[putRow,mapBlock,Sort.ahead]using d)];simp[putRow,mapBlock,Sort.ahead,Pu,c,onCells]
def lB{w:World}{g n:Nat}{os:Array Obj}(F:Array Value):w.grownBy (grow (putRow id (Sort.ahead w n) g 0 F) os) (some g):=by
 refine⟨rfl,rfl,rfl,by simp[putRow,mapBlock,Sort.ahead],fun k b a=> ?_⟩;rw[heap_grow_old _ _ (by simpa[putRow,mapBlock,Sort.ahead]using b)];have:g≠k:=fun e=>a (by rw[e]);simp[putRow,mapBlock,Sort.ahead,Pu,this]
def tx(a F:Array Value)(h:F.size<=a.size):(putCells id 0 F a).toList.take F.size=F.toList:=by
 apply PM;intro j;by_cases b:j<F.size
 ·rw[Q9 b,Qo];simp[putCells,b,show j<a.size by omega]
 rw[Rv (by omega),OT (by simp;omega)]
def kJ{P:Program}{f:FuncId}{rest:List Value}{e:TypeId}{sz:Nat}{b a:List (List Value)}(G:0<b.length)(c: ∀(args:Array Value)(w:World),(callFunc f args).run P w= .ok (.enter f args) w)
 (m:a.length=b.length)(r: ∀l∈b,l.length=sz)(o: ∀l∈a,l.length=sz/\ ∀u∈l,u.oneCell'=true)
 (h: ∀(w:World)(g cap:Nat),Holds id w g 0 b.flatten.toArray->g<w.heap.size->Calls P f (.slice (some ⟨g,0,none⟩) b.length cap::rest).toArray w fun y w'=>y= .returned (.tuple #[])/\ ∃n os,w'=grow (putRow id (Sort.ahead w n) g 0 a.flatten.toArray) os):
 K' P f rest e sz b a:=by
 refine⟨c,m,o,fun w t v H=> ?_⟩;have J:=eA b r;have k:=eA a fun l m=>(o l m).1;rcases H.2 with⟨_,I⟩|⟨g,cap,d,rfl,i,p,z,C,A,D⟩
 ·omega
 have s:b.length*sz<=d.size:=by rw[A];exact Oz _ z
 have E:g<w.heap.size:=(Od.1 p).1;refine(h w g cap (fun j B=>⟨?_,by simp[World.frozen?,p]⟩) E).mono ?_
 ·have q:j<b.flatten.length:=by simpa using B
  have x:(d.toList.take (b.length*sz))[j]? =b.flatten[j]? :=by rw[D]
  rw[Q9 (by omega)]at x;simp only[World.cell?,p,PR];simp only[TC,On,P8];rw[<-Qo,x,Qr _ j B,OE q];rfl
 rintro y w' ⟨rfl,n,os,rfl⟩;refine⟨rfl,lB _,by rw[k,m], .inr ⟨g,cap,_,rfl,i,Uv _ p,z,C,by simp[putCells,A],?_⟩⟩;have:=tx d a.flatten.toArray (by simp[k,m];exact s);rw[show a.flatten.toArray.size=b.length*sz by simp[k,m]]at this;exact this
def ma{P:Program}{f:FuncId}{rest:List Value}{e:TypeId}{sz:Nat}(a: ∀(args:Array Value)(w:World),(callFunc f args).run P w= .ok (.enter f args) w)
 (h: ∀(p:Option Addr)(cap:Nat)(w:World),Calls P f (.slice p 0 cap::rest).toArray w fun d w'=>d= .returned (.tuple #[])/\w'=w):K' P f rest e sz [] []:=by
 refine⟨a,rfl,fun l k=>by simp at k,fun w c v i=> ?_⟩
 have b: ∃p cap,v= .slice p 0 cap:=by
  rcases i.2 with⟨rfl,_⟩|⟨g,cap,j,rfl,_⟩
  ·exact⟨_,_,rfl⟩
  exact⟨_,_,rfl⟩
 obtain⟨p,cap,rfl⟩:=b;refine(h p cap w).mono ?_;rintro d w' ⟨rfl,rfl⟩;exact⟨rfl,⟨rfl,rfl,rfl,OO _,fun _ _ _=>rfl⟩,i⟩
section
variable {α:Type} [Inhabited α]
theorem j3(enc:α->Value)(w:World)(g:Nat)(d:Array α):putRow enc w g 0 d=putRow id w g 0 (d.map enc):=by
 unfold putRow;refine mapBlock_congr _ _ _ _ fun c _ _ _=> ?_;apply Array.ext_getElem?;intro k;simp only[putCells,Array.getElem?_mapIdx,Array.size_map];cases c[k]? with
 |none=>rfl
 | some y=>
   simp only[O0,Rw,PR];by_cases a:0<=k/\k<d.size
   ·rw[OL a,OL a];simp[a.2]
   rw[OK a,OK a]
end
end
end Go.Proofs.YtfcdkaolcdglmaaGreatDoor
