/- record.Put. -/
import Derived.Test.YtnbjaghjdeicmaaGreatDoorG22
import Derived.Test.YtnbjaghjdeicmaaGreatDoorG8
import Derived.Deep.RegionLaw
import Derived.StillTailTactics
import Derived.Lib.AppendStr
import Derived.Deep.DeepCutAuto
set_option maxRecDepth 100000
set_option maxHeartbeats 4000000
namespace Go.Proofs.YtnbjaghjdeicmaaGreatDoor
open Go.RowKit
section
theorem zob (b:Bool) (w:World):Calls Tryz.prog 116 #[.bool b] w fun e w'=>e= .returned (.int .i64 (b.toNat:Nat))/\w=w':=by
 cases b
 all_goals
  go_enter Tryz.func116,Tryz.ntmps116
  go_wp2
  go_ret
  exact⟨rfl,rfl⟩
theorem zrd (n:Int) (h1: -2147483647<=n) (h2:n<=2147483647) (w:World):Calls Tryz.prog 118 #[.int .i64 n] w fun e w'=>e= .returned (.int .i64 (foldN n:Nat))/\w=w':=by
 by_cases h:n<0
 all_goals
  have HF:=Lib.hid (show ((foldN n:Nat):Int)=if n<0 then -2*n-1 else 2*n by unfold foldN; split<;>omega)
  go_enter Tryz.func118,Tryz.ntmps118
  go_wp2
  go_ret
  rw [HF.out]
  refine⟨?_,rfl⟩
  first | rw [if_pos h]; rfl | rw [if_neg (by omega)]; rfl
theorem or_bit (m x:Nat) (hm:m<2^x) (hx:x<=31):bits .or .i64 (m:Int) ((2:Int)^x)=((m+2^x:Nat):Int):=by
 have hp:(2:Nat)^x<=2^31:=Nat.pow_le_pow_right (by decide) hx
 rw [show (2:Int)^x=((2^x:Nat):Int) by simp]
 have h0: ∀y:Nat,y<9223372036854775808->(BitVec.ofInt 64 (y:Int)).toNat=y:=fun y hy=>by
  rw [BitVec.ofInt_natCast,BitVec.toNat_ofNat]
  exact Nat.mod_eq_of_lt (by omega)
 show IntKind.i64.wrap ((BitVec.ofInt 64 (m:Int)||| BitVec.ofInt 64 ((2^x:Nat):Int)).toNat:Int)=_
 rw [BitVec.toNat_or,h0 _ (by omega),h0 _ (by omega),IntKind.wrap_i64]
 have e:m||| 2^x=m+2^x:=by
  have:=Nat.two_pow_add_eq_or_of_lt (i:=x) (b:=m) hm 1
  rw [Nat.or_comm,Nat.add_comm]
  simpa using this.symm
 rw [e]
 omega
theorem zoj (v:Value) (l:List Int) (B:Nat) (w:World) (h:zau w B 1 intR v l) (hs:allB l.length (stAt l)=true):
 Calls Tryz.prog 117 #[v] w fun e w'=>e= .returned (.int .i64 (setN l:Nat))/\w=w':=by
 obtain⟨A,c,rfl,hlc,hcm,hr⟩:=h.one
 unfold maxLen at hcm
 have HR:=Lib.hid hr
 have HS:=Lib.hid hs
 try clear h hr hs
 go_enter Tryz.func117,Tryz.ntmps117
 go_wp2
 go_loop [3,8] (fun n i=> ∃k m:Nat,k<=l.length/\i= .int .i64 k/\n= .int .i64 m/\m=setN (l.take k)) (fun _ i=>l.length-(intOf i).toNat)
 case atStart=>exact⟨0,0,by omega,rfl,rfl,by simp [setN]⟩
 case round=>
  obtain⟨k,m,hk,rfl,rfl,hm⟩:=hrel
  by_cases hlt:k<l.length
  ·obtain⟨b,off,rfl,_,hc⟩:=ints_at HR.out rfl k hlt
   have hck:=hc k hlt
   have hb:=zey (zbW HS.out k hlt)
   have hm2:=ziB l k (fun j _ hj=>zbW HS.out j hj) hlt
   have HN:=Lib.hid (zdG l k hlt)
   rw [<-zaR l k 0 hlt] at HN
   rw [<-hm] at hm2
   have HM:=Lib.hid hm
   obtain⟨x,hx⟩:=Int.eq_ofNat_of_zero_le hb.1
   have hx2:x<=31:=by omega
   rw [hx] at hck hm2 HN
   simp only [Int.toNat_natCast] at hm2 HN
   have ho:=or_bit m x hm2 hx2
   have hp:(2:Int)^x<=2147483648:=by
    have:(2:Nat)^x<=2^31:=Nat.pow_le_pow_right (by decide) hx2
    rw [show (2:Int)^x=((2^x:Nat):Int) by simp]
    omega
   have hp0:(0:Int)<=(2:Int)^x:=by
    rw [show (2:Int)^x=((2^x:Nat):Int) by simp]
    omega
   try clear hc hb hm hx
   go_wp2
   go_round
   case rel=>exact⟨k+1,m+2^x,by omega,by go_num,by first | rfl | go_num,by rw [HN.out,HM.out]⟩
   case measure=>simp [intOf]; omega
  ·obtain rfl:k=l.length:=by omega
   have HM:=Lib.hid hm
   try clear hm
   go_wp2
   go_ret
   rw [HM.out,List.take_length]
   exact⟨rfl,rfl⟩
def zoR (w:World) (b off:Nat) (ps:List (Nat×Nat)):Prop:=
 ∀k (h:k<ps.length),w.cell? ⟨b,off+k*2,none⟩=some (.int .i64 (ps[k].1:Nat))/\w.cell? ⟨b,off+k*2+1,none⟩=some (.int .i64 (ps[k].2:Nat))
structure WrAt (w:World) (g:Nat) (bs:List UInt8):Prop where
 intro::
 ex: ∃A c,Whole w g 171 #[.slice A bs.length c, .nilIface]/\bs.length<=c/\c<=maxLen/\Reads w w.heap.size 1 A bs.length (bv bs)/\(∀b off,A=some ⟨b,off,none⟩->b≠g)
theorem zfp {a w:World} {row:Option Nat} (h:a.grownBy w row) (n:Nat):a.grownBy (w.drewN n) row:=⟨h.os,h.tape,h.output,h.size,h.block⟩
theorem zbq {a w:World} {row:Option Nat} (h:a.grownBy w row) (o:Obj):a.grownBy (w.alloc o) row:=
 ⟨h.os,h.tape,h.output,Nat.le_trans h.size (by simp),fun i hi hne=>(Below.heap_alloc w o i (Nat.lt_of_lt_of_le hi h.size)).trans (h.block i hi hne)⟩
theorem zam {a w:World} {g:Nat} (h:a.grownBy w (some g)) {p:Addr} (hp:p.block=g\/a.heap.size<=p.block) (u:Value):a.grownBy (w.setCell p u) (some g):=
 ⟨h.os,h.tape,h.output,by simpa [World.setCell] using h.size,fun i hi hne=>(Below.heap_setCell w p u i (by
  rintro rfl
  rcases hp with hp | hp
  ·exact hne (by rw [hp])
  ·omega)).trans (h.block i hi hne)⟩
theorem zct {a w w':World} {row:Option Nat} (h:a.grownBy w row) (hb:Below w.heap.size w w'):a.grownBy w' row:=
 ⟨hb.os.trans h.os,hb.tape.trans h.tape,hb.output.trans h.output,Nat.le_trans h.size hb.size,fun i hi hn=>(hb.block i (Nat.lt_of_lt_of_le hi h.size)).trans (h.block i hi hn)⟩
theorem zll {w:World} {base size n:Nat} {e:TypeId} {A:Option Addr} {c:Nat} {xs:List Value} (h:w.ownsRow base e size (.slice A n c) n xs):n<=c/\(∀b off sp,A=some ⟨b,off,sp⟩->base<=b):=by
 rcases h.2 with⟨h1,_⟩ | ⟨g,cap,cur,h1,h0,_,h2,_⟩
 ·cases h1
  exact⟨Nat.le_refl _,fun b off sp h=>by cases h⟩
 ·cases h1
  exact⟨h2,fun b off sp h=>by cases h; exact h0⟩
theorem zlk {w:World} {base size n:Nat} {e:TypeId} {A:Option Addr} {c:Nat} {xs:List Value} (h:w.ownsRow base e size (.slice A n c) n xs):c<=maxLen:=by
 rcases h.2 with⟨h1,_⟩ | ⟨g,cap,cur,h1,h0,_,h2,h3,_⟩
 ·cases h1
  unfold maxLen
  omega
 ·cases h1
  exact h3
theorem zn2 {w wr W w2:World} {g:Nat} {n2 cp2:Nat} {A2:Option Addr} {v:Value} {xs:List UInt8} (hWh:Whole W g 171 #[v, .nilIface]) (ho:w2.ownsRow W.heap.size 5 1 (.slice A2 n2 cp2) n2 (bv xs)) (hn:xs.length=n2)
 (hcm:cp2<=maxLen) (hb:Below W.heap.size W w2) (hG:w.grownBy wr (some g)) (hW:Below wr.heap.size wr W):
 WrAt ((w2.setCell ⟨g,0,none⟩ (.slice A2 n2 cp2)).setCell ⟨g,1,none⟩ .nilIface) g xs/\w.grownBy ((w2.setCell ⟨g,0,none⟩ (.slice A2 n2 cp2)).setCell ⟨g,1,none⟩ .nilIface) (some g):=by
 subst hn
 have h1:=zll ho
 have hW2:=((hWh.below hb hWh.lt).put 0 (.slice A2 xs.length cp2)).put 1 .nilIface
 refine⟨⟨A2,cp2, ?_,h1.1,hcm, ?_, ?_⟩,zam (zam (zct (zct hG hW) hb) (.inl rfl) _) (.inl rfl) _⟩
 ·simpa using hW2
 ·have hr:=Reads.of_own ho
  have hne: ∀b off,A2=some ⟨b,off,none⟩->b≠g:=fun b off e=>by
   have:=h1.2 b off _ e
   have:=hWh.lt
   omega
  refine⟨hr.1,fun hp=> ?_⟩
  obtain⟨b,off,e,hlt,hc⟩:=hr.2 hp
  refine⟨b,off,e,by simpa [World.setCell] using hlt,fun j u hu=> ?_⟩
  rw [World.cell?_setCell_other _ _ _ _ (fun e'=>hne b off e (by injection e' with e1; exact e1.symm)),World.cell?_setCell_other _ _ _ _ (fun e'=>hne b off e (by injection e' with e1; exact e1.symm))]
  exact hc j u hu
 ·intro b off e
  have:=h1.2 b off _ e
  have:=hWh.lt
  omega
theorem zoO (ps:List (Nat×Nat)) (h: ∀p∈ps,p.2<=8):(ps.flatMap fun p=>lowB p.2 p.1).length<=8*ps.length:=by
 induction ps with
 | nil=>simp
 | cons p ps ih=>
   have h1:=h p (by simp)
   have h2:=ih (fun q hq=>h q (by simp [hq]))
   simp only [List.flatMap_cons,List.length_append,zal,List.length_cons]
   omega
theorem zec (g:Nat) (bs:List UInt8) (b off c:Nat) (ps:List (Nat×Nat)) (w:World) (hw:WrAt w g bs) (hb:b<w.heap.size) (hbg:b≠g) (hp:zoR w b off ps) (hlen:ps.length<=8) (hbl:bs.length<=100000)
 (hn: ∀p∈ps,p.1<256^p.2/\p.1<9223372036854775808/\(p.2=1\/p.2=2\/p.2=4\/p.2=8)):
 Calls Tryz.prog 115 #[.pointer (some ⟨g,0,none⟩), .slice (some ⟨b,off,none⟩) ps.length c] w fun e w'=>e= .returned (.tuple #[])/\WrAt w' g (bs++ps.flatMap fun p=>lowB p.2 p.1)/\w.grownBy w' (some g):=by
 go_enter Tryz.func115,Tryz.ntmps115
 go_wp2
 go_loopw [8] (fun i wr=> ∃k:Nat,k<=ps.length/\i= .int .i64 k/\WrAt wr g (bs++(ps.take k).flatMap fun p=>lowB p.2 p.1)/\w.grownBy wr (some g)) (fun i _=>ps.length-(intOf i).toNat)
 case atStart=>exact⟨0,by omega,rfl,by simpa using hw,World.grownBy.refl _ _⟩
 case round=>
  obtain⟨k,hk,rfl,hW,hG⟩:=hrel
  by_cases hlt:k<ps.length
  ·obtain⟨c1,c2⟩:=hp k hlt
   have hne:some b≠some g:=by simpa using hbg
   have e0:wr.heap[b]? =w.heap[b]? :=hG.block b hb hne
   have c1:=(World.cell?_of_block (w:=w) (w':=wr) (a:=⟨b,off+k*2,none⟩) e0).trans c1
   have c2:=(World.cell?_of_block (w:=w) (w':=wr) (a:=⟨b,off+k*2+1,none⟩) e0).trans c2
   obtain⟨A,cp,hWh,hcp,hcm,hR,hA⟩:=hW.ex
   obtain⟨d1,d2⟩:=hWh.c2
   have dz1:=hWh.frozen 0
   have dz2:=hWh.frozen 1
   obtain⟨h1,h2,h3⟩:=hn ps[k] (List.getElem_mem _)
   have hgl:g<wr.heap.size:=hWh.lt
   have HG:=Lib.hid hG
   have HR:=Lib.hid hR
   have HA:=Lib.hid hA
   have hsz:=hG.size
   have hsl:(bs++(ps.take k).flatMap fun p=>lowB p.2 p.1).length<=100064:=by
    have:=zoO (ps.take k) (fun p hp=>by have:=(hn p (List.mem_of_mem_take hp)).2.2; omega)
    rw [List.length_append]
    simp only [List.length_take] at this
    omega
   generalize he:ps[k]=pk at*
   have HE:=Lib.hid he
   obtain⟨m,wd⟩:=pk
   generalize hj:bs++(ps.take k).flatMap (fun p=>lowB p.2 p.1)=sj at*
   have HJ:=Lib.hid hj
   try clear hp hn he hj hG hW hR hA e0 hw
   simp only at c1 c2 h1 h2 h3
   go_wp2
   have hWh':=Lib.hid ((hWh.alloc (.cells #[.int .i64 m, .int .i64 wd] 173)).drew)
   try clear hWh
   have hm64:IntKind.u64.wrap (m:Int)=(m:Int):=IntWalk.u64_in _ (by omega)
   go_region_law (first | (go_simp; go_at_call 192; refine(zmq A sj.length cp sj m wd _ rfl ?_ (by omega) (by omega) h3 h1 _ rfl).mono ?_; (focus (exact(HR.out.alloc (Nat.le_refl _) _).wider (by simp))); rintro e w2 ⟨v2,rfl,ho2,hb2⟩; obtain⟨A2,cp2,rfl,hr2⟩:=zaz ho2; have x1:=cell_below hWh'.out.c2.1 hb2; have x2:=cell_below hWh'.out.c2.2 hb2; have x3:=(hb2.frozen (p:=⟨g,0,none⟩) (by simp; omega)).trans (hWh'.out.frozen 0); have x4:=(hb2.frozen (p:=⟨g,1,none⟩) (by simp; omega)).trans (hWh'.out.frozen 1); have hc2:cp2<=maxLen:=zlk ho2; have HO2:=Lib.hid ho2; have HB2:=Lib.hid hb2; clear ho2 hb2 hr2))
   all_goals
    have KN:=Lib.hid (zn2 hWh'.out HO2.out (by simp [zal]) hc2 HB2.out HG.out (((Below.refl _ wr).alloc (Nat.le_refl _) _).drew))
    go_wp2
    go_roundw
    case rel=>
     refine⟨k+1,by omega,by go_num, ?_,KN.out.2⟩
     rw [List.take_succ_eq_append_getElem hlt,List.flatMap_append, <-List.append_assoc,HJ.out,HE.out]
     simpa using KN.out.1
    case measure=>simp [intOf]; omega
  ·obtain rfl:k=ps.length:=by omega
   rw [List.take_length] at hW
   have HW:=Lib.hid hW
   have HG:=Lib.hid hG
   try clear hW hG
   go_wp2
   go_end0
   exact⟨rfl,HW.out,HG.out⟩
end
section
theorem zkT (s:List UInt8):Lib.strCells ⟨s.toArray⟩=bv s:=by simp [Lib.strCells,bv]
theorem zrc (A:Option Addr) (l c:Nat) (bs s:List UInt8) (w:World) (hbs:bs.length=l) (hr:Reads w w.heap.size 1 A l (bv bs)) (hl:l<=140737488000000) (hs:s.length<=65535):
 Calls Tryz.prog 193 #[.slice A l c, .string ⟨s.toArray⟩] w fun e w'=> ∃v,e= .returned (.tuple #[v, .nilIface])/\w'.ownsRow w.heap.size 5 1 v (l+2+s.length) (bv (bs++(lowB 2 s.length++s)))/\Below w.heap.size w w':=by
 obtain⟨i0,hi0,hz0,hz1,hz2⟩:=info_parts Tryz.infoU8
 have HR:=Lib.hid hr
 have HN:=Lib.hid hbs
 try clear hr hbs
 go_enter Tryz.func193,Tryz.ntmps193
 go_wp2_with fail
 refine(zmq A l c bs s.length 2 _ HN.out HR.out (by omega) (by omega) (by omega) (by omega) 2 rfl).mono ?_
 rintro e w1 ⟨v1,rfl,ho1,hb1⟩
 have HO:=Lib.hid ho1
 have HB:=Lib.hid hb1
 have hsz:(ByteArray.mk s.toArray).size=s.length:=zeN s
 have HS:=Lib.hid hsz
 try clear ho1 hb1 hsz
 go_wp2_with (at_builtin; refine Lib.wpList_append_own_string _ rfl (.tmp 25) (.tmp 26) _ _ rfl w.heap.size 5 i0 Tryz.underlying90 Tryz.underlying9 hi0 hz0 hz1 hz2 v1 (l+2) _ rfl HO.out ⟨s.toArray⟩ rfl (by rw [HS.out]; unfold maxLen; omega) (by rw [HS.out]; omega) HB.out.size ?_; intro v2 w2 ho2 hg2 _)
 rw [HS.out,zkT, <-zkE,List.append_assoc] at ho2
 have hB2:=zi9 HB.out HB.out.size hg2 HO.out
 have HO2:=Lib.hid ho2
 have HB2:=Lib.hid hB2
 try clear ho2 hg2 hB2
 go_wp2_with fail
 go_ret2
 exact⟨_,rfl,HO2.out,HB2.out⟩
theorem zn0 (g:Nat) (bs s:List UInt8) (w:World) (hw:WrAt w g bs) (hbl:bs.length<=100000) (hs:s.length<=65535):
 Calls Tryz.prog 119 #[.pointer (some ⟨g,0,none⟩), .string ⟨s.toArray⟩] w fun e w'=>e= .returned (.tuple #[])/\WrAt w' g (bs++(lowB 2 s.length++s))/\w.grownBy w' (some g):=by
 obtain⟨A,cp,hWh,hcp,hcm,hR,hA⟩:=hw.ex
 obtain⟨d1,d2⟩:=hWh.c2
 have hWh':=Lib.hid hWh
 have HR:=Lib.hid hR
 try clear hw hWh hR hA
 go_enter Tryz.func119,Tryz.ntmps119
 go_wp2_with fail
 refine(zrc A bs.length cp bs s _ rfl HR.out (by omega) hs).mono ?_
 rintro e w2 ⟨v2,rfl,ho2,hb2⟩
 obtain⟨A2,cp2,rfl,_⟩:=zaz ho2
 have hWb:=hWh'.out.below hb2 hWh'.out.lt
 obtain⟨x1,x2⟩:=hWb.c2
 have x3:=hWb.frozen 0
 have x4:=hWb.frozen 1
 have KN:=Lib.hid (zn2 hWh'.out ho2 (by simp [zal]; omega) (zlk ho2) hb2 (World.grownBy.refl w (some g)) (Below.refl _ w))
 try clear hWb ho2 hb2
 go_wp2_with fail
 go_end0
 exact⟨rfl,KN.out⟩
end
section
theorem zp1 (pre x suf:List UInt8) (n:Nat) (hn:x.length=n):cut (pre++x++suf) pre.length n=x:=by
 subst hn
 simp [cut,List.append_assoc]
theorem zcf (bs pre suf:List UInt8) (wd n a:Nat) (hb:bs=pre++lowB wd n++suf) (ha:a=pre.length) (hn:n<256^wd) (hm:n<=4611686018427387904):pnum bs a wd=some (n,a+wd):=by
 subst hb ha
 have hc:=zp1 pre (lowB wd n) suf wd (zal _ _)
 rw [pnum,hc,zhM wd n hn,if_pos ⟨by simp [zal],hm⟩]
theorem zqJ (bs pre t suf:List UInt8) (a:Nat) (hb:bs=pre++(lowB 2 t.length++t)++suf) (ha:a=pre.length) (hn:t.length<65536):ptext bs a=some (t,a+2+t.length):=by
 subst hb ha
 have hc:cut (pre++(lowB 2 t.length++t)++suf) pre.length 2=lowB 2 t.length:=by
  have:=zp1 pre (lowB 2 t.length) (t++suf) 2 (zal _ _)
  simpa [List.append_assoc] using this
 have hd:cut (pre++(lowB 2 t.length++t)++suf) (pre.length+2) t.length=t:=by
  have:=zp1 (pre++lowB 2 t.length) t suf t.length rfl
  simpa [List.append_assoc,zal] using this
 rw [ptext,hc,zhM 2 _ (by simpa using hn),hd,if_pos ⟨by simp [zal],by simp [zal]; omega⟩]
theorem zkP (v:Int):unfoldI (foldN v)=v:=by
 unfold unfoldI foldN
 split<;>split<;>omega
theorem zi0 (v:Int) (h1: -2147483647<=v) (h2:v<=2147483647):foldN v<4294967296:=by
 unfold foldN
 split<;>omega
def zgR (n k:Nat):List Int:=((List.range k).filter fun(i:Nat)=>n/2^i%2==1).map fun(i:Nat)=>(i:Int)
theorem zhQ (n k:Nat):zgR n (k+1)=zgR n k++if n/2^k%2=1 then [(k:Int)] else []:=by
 simp only [zgR,List.range_succ,List.filter_append,List.map_append]
 congr 1
 by_cases h:n/2^k%2=1<;>simp [h]
theorem zgQ (n k:Nat): ∀m,k<=m->(∀i,k<=i->i<m->n/2^i%2=0)->zgR n m=zgR n k:=by
 intro m hm
 induction m with
 | zero=>intro _; obtain rfl:k=0:=by omega
         rfl
 | succ m ih=>
   intro h
   by_cases hk:k=m+1
   ·rw [hk]
   ·rw [zhQ,if_neg (by have:=h m (by omega) (by omega); omega),List.append_nil]
    exact ih (by omega) fun i h1 h2=>h i h1 (by omega)
theorem zok (m x:Nat) (hm:m<2^x):zgR (m+2^x) (x+1)=zgR m x++[(x:Int)]:=by
 rw [zhQ]
 have e1:(m+2^x)/2^x%2=1:=by
  rw [Nat.add_div_right _ (Nat.pow_pos (by decide)),Nat.div_eq_of_lt hm]
 rw [if_pos e1]
 congr 1
 unfold zgR
 congr 1
 apply List.filter_congr
 intro i hi
 have hi:i<x:=by simpa using hi
 have e:2^x=2^i*(2*2^(x-i-1)):=by
  rw [<-Nat.pow_succ', <-Nat.pow_add]
  congr 1
  omega
 have:(m+2^x)/2^i=m/2^i+2*2^(x-i-1):=by
  rw [e,Nat.add_mul_div_left _ _ (Nat.pow_pos (by decide))]
 rw [this]
 congr 1
 omega
theorem zj6 (m x i:Nat) (hm:m<2^x) (hi:x<=i):m/2^i%2=0:=by
 rw [Nat.div_eq_of_lt (Nat.lt_of_lt_of_le hm (Nat.pow_le_pow_right (by decide) hi))]
theorem zhR (l:List Int) (h:allB l.length (stAt l)=true): ∀k,k<=l.length-> ∃y,y<=32/\setN (l.take k)<2^y/\zgR (setN (l.take k)) y=l.take k/\(k<l.length->(y:Int)<=l.getD k 0)
 | 0,_=>⟨0,by omega,by simp [setN],by simp [setN,zgR],fun hk=>by have:=zey (zbW h 0 hk); omega⟩
 | k+1,hk=>by
   obtain⟨y,hy,hlt,hs,hle⟩:=zhR l h k (by omega)
   have h0:=zey (zbW h k (by omega))
   have hle:=hle (by omega)
   have hlt2:=ziB l k (fun j _ hj=>zbW h j hj) (by omega)
   refine⟨(l.getD k 0).toNat+1,by omega, ?_, ?_,fun hk'=> ?_⟩
   ·rw [zdG l k (by omega), <-zaR l k 0 (by omega),Nat.pow_succ]
    omega
   ·rw [zdG l k (by omega), <-zaR l k 0 (by omega),zok _ _ hlt2,List.take_succ_eq_append_getElem (by omega:k<l.length)]
    rw [zgQ _ y _ (by omega) (fun i h1 _=>zj6 _ y i hlt h1),hs, <-zaR l k 0 (by omega)]
    congr 2
    omega
   ·have h1:=(zey (zbW h (k+1) hk')).2.2
    simp at h1
    have:l.getD k 0<l.getD (k+1) 0:=by simpa using h1
    omega
theorem zhT (l:List Int) (h:allB l.length (stAt l)=true):setOf (setN l)=l:=by
 obtain⟨y,hy,hlt,hs,_⟩:=zhR l h l.length (Nat.le_refl _)
 rw [List.take_length] at hlt hs
 have:setOf (setN l)=zgR (setN l) 32:=rfl
 rw [this,zgQ _ y 32 hy (fun i h1 _=>zj6 _ y i hlt h1),hs]
theorem zhX {α:Type} (bs:List UInt8) (K:List Int->Nat->Option α): ∀(vs:List Int) (pre suf:List UInt8) (acc:List Int),bs=pre++zbC vs++suf->(∀v∈vs, -2147483647<=v/\v<=2147483647)->
 pvars bs K vs.length pre.length acc=K (acc++vs) (pre++zbC vs).length
 | [],pre,suf,acc,hb,hv=>by simp [pvars,zbC]
 | v::vs,pre,suf,acc,hb,hv=>by
   have h1:=hv v (by simp)
   have e:zbC (v::vs)=lowB 4 (foldN v)++zbC vs:=by simp [zbC]
   rw [e] at hb |-
   have hp:=zcf bs pre (zbC vs++suf) 4 (foldN v) pre.length (by rw [hb]; simp [List.append_assoc]) rfl (by have:=zi0 v h1.1 h1.2; omega) (by have:=zi0 v h1.1 h1.2; omega)
   rw [List.length_cons,pvars,hp]
   have:=zhX bs K vs (pre++lowB 4 (foldN v)) suf (acc++[v]) (by rw [hb]; simp [List.append_assoc]) (fun x hx=>hv x (by simp [hx]))
   simp only [List.length_append,zal,Option.bind_some,zkP] at this |-
   rw [this]
   simp [List.append_assoc,Nat.add_assoc]
theorem zhY {α:Type} (bs:List UInt8) (K:List (Int×List Int)->Nat->Option α): ∀(ms:List (Int×List Int)) (pre suf:List UInt8) (acc:List (Int×List Int)),bs=pre++za8 ms++suf->
 (∀m∈ms,0<=m.1/\m.1<=31/\allB m.2.length (stAt m.2)=true)->pmems bs K ms.length pre.length acc=K (acc++ms) (pre++za8 ms).length
 | [],pre,suf,acc,hb,hv=>by simp [pmems,za8]
 | m::ms,pre,suf,acc,hb,hv=>by
   obtain⟨h1,h2,h3⟩:=hv m (by simp)
   have hs:=zd6 m.2 h3
   have e:za8 (m::ms)=lowB 1 m.1.toNat++lowB 4 (setN m.2)++za8 ms:=by simp [za8]
   rw [e] at hb |-
   have hp:=zcf bs pre (lowB 4 (setN m.2)++za8 ms++suf) 1 m.1.toNat pre.length (by rw [hb]; simp [List.append_assoc]) rfl (by omega) (by omega)
   have hq:=zcf bs (pre++lowB 1 m.1.toNat) (za8 ms++suf) 4 (setN m.2) (pre.length+1) (by rw [hb]; simp [List.append_assoc]) (by simp [zal]) (by omega) (by omega)
   rw [List.length_cons,pmems,hp,Option.bind_some,hq]
   have:=zhY bs K ms (pre++lowB 1 m.1.toNat++lowB 4 (setN m.2)) suf (acc++[m]) (by rw [hb]; simp [List.append_assoc]) (fun x hx=>hv x (by simp [hx]))
   simp only [List.length_append,zal,Option.bind_some,zhT m.2 h3] at this |-
   rw [show ((m.1.toNat:Nat):Int)=m.1 by omega,this]
   simp [List.append_assoc,Nat.add_assoc]
theorem zjF {α:Type} (bs:List UInt8) (K:List (List UInt8×Int)->Nat->Option α): ∀(ts:List (List UInt8×Int)) (pre suf:List UInt8) (acc:List (List UInt8×Int)),bs=pre++tmBs ts++suf->
 (∀t∈ts,t.1.length<=32/\0<=t.2/\t.2<=1099511627776)->ptms bs K ts.length pre.length acc=K (acc++ts) (pre++tmBs ts).length
 | [],pre,suf,acc,hb,hv=>by simp [ptms,tmBs]
 | t::ts,pre,suf,acc,hb,hv=>by
   obtain⟨h1,h2,h3⟩:=hv t (by simp)
   have e:tmBs (t::ts)=lowB 2 t.1.length++t.1++lowB 8 t.2.toNat++tmBs ts:=by simp [tmBs]
   rw [e] at hb |-
   have hp:=zqJ bs pre t.1 (lowB 8 t.2.toNat++tmBs ts++suf) pre.length (by rw [hb]; simp [List.append_assoc]) rfl (by omega)
   have hq:=zcf bs (pre++lowB 2 t.1.length++t.1) (tmBs ts++suf) 8 t.2.toNat (pre.length+2+t.1.length) (by rw [hb]; simp [List.append_assoc]) (by simp [zal]; omega) (by omega) (by omega)
   rw [List.length_cons,ptms,hp,Option.bind_some,hq]
   have:=zjF bs K ts (pre++lowB 2 t.1.length++t.1++lowB 8 t.2.toNat) suf (acc++[t]) (by rw [hb]; simp [List.append_assoc]) (fun x hx=>hv x (by simp [hx]))
   simp only [List.length_append,zal,Option.bind_some] at this |-
   rw [show ((t.2.toNat:Nat):Int)=t.2 by omega,this]
   simp [List.append_assoc,Nat.add_assoc]
theorem ziO {β:Type} {l:List β} {x:β} (d:β) (h:x∈l): ∃j,j<l.length/\l.getD j d=x:=by
 obtain⟨j,hj,rfl⟩:=List.getElem_of_mem h
 exact⟨j,hj,zaR l j d hj⟩
structure Rights (r:Rc):Prop where
 c1:1<=r.chart
 c2:r.chart<=2147483647
 b1:0<=r.born
 b2:r.born<=1099511627776
 s1:0<=r.steps
 s2:r.steps<=1099511627776
 act:allB r.active.length (stAt r.active)=true
 act1:0<r.active.length
 vars: ∀v∈r.vars, -2147483647<=v/\v<=2147483647
 vars1:r.vars.length<=8
 mem: ∀m∈r.mem,0<=m.1/\m.1<=31/\allB m.2.length (stAt m.2)=true
 mem1:r.mem.length<=32
 tms: ∀t∈r.timers,t.1.length<=32/\0<=t.2/\t.2<=1099511627776
 tms1:r.timers.length<=8
theorem zmf (l:List (Int×List Int)) (h:allB l.length (rmAt l)=true): ∀k,k<l.length->(k:Int)<=(l.getD k (0,[])).1
 | 0,hk=>by
   have:=zbW h 0 hk
   simp only [rmAt,Bool.and_eq_true,decide_eq_true_eq] at this
   exact this.1.1.1
 | k+1,hk=>by
   have ih:=zmf l h k (by omega)
   have:=zbW h (k+1) hk
   simp only [rmAt,Bool.and_eq_true,Bool.or_eq_true,decide_eq_true_eq] at this
   have h2:=this.2
   simp at h2
   have:(l.getD k (0,[])).1< (l.getD (k+1) (0,[])).1:=by simpa using h2
   omega
theorem zov {r:Rc} (h:zai r=true):Rights r:=by
 simp only [zai,ze6,zak,zdy,rmsB,zaL,clkB,Bool.and_eq_true,decide_eq_true_eq] at h
 obtain⟨⟨⟨⟨⟨⟨h1,h2⟩,h3⟩,h4,h5⟩,h6,h7⟩,h8⟩,h9,h10⟩:=h
 refine⟨h1.1,h1.2,h2.1,h2.2,h3.1,h3.2,h4,h5, ?_,h7, ?_, ?_, ?_,h10⟩
 ·intro v hv
  obtain⟨j,hj,rfl⟩:=ziO 0 hv
  have:=zbW h6 j hj
  simpa only [zdu,Bool.and_eq_true,decide_eq_true_eq] using this
 ·intro m hm
  obtain⟨j,hj,rfl⟩:=ziO (0,[]) hm
  have:=zbW h8 j hj
  simp only [rmAt,zak,Bool.and_eq_true,decide_eq_true_eq] at this
  exact⟨this.1.1.1,this.1.1.2,this.1.2.1⟩
 ·rcases Nat.lt_or_ge 32 r.mem.length with hgt | hle
  ·have h1:=zmf r.mem h8 32 hgt
   have:=zbW h8 32 hgt
   simp only [rmAt,Bool.and_eq_true,decide_eq_true_eq] at this
   have:=this.1.1.2
   omega
  ·exact hle
 ·intro t ht
  obtain⟨j,hj,rfl⟩:=ziO ([],0) ht
  have:=zbW h9 j hj
  simp only [tmAt,zaC,clkB,Bool.and_eq_true,decide_eq_true_eq] at this
  exact⟨this.1.1.1.1,this.1.2.1,this.1.2.2⟩
theorem zng (r:Rc) (h:zai r=true):parse (zcz r)=some r:=by
 have R:=zov h
 have c1:=R.c1; have c2:=R.c2; have b1:=R.b1; have b2:=R.b2; have s1:=R.s1; have s2:=R.s2
 have hA:=zd6 r.active R.act
 have v1:=R.vars1; have m1:=R.mem1; have t1:=R.tms1
 have ho:r.over.toNat<=1:=Bool.toNat_le r.over
 obtain⟨c,b,s,ac,vs,ms,ts,o⟩:=r
 simp only at c1 c2 b1 b2 s1 s2 hA v1 m1 t1 ho
 obtain⟨bs,hbs⟩: ∃bs,bs=zcz ⟨c,b,s,ac,vs,ms,ts,o⟩:=⟨_,rfl⟩
 rw [<-hbs]
 simp only [zcz,zfZ] at hbs
 unfold parse p3 p4 p5 p6
 have q1:=zcf bs [73,49] (lowB 8 b.toNat++lowB 8 s.toNat++lowB 1 o.toNat++lowB 4 (setN ac)++lowB 1 vs.length++zbC vs++lowB 1 ms.length++za8 ms++lowB 1 ts.length++tmBs ts) 4 c.toNat 2 (by rw [hbs]; simp [List.append_assoc]) rfl (by omega) (by omega)
 have q2:=zcf bs ([73,49]++lowB 4 c.toNat) (lowB 8 s.toNat++lowB 1 o.toNat++lowB 4 (setN ac)++lowB 1 vs.length++zbC vs++lowB 1 ms.length++za8 ms++lowB 1 ts.length++tmBs ts) 8 b.toNat (2+4) (by rw [hbs]; simp [List.append_assoc]) (by simp [zal]) (by omega) (by omega)
 have q3:=zcf bs ([73,49]++lowB 4 c.toNat++lowB 8 b.toNat) (lowB 1 o.toNat++lowB 4 (setN ac)++lowB 1 vs.length++zbC vs++lowB 1 ms.length++za8 ms++lowB 1 ts.length++tmBs ts) 8 s.toNat (2+4+8) (by rw [hbs]; simp [List.append_assoc]) (by simp [zal]) (by omega) (by omega)
 have q4:=zcf bs ([73,49]++lowB 4 c.toNat++lowB 8 b.toNat++lowB 8 s.toNat) (lowB 4 (setN ac)++lowB 1 vs.length++zbC vs++lowB 1 ms.length++za8 ms++lowB 1 ts.length++tmBs ts) 1 o.toNat (2+4+8+8) (by rw [hbs]; simp [List.append_assoc]) (by simp [zal]) (by omega) (by omega)
 have q5:=zcf bs ([73,49]++lowB 4 c.toNat++lowB 8 b.toNat++lowB 8 s.toNat++lowB 1 o.toNat) (lowB 1 vs.length++zbC vs++lowB 1 ms.length++za8 ms++lowB 1 ts.length++tmBs ts) 4 (setN ac) (2+4+8+8+1) (by rw [hbs]; simp [List.append_assoc]) (by simp [zal]) (by omega) (by omega)
 have q6:=zcf bs ([73,49]++lowB 4 c.toNat++lowB 8 b.toNat++lowB 8 s.toNat++lowB 1 o.toNat++lowB 4 (setN ac)) (zbC vs++lowB 1 ms.length++za8 ms++lowB 1 ts.length++tmBs ts) 1 vs.length (2+4+8+8+1+4) (by rw [hbs]; simp [List.append_assoc]) (by simp [zal]) (by omega) (by omega)
 simp only [q1,q2,q3,q4,q5,Option.bind_some]
 unfold p7
 simp only [q6,Option.bind_some]
 rw [zhT ac R.act]
 have w1:=zhX bs (fun vs' a'=>p8 bs (c.toNat:Nat) (b.toNat:Nat) (s.toNat:Nat) (decide (o.toNat=1)) ac vs' a') vs ([73,49]++lowB 4 c.toNat++lowB 8 b.toNat++lowB 8 s.toNat++lowB 1 o.toNat++lowB 4 (setN ac)++lowB 1 vs.length) (lowB 1 ms.length++za8 ms++lowB 1 ts.length++tmBs ts) [] (by rw [hbs]; simp [List.append_assoc]) R.vars
 simp only [List.length_append,zal,List.length_cons,List.length_nil,List.nil_append] at w1
 simp only [Nat.zero_add,Nat.reduceAdd] at w1 |-
 rw [w1]
 unfold p8
 obtain⟨pre2,hpre2⟩: ∃p,p=[73,49]++lowB 4 c.toNat++lowB 8 b.toNat++lowB 8 s.toNat++lowB 1 o.toNat++lowB 4 (setN ac)++lowB 1 vs.length++zbC vs:=⟨_,rfl⟩
 have l2:28+(zbC vs).length=pre2.length:=by rw [hpre2]; simp [zal]; omega
 rw [l2]
 have hb2:bs=pre2++lowB 1 ms.length++za8 ms++lowB 1 ts.length++tmBs ts:=by rw [hbs,hpre2]
 have q7:=zcf bs pre2 (za8 ms++lowB 1 ts.length++tmBs ts) 1 ms.length pre2.length (by rw [hb2]; simp [List.append_assoc]) rfl (by omega) (by omega)
 rw [q7,Option.bind_some]
 have w2:=zhY bs (fun ms' a'=>p9 bs (c.toNat:Nat) (b.toNat:Nat) (s.toNat:Nat) (decide (o.toNat=1)) ac vs ms' a') ms (pre2++lowB 1 ms.length) (lowB 1 ts.length++tmBs ts) [] (by rw [hb2]; simp [List.append_assoc]) R.mem
 rw [show (pre2++lowB 1 ms.length).length=pre2.length+1 by simp [zal]] at w2
 simp only [w2,List.nil_append]
 unfold p9
 have q8:=zcf bs (pre2++lowB 1 ms.length++za8 ms) (tmBs ts) 1 ts.length (pre2++lowB 1 ms.length++za8 ms).length (by rw [hb2]) rfl (by omega) (by omega)
 rw [q8,Option.bind_some]
 have w3:=zjF bs (fun ts' _=>some (⟨(c.toNat:Nat),(b.toNat:Nat),(s.toNat:Nat),ac,vs,ms,ts',decide (o.toNat=1)⟩:Rc)) ts (pre2++lowB 1 ms.length++za8 ms++lowB 1 ts.length) [] [] (by rw [hb2]; simp [List.append_assoc]) R.tms
 rw [show (pre2++lowB 1 ms.length++za8 ms++lowB 1 ts.length).length=(pre2++lowB 1 ms.length++za8 ms).length+1 by simp [zal,Nat.add_assoc]] at w3
 simp only [w3,List.nil_append]
 have e1:((c.toNat:Nat):Int)=c:=by omega
 have e2:((b.toNat:Nat):Int)=b:=by omega
 have e3:((s.toNat:Nat):Int)=s:=by omega
 have e4:decide (o.toNat=1)=o:=by cases o<;>rfl
 rw [e1,e2,e3,e4]
theorem zpv (r:Rc) (h:zai r=true):getR (zcz r)=some r:=by
 rw [getR,zng r h,Option.bind_some,if_pos ⟨h,rfl⟩]
end
section
theorem za1.up {w w':World} {a:Addr} {n:Nat} {E:Value} (h:za1 w a n E) (hb:Below w.heap.size w w'):za1 w' a n E:=h.below hb
theorem zsN (r:Rc) (va vv vm vt:Value) (w:World) (h:InAt w w.heap.size va vv vm vt r) (aF:Addr) (hf:Sent w 1 aF) (hr:zai r=false):
 Calls Tryz.prog 46 #[.agg (recV r va vv vm vt)] w fun e w'=> ∃E,e= .returned (.tuple #[.slice none 0 0,E])/\Below w.heap.size w w'/\za1 w' aF 2 E:=by
 have hb0:=(Below.refl w.heap.size w).alloc (Nat.le_refl _) (.cells (recV r va vv vm vt) 33)
 have F0:=Lib.hid (hf.below hb0)
 have I0:=Lib.hid (h.below hb0)
 have B0:=Lib.hid hb0
 have R0:=Lib.hid hr
 try clear hb0 hf h hr
 go_enter Tryz.func46,Tryz.ntmps46
 go_wp2_with fail
 refine(zkA r va vv vm vt _ I0.out aF F0.out).mono ?_
 rintro e w1 ⟨E,rfl,hb1,hE⟩
 have hE:za1 w1 aF 1 E:=by
  rcases hE with⟨h,_⟩ | ⟨_,h⟩
  ·rw [R0.out] at h; cases h
  ·exact h
 obtain⟨t,v,rfl⟩:=hE.form
 have HE:=Lib.hid hE
 have B1:=Lib.hid (B0.out.trans (hb1.mono (by simp)))
 try clear hb1 hE
 go_wp2_with fail
 refine(zjg _ _ _ _).mono ?_
 rintro e w2 ⟨rfl,rfl⟩
 go_wp2_with fail
 go_ret2
 exact⟨_,rfl,B1.out.alloc B1.out.size _,HE.out.wrap _ _⟩
theorem zaS {W0 wr:World} {g:Nat} (hG:W0.grownBy wr (some g)) (hg:g<W0.heap.size): ∀b off,b<g->wr.cell? ⟨b,off,none⟩=W0.cell? ⟨b,off,none⟩:=fun b off hb=>
 World.cell?_of_block (a:=⟨b,off,none⟩) (hG.block b (by omega) (by simp; omega))
theorem WrAt.alloc {w:World} {g:Nat} {bs:List UInt8} (h:WrAt w g bs) (o:Obj):WrAt (w.alloc o) g bs:=by
 obtain⟨A,c,h1,h2,h3,h4,h5⟩:=h.ex
 exact⟨A,c,h1.alloc o,h2,h3,(h4.alloc (Nat.le_refl _) o).wider (by simp),h5⟩
theorem WrAt.drew {w:World} {g:Nat} {bs:List UInt8} (h:WrAt w g bs):WrAt w.drew g bs:=⟨h.ex⟩
theorem WrAt.drewN {w:World} {g:Nat} {bs:List UInt8} (h:WrAt w g bs) (n:Nat):WrAt (w.drewN n) g bs:=⟨h.ex⟩
theorem WrAt.lt {w:World} {g:Nat} {bs:List UInt8} (h:WrAt w g bs):g<w.heap.size:=by
 obtain⟨A,c,h1,_⟩:=h.ex
 exact h1.lt
structure PutAt (w W0:World) (R g:Nat) (va vv vm vt:Value) (r:Rc):Prop where
 bel:Below w.heap.size w W0
 rec_:Whole W0 R 33 (recV r va vv vm vt)
 inn:InAt W0 g va vv vm vt r
 lo:w.heap.size<=R
 rg:R<g
 gl:g<W0.heap.size
theorem zdR {a w:World} {row:Option Nat} (h:a.grownBy w row):a.grownBy w.drew row:=⟨h.os,h.tape,h.output,h.size,h.block⟩
theorem zeK (l:List Int):(zbC l).length<=4*l.length:=by
 induction l with
 | nil=>simp [zbC]
 | cons v l ih=>
   simp only [zbC,List.flatMap_cons,List.length_append,zal,List.length_cons] at ih |-
   omega
theorem zeW (l:List (Int×List Int)):(za8 l).length<=5*l.length:=by
 induction l with
 | nil=>simp [za8]
 | cons v l ih=>
   simp only [za8,List.flatMap_cons,List.length_append,zal,List.length_cons] at ih |-
   omega
theorem zlY (l:List (List UInt8×Int)) (h: ∀t∈l,t.1.length<=32):(tmBs l).length<=42*l.length:=by
 induction l with
 | nil=>simp [tmBs]
 | cons v l ih=>
   have h1:=h v (by simp)
   have:=ih (fun t ht=>h t (by simp [ht]))
   simp only [tmBs,List.flatMap_cons,List.length_append,zal,List.length_cons] at this |-
   omega
theorem zc3 (W:World) (X:Nat) (hX:X=W.heap.size) (t:TypeId) (ps:List (Nat×Nat)) (cs:Array Value) (hc:cs=(ps.flatMap fun p=>[Value.int .i64 (p.1:Int),Value.int .i64 (p.2:Int)]).toArray)   :zoR (W.alloc (.cells cs t)) X 0 ps:=by
 subst hX
 intro k hk
 have hw:=Whole.new W t cs
 have key: ∀(l:List (Nat×Nat)) (k:Nat) (h:k<l.length),(l.flatMap fun p=>[Value.int .i64 (p.1:Int),Value.int .i64 (p.2:Int)])[k*2]? =some (.int .i64 (l[k].1:Int))/\(l.flatMap fun p=>[Value.int .i64 (p.1:Int),Value.int .i64 (p.2:Int)])[k*2+1]? =some (.int .i64 (l[k].2:Int)):=by
  intro l
  induction l with
  | nil=>intro k h; simp at h
  | cons p l ih=>
    intro k h
    cases k with
    | zero=>simp
    | succ k=>
      have:=ih k (by simpa using h)
      rw [show (k+1)*2=k*2+1+1 by omega]
      simpa using this
 have h1:=key ps k hk
 refine⟨?_, ?_⟩
 ·rw [Nat.zero_add,hw.cell,hc]
  simpa using h1.1
 ·rw [Nat.zero_add,hw.cell,hc]
  simpa using h1.2
theorem zqs (w1:World):WrAt ((w1.alloc (.cells #[.int .u8 73, .int .u8 49] 5 (2,3))).alloc (.cells #[.slice (some ⟨w1.heap.size,0,none⟩) 2 2, .nilIface] 171)) (w1.heap.size+1) [73,49]:=by
 refine⟨some ⟨w1.heap.size,0,none⟩,2, ?_,by decide,by unfold maxLen; omega, ?_,fun b off e=>by cases e; omega⟩
 ·have:=Whole.new (w1.alloc (.cells #[.int .u8 73, .int .u8 49] 5 (2,3))) 171 #[.slice (some ⟨w1.heap.size,0,none⟩) 2 2, .nilIface]
  rw [World.size_alloc] at this
  exact this
 ·have:=((Reads.marked w1 5 #[.int .u8 73, .int .u8 49] (2,3) 1 2 rfl).alloc (by simp) (.cells #[.slice (some ⟨w1.heap.size,0,none⟩) 2 2, .nilIface] 171)).wider (B':=((w1.alloc (.cells #[.int .u8 73, .int .u8 49] 5 (2,3))).alloc (.cells #[.slice (some ⟨w1.heap.size,0,none⟩) 2 2, .nilIface] 171)).heap.size) (by simp)
  exact this
theorem zoI {w w1:World} {va vv vm vt:Value} {r:Rc} {o1 o2:Obj} (hb:Below w.heap.size w w1) (hm:Whole w1 w.heap.size 33 (recV r va vv vm vt)) (hi:InAt w1 w1.heap.size va vv vm vt r):
 PutAt w ((w1.alloc o1).alloc o2) w.heap.size (w1.heap.size+1) va vv vm vt r:=by
 have hl:=hm.lt
 refine⟨(hb.alloc hb.size _).alloc (by simp; omega) _,(hm.alloc _).alloc _, ?_,Nat.le_refl _,by omega,by simp⟩
 exact(hi.moved (fun b off h=>by rw [World.cell?_alloc_lt _ _ _ (by simp; omega),World.cell?_alloc_lt _ _ _ (by simpa using h)])).wider (by omega)
theorem zoH (r:Rc) (va vv vm vt:Value) (w:World) (h:InAt w w.heap.size va vv vm vt r) (aF:Addr) (hf:Sent w 1 aF) (hr:zai r=true):
 Calls Tryz.prog 46 #[.agg (recV r va vv vm vt)] w fun e w'=> ∃v,e= .returned (.tuple #[v, .nilIface])/\zau w' w'.heap.size 1 byteR v (zcz r)/\Below w.heap.size w w':=by
 have hb0:=(Below.refl w.heap.size w).alloc (Nat.le_refl _) (.cells (recV r va vv vm vt) 33)
 have F0:=Lib.hid (hf.below hb0)
 have I0:=Lib.hid (h.below hb0)
 have B0:=Lib.hid hb0
 have R0:=Lib.hid hr
 have M0:=Lib.hid (Whole.new w 33 (recV r va vv vm vt))
 have RT:=Lib.hid (zov hr)
 have kc:=fun(W:World)=>(show (convert 90 90 (.slice (some ⟨W.heap.size,0,none⟩) 2 2)).run Tryz.prog (W.alloc (.cells #[.int .u8 73, .int .u8 49] 5))=_ from
  Lib.run_convert_bytes_const (P:=Tryz.prog) W 90 5 #[.int .u8 73, .int .u8 49] 2 2 Tryz.underlying90 Tryz.underlying5)
 try clear hb0 hf hr
 go_enter Tryz.func46,Tryz.ntmps46
 go_wp2_with fail
 refine(zkA r va vv vm vt _ I0.out aF F0.out).mono ?_
 rintro e w1 ⟨E,rfl,hb1,hE⟩
 have hE:E= .nilIface:=by
  rcases hE with⟨_,h⟩ | ⟨h,_⟩
  ·exact h
  ·rw [R0.out] at h; cases h
 subst hE
 have I1:=Lib.hid (h.below (B0.out.trans (hb1.mono (by simp))))
 have M1:=Lib.hid (M0.out.below hb1 (by simp))
 have B1:=Lib.hid (B0.out.trans (hb1.mono (by simp)))
 try clear hb1 hE h F0 I0 B0 M0
 go_wp2_with fail
 have WR:=Lib.hid (zqs w1)
 have PA:=Lib.hid (zoI (o1:= .cells #[.int .u8 73, .int .u8 49] 5 (2,3)) (o2:= .cells #[.slice (some ⟨w1.heap.size,0,none⟩) 2 2, .nilIface] 171) B1.out M1.out I1.out)
 generalize (w1.alloc (.cells #[.int .u8 73, .int .u8 49] 5 (2,3))).alloc (.cells #[.slice (some ⟨w1.heap.size,0,none⟩) 2 2, .nilIface] 171)=W0 at*
 generalize w1.heap.size+1=g at*
 generalize w.heap.size=R at*
 try clear I1 M1 B1 kc
 obtain⟨ch,bo,st,ac,vs,ms,ts,ov⟩:=r
 simp only [recV] at*
 have rc1:=RT.out.c1; have rc2:=RT.out.c2; have rb1:=RT.out.b1; have rb2:=RT.out.b2; have rs1:=RT.out.s1; have rs2:=RT.out.s2
 have rv:=RT.out.vars1; have rm:=RT.out.mem1; have rt:=RT.out.tms1
 have ra:=zd6 ac RT.out.act
 simp only at rc1 rc2 rb1 rb2 rs1 rs2 rv rm rt
 obtain⟨ch,rfl⟩:=Int.eq_ofNat_of_zero_le (show 0<=ch by omega)
 obtain⟨bo,rfl⟩:=Int.eq_ofNat_of_zero_le rb1
 obtain⟨st,rfl⟩:=Int.eq_ofNat_of_zero_le rs1
 have ho:ov.toNat<=1:=Bool.toNat_le ov
 obtain⟨m0,m1,m2,m3,m4,m5,m6,m7⟩:=c8 PA.out.rec_
 have hgl:=PA.out.gl
 have hRg:=PA.out.rg
 obtain⟨A2,k2,e2,hl2,hm2⟩:=PA.out.inn.vars.form
 simp only at e2 hl2 hm2
 subst e2
 unfold maxLen at hm2
 go_upto_region 5 with(fail)
 go_cut [48] (fun _ W=>WrAt W g (zfZ ⟨ch,bo,st,ac,vs,ms,ts,ov⟩)/\W0.grownBy W (some g))
 case first=>
  go_region_held3 (fun w'=>w'.cell? ⟨R,0,none⟩=some (.int .i64 ch)/\w'.cell? ⟨R,1,none⟩=some (.int .i64 bo)/\w'.cell? ⟨R,2,none⟩=some (.int .i64 st)/\w'.cell? ⟨R,3,none⟩=some va/\w'.cell? ⟨R,4,none⟩=some (.slice A2 vs.length k2)/\w'.cell? ⟨R,7,none⟩=some (.bool ov)) (first | (go_keep; done))
   (first
    |(go_at_call 116; refine(zob _ _).mono ?_; rintro e w' ⟨rfl,rfl⟩)
    |(go_at_call 117; refine(zoj _ ac g _ (PA.out.inn.act.moved (w':=W0.drew) (fun _ _ _=>rfl) fun _ _ _ h=>h) RT.out.act).mono ?_; rintro e w' ⟨rfl,rfl⟩)
    |(go_at_call 115; refine(zec g [73,49] W0.heap.size 0 6 [(ch,4),(bo,8),(st,8),(ov.toNat,1),(setN ac,4),(vs.length,1)] _ (WR.out.alloc _).drew (by simp) (by omega) (zc3 W0 _ rfl _ _ _ rfl) (by simp) (by simp) ?_).mono ?_; (focus (intro p hp; simp at hp; rcases hp with rfl | rfl | rfl | rfl | rfl | rfl<;>simp<;>omega)); rintro e w2 ⟨rfl,hw2,hG2⟩; have y: ∀off,w2.cell? ⟨R,off,none⟩=W0.cell? ⟨R,off,none⟩:=fun off=>(zaS hG2 (by simp; omega) R off hRg).trans (World.cell?_alloc_lt W0 _ ⟨R,off,none⟩ (by simp; omega)); have y0:=(y 0).trans m0; have y1:=(y 1).trans m1; have y2:=(y 2).trans m2; have y3:=(y 3).trans m3; have y4:=(y 4).trans m4; have y7:=(y 7).trans m7; have HW2:=Lib.hid hw2; have HG2:=Lib.hid hG2; clear hw2 hG2 y))
  all_goals
   go_wp2_with fail
   go_meet
   refine⟨by simpa [zfZ] using HW2.out, ?_⟩
   exact(zdR (zbq (World.grownBy.refl W0 (some g)) _)).trans HG2.out
 case rest=>
 obtain⟨hW2,hG2⟩:=hcut
 have W2:=Lib.hid hW2
 have G2:=Lib.hid hG2
 have y4:=(zaS hG2 hgl R 4 hRg).trans m4
 have y5:=Lib.hid ((zaS hG2 hgl R 5 hRg).trans m5)
 try clear hW2 hG2
 have hbl:(zfZ ⟨ch,bo,st,ac,vs,ms,ts,ov⟩).length<=28:=by simp [zfZ,zal]
 generalize hhd:zfZ ⟨ch,bo,st,ac,vs,ms,ts,ov⟩=hd at*
 have HD:=Lib.hid hhd
 try clear hhd
 have HM:=Lib.hid (And.intro m5 m6)
 try clear m0 m1 m2 m3 m4 m5 m6 m7
 go_wp2_with fail
 go_loopw [53] (fun i wr=> ∃k:Nat,k<=vs.length/\i= .int .i64 k/\WrAt wr g (hd++zbC (vs.take k))/\W0.grownBy wr (some g)) (fun i _=>vs.length-(intOf i).toNat)
 case atStart=>exact⟨0,by omega,rfl,by simpa [zbC] using W2.out,G2.out⟩
 case round=>
  obtain⟨k,hk,rfl,hW,hG⟩:=hrel
  have HW:=Lib.hid hW
  have HG:=Lib.hid hG
  by_cases hlt:k<vs.length
  ·obtain⟨A2',c2',e2',_,_,hrv⟩:=PA.out.inn.vars.one
   cases e2'
   obtain⟨b,off,rfl,hb,hc⟩:=ints_at hrv rfl k hlt
   have hck:=(zaS hG hgl b (off+k) hb).trans (hc k hlt)
   have hv:=RT.out.vars vs[k] (List.getElem_mem _)
   rw [zaR vs k 0 hlt] at hck
   have HT:=Lib.hid (zb6 (fun v=>lowB 4 (foldN v)) vs k hlt)
   have hfl:=zi0 vs[k] hv.1 hv.2
   have hvl:(hd++zbC (vs.take k)).length<=100000:=by
    have:=zeK (vs.take k)
    simp only [List.length_take] at this
    rw [List.length_append]
    omega
   have hwl:=hW.lt
   generalize vs[k]=x at*
   try clear hc hrv hW hG
   go_wp2_with (go_at_call 118; refine(zrd x hv.1 hv.2 _).mono ?_; rintro e w' ⟨rfl,rfl⟩)
   refine(zec g (hd++zbC (vs.take k)) wr.heap.size 0 1 [(foldN x,4)] _ (HW.out.alloc _) (by simp) (by omega) (zc3 wr _ rfl _ _ _ rfl) (by simp) hvl ?_).mono ?_
   ·intro p hp
    simp at hp
    subst hp
    simp
    omega
   rintro e w3 ⟨rfl,hw3,hG3⟩
   have W3:Hid (WrAt w3 g (hd++zbC (vs.take (k+1)))):=Lib.hid (by
    have e:hd++zbC (vs.take (k+1))=hd++zbC (vs.take k)++[(foldN x,4)].flatMap (fun p=>lowB p.2 p.1):=by
     unfold zbC
     rw [HT.out]
     simp
    rw [e]
    exact hw3)
   have G3:=Lib.hid ((zbq HG.out _).trans hG3)
   try clear hw3 hG3
   go_wp2_with fail
   go_roundw
   case rel=>exact⟨k+1,by omega,by go_num,W3.out,G3.out⟩
   case measure=>simp [intOf]; omega
  ·obtain rfl:k=vs.length:=by omega
   rw [List.take_length] at HW
   have y5:=(zaS hG hgl R 5 hRg).trans HM.out.1
   have hwl:=hW.lt
   obtain⟨A3,k3,e3,hl3,hm3⟩:=PA.out.inn.mem.form
   simp only at e3 hl3 hm3
   subst e3
   unfold maxLen at hm3
   have hvl:(hd++zbC vs).length<=100000:=by
    have:=zeK vs
    rw [List.length_append]
    omega
   try clear hW hG W2 G2
   go_wp2_with fail
   refine(zec g (hd++zbC vs) wr.heap.size 0 1 [(ms.length,1)] _ (HW.out.alloc _) (by simp) (by omega) (zc3 wr _ rfl _ _ _ rfl) (by simp) hvl ?_).mono ?_
   ·intro p hp
    simp at hp
    subst hp
    simp
    omega
   rintro e w3 ⟨rfl,hw3,hG3⟩
   have W3:Hid (WrAt w3 g (hd++zbC vs++lowB 1 ms.length)):=Lib.hid (by simpa using hw3)
   have hG4:=(zbq HG.out _).trans hG3
   have G3:=Lib.hid hG4
   have y5:=(zaS hG4 hgl R 5 hRg).trans HM.out.1
   generalize hhd:hd++zbC vs++lowB 1 ms.length=hd2 at*
   have hbl2:hd2.length<=61:=by
    rw [<-hhd]
    have:=zeK vs
    simp only [List.length_append,zal]
    omega
   have HD2:=Lib.hid hhd
   try clear hhd hw3 hG3 hG4 HW HG
   go_wp2_with fail
   go_loopw [76] (fun i wr=> ∃k:Nat,k<=ms.length/\i= .int .i64 k/\WrAt wr g (hd2++za8 (ms.take k))/\W0.grownBy wr (some g)) (fun i _=>ms.length-(intOf i).toNat)
   case atStart=>exact⟨0,by omega,rfl,by simpa [za8] using W3.out,G3.out⟩
   case round=>
    obtain⟨k,hk,rfl,hW,hG⟩:=hrel
    have HW:=Lib.hid hW
    have HG:=Lib.hid hG
    have hwl:=hW.lt
    by_cases hlt:k<ms.length
    ·obtain⟨b,off,rfl,hb,hc⟩:=zgp PA.out.inn.mem k hlt
     obtain⟨sv,c1,c2,hsv⟩:=hc k hlt
     have c1:=(zaS hG hgl b (off+k*2) hb).trans c1
     have c2:=(zaS hG hgl b (off+k*2+1) hb).trans c2
     have hbw:b<wr.heap.size:=by omega
     rw [zaR ms k _ hlt] at c1 hsv
     obtain⟨x1,x2,x3⟩:=RT.out.mem ms[k] (List.getElem_mem _)
     have HT:=Lib.hid (zb6 (fun m:Int×List Int=>lowB 1 m.1.toNat++lowB 4 (setN m.2)) ms k hlt)
     have hsb:=zd6 ms[k].2 x3
     obtain⟨A4,k4,e4,_,_⟩:=hsv.form
     subst e4
     have SV:=Lib.hid (hsv.moved (zaS hG hgl) fun _ _ _ h=>h)
     have X3:=Lib.hid x3
     have hvl:(hd2++za8 (ms.take k)).length<=100000:=by
      have:=zeW (ms.take k)
      simp only [List.length_take] at this
      rw [List.length_append]
      omega
     generalize ms[k]=mk at*
     obtain⟨ms1,msl⟩:=mk
     simp only at c1 x1 x2 hsb
     obtain⟨ms1,rfl⟩:=Int.eq_ofNat_of_zero_le x1
     try clear hc hsv hW hG x3
     go_wp2_with fail
     go_region_held3 (fun w'=>w'.cell? ⟨wr.heap.size,0,none⟩=some (.int .i64 ms1)/\w'.cell? ⟨wr.heap.size,1,none⟩=some (.slice A4 msl.length k4)) (first | (go_keep; done))
      (first
       |(go_at_call 117; refine(zoj _ msl g _ (SV.out.moved (zbo ((((Below.refl _ wr).alloc (Nat.le_refl _) _).drew).mono (Nat.le_of_lt hwl))) fun _ _ _ h=>h) X3.out).mono ?_; rintro e w' ⟨rfl,rfl⟩)
       |(go_at_call 115; refine(zec g (hd2++za8 (ms.take k)) (wr.heap.size+1) 0 2 [(ms1,1),(setN msl,4)] _ ((HW.out.alloc _).alloc _).drew (by simp) (by omega) (zc3 (wr.alloc (.cells #[.int .i64 ms1, .slice A4 msl.length k4] 85)) _ (by simp) _ _ _ rfl) (by simp) hvl ?_).mono ?_; (focus (intro p hp; simp at hp; rcases hp with rfl | rfl<;>simp<;>omega)); rintro e w2 ⟨rfl,hw2,hG2⟩; have y0:w2.cell? ⟨wr.heap.size,0,none⟩=some (.int .i64 ms1):=(World.cell?_of_block (a:=⟨wr.heap.size,0,none⟩) (hG2.block wr.heap.size (by simp; omega) (by simp; omega))).trans (by simp); have y1:w2.cell? ⟨wr.heap.size,1,none⟩=some (.slice A4 msl.length k4):=(World.cell?_of_block (a:=⟨wr.heap.size,1,none⟩) (hG2.block wr.heap.size (by simp; omega) (by simp; omega))).trans (by simp); have HW2:=Lib.hid hw2; have HG2:=Lib.hid hG2; clear hw2 hG2))
     have W3:Hid (WrAt w2 g (hd2++za8 (ms.take (k+1)))):=Lib.hid (by
      have e:hd2++za8 (ms.take (k+1))=hd2++za8 (ms.take k)++[(ms1,1),(setN msl,4)].flatMap (fun p=>lowB p.2 p.1):=by
       unfold za8
       rw [HT.out]
       simp
      rw [e]
      exact HW2.out)
     have G3:=Lib.hid ((zdR (zbq (zbq HG.out _) _)).trans HG2.out)
     try clear HW2 HG2 y0 y1
     go_wp2_with fail
     go_roundw
     case rel=>exact⟨k+1,by omega,by go_num,W3.out,G3.out⟩
     case measure=>simp [intOf]; omega
    ·obtain rfl:k=ms.length:=by omega
     rw [List.take_length] at HW
     have y6:=(zaS hG hgl R 6 hRg).trans HM.out.2
     obtain⟨A5,k5,e5,hl5,hm5⟩:=PA.out.inn.tms.form
     simp only at e5 hl5 hm5
     subst e5
     unfold maxLen at hm5
     have hvl:(hd2++za8 ms).length<=100000:=by
      have:=zeW ms
      rw [List.length_append]
      omega
     try clear hW hG W3 G3
     go_wp2_with fail
     refine(zec g (hd2++za8 ms) wr.heap.size 0 1 [(ts.length,1)] _ (HW.out.alloc _) (by simp) (by omega) (zc3 wr _ rfl _ _ _ rfl) (by simp) hvl ?_).mono ?_
     ·intro p hp
      simp at hp
      subst hp
      simp
      omega
     rintro e w3 ⟨rfl,hw3,hG3⟩
     have W3:Hid (WrAt w3 g (hd2++za8 ms++lowB 1 ts.length)):=Lib.hid (by simpa using hw3)
     have hG4:=(zbq HG.out _).trans hG3
     have G3:=Lib.hid hG4
     have y6:=(zaS hG4 hgl R 6 hRg).trans HM.out.2
     generalize hhd:hd2++za8 ms++lowB 1 ts.length=hd3 at*
     have hbl3:hd3.length<=222:=by
      rw [<-hhd]
      have:=zeW ms
      simp only [List.length_append,zal]
      omega
     have HD3:=Lib.hid hhd
     try clear hhd hw3 hG3 hG4 HW HG
     go_wp2_with fail
     go_loopw [103] (fun i wr=> ∃k:Nat,k<=ts.length/\i= .int .i64 k/\WrAt wr g (hd3++tmBs (ts.take k))/\W0.grownBy wr (some g)) (fun i _=>ts.length-(intOf i).toNat)
     case atStart=>exact⟨0,by omega,rfl,by simpa [tmBs] using W3.out,G3.out⟩
     case round=>
      obtain⟨k,hk,rfl,hW,hG⟩:=hrel
      have HW:=Lib.hid hW
      have HG:=Lib.hid hG
      have hwl:=hW.lt
      by_cases hlt:k<ts.length
      ·obtain⟨b,off,rfl,hb,hc⟩:=zlX PA.out.inn.tms k hlt
       obtain⟨c1,c2,_⟩:=hc k hlt
       have c1:=(zaS hG hgl b (off+k*2) hb).trans c1
       have c2:=(zaS hG hgl b (off+k*2+1) hb).trans c2
       have hbw:b<wr.heap.size:=by omega
       rw [zaR ts k _ hlt] at c1 c2
       obtain⟨x1,x2,x3⟩:=RT.out.tms ts[k] (List.getElem_mem _)
       have HT:=Lib.hid (zb6 (fun t:List UInt8×Int=>lowB 2 t.1.length++t.1++lowB 8 t.2.toNat) ts k hlt)
       have hvl:(hd3++tmBs (ts.take k)).length<=90000:=by
        have:=zlY (ts.take k) (fun t ht=>(RT.out.tms t (List.mem_of_mem_take ht)).1)
        simp only [List.length_take] at this
        rw [List.length_append]
        omega
       generalize ts[k]=tk at*
       obtain⟨tn,ta⟩:=tk
       simp only at c1 c2 x1 x2 x3
       obtain⟨ta,rfl⟩:=Int.eq_ofNat_of_zero_le x2
       try clear hc hW hG
       go_wp2_with fail
       refine(zn0 g (hd3++tmBs (ts.take k)) tn _ (HW.out.alloc _) (by omega) (by omega)).mono ?_
       rintro e w4 ⟨rfl,hw4,hG4⟩
       have z1:w4.cell? ⟨wr.heap.size,1,none⟩=some (.int .i64 ta):=(World.cell?_of_block (a:=⟨wr.heap.size,1,none⟩) (hG4.block wr.heap.size (by simp) (by simp; omega))).trans (by simp)
       have hs4:wr.heap.size<w4.heap.size:=by have:=hG4.size; simp at this; omega
       have W4:=Lib.hid hw4
       have G4:=Lib.hid ((zbq HG.out _).trans hG4)
       have hvl4:(hd3++tmBs (ts.take k)++(lowB 2 tn.length++tn)).length<=100000:=by
        simp only [List.length_append,zal] at hvl |-
        omega
       try clear hw4 hG4
       go_wp2_with fail
       refine(zec g _ w4.heap.size 0 1 [(ta,8)] _ (W4.out.alloc _) (by simp) (by omega) (zc3 w4 _ rfl _ _ _ rfl) (by simp) hvl4 ?_).mono ?_
       ·intro p hp
        simp at hp
        subst hp
        simp
        omega
       rintro e w5 ⟨rfl,hw5,hG5⟩
       have W5:Hid (WrAt w5 g (hd3++tmBs (ts.take (k+1)))):=Lib.hid (by
        have e:hd3++tmBs (ts.take (k+1))=hd3++tmBs (ts.take k)++(lowB 2 tn.length++tn)++[(ta,8)].flatMap (fun p=>lowB p.2 p.1):=by
         unfold tmBs
         rw [HT.out]
         simp
        rw [e]
        exact hw5)
       have G5:=Lib.hid ((zbq G4.out _).trans hG5)
       try clear hw5 hG5 z1
       go_wp2_with fail
       go_roundw
       case rel=>exact⟨k+1,by omega,by go_num,W5.out,G5.out⟩
       case measure=>simp [intOf]; omega
      ·obtain rfl:k=ts.length:=by omega
       rw [List.take_length] at HW
       obtain⟨A9,c9,q1,q2,q3,q4,_⟩:=HW.out.ex
       obtain⟨z1,z2⟩:=q1.c2
       have KE:Hid (hd3++tmBs ts=zcz ⟨ch,bo,st,ac,vs,ms,ts,ov⟩):=Lib.hid (by rw [zcz,HD.out, <-HD3.out, <-HD2.out])
       have KL:Hid (zau wr wr.heap.size 1 byteR (.slice A9 (hd3++tmBs ts).length c9) (hd3++tmBs ts)):=Lib.hid (zau.of_one rfl q2 q3 (by simpa [bv] using q4))
       have KB:Hid (Below w.heap.size w wr):=Lib.hid (PA.out.bel.grown HG.out PA.out.bel.size (fun k hk=>by
        cases hk
        have:=PA.out.lo
        have:=PA.out.rg
        omega))
       try clear hW hG W3 G3 q1 q2 q3 q4
       generalize (hd3++tmBs ts).length=nn at*
       go_wp2_with fail
       go_quiet ((go_at_call 44; exact zaE (zqr _ _)))
       go_wp2_with fail
       go_ret2
       refine⟨_,rfl, ?_,below_drewN KB.out _⟩
       rw [KE.out] at KL
       exact KL.out
end

end Go.Proofs.YtnbjaghjdeicmaaGreatDoor