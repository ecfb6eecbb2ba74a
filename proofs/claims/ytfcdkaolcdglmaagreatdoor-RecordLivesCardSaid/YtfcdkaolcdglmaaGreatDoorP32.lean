/- light, of, awake of layer 34. -/
import Derived.Test.YtfcdkaolcdglmaaGreatDoorP31
set_option maxRecDepth 100000
set_option maxHeartbeats 4000000
set_option linter.unusedSimpArgs false
set_option linter.defProp false
namespace Go.Proofs.YtfcdkaolcdglmaaGreatDoor
open Go.Proofs.Tryz
section
open Go.RowKit
def xo{a b:List UInt8}{k:Nat}(c:k<a.length)(d:k<b.length)(h:a[k].toNat≠b[k].toNat):decide (a=b)=false:=by
 rw[Ov];rintro rfl;exact h rfl
def AP(A A':Option Addr)(n n' c c':Nat)(bs bs':List UInt8)(w:World)(hn:bs.length=n)(hn':bs'.length=n')(hl:n<=140737488351232)(hl':n'<=140737488351232)(hr:c0 w w.heap.size 1 A n (bv bs))(hr':c0 w w.heap.size 1 A' n' (bv bs')):
 Calls prog 32 #[.slice A n c, .slice A' n' c'] w fun e w'=>e= .returned (.bool (decide (bs=bs')))/\ ∃k,w'=w.drewN k:=by
 have hN:=OI hn;have hN':=OI hn';have HR:=OI hr;have HR':=OI hr';by_cases hne:n=n'
 ·subst hne;try clear hn hn' hr hr'
  go_enter func32,ntmps32
  go_wp2_with fail
  go_loopw [13] (fun i wr=> ∃k j:Nat,k<=n/\i= .int .i64 k/\wr=w.drewN j/\bs.take k=bs'.take k) (fun i _=>n-(intOf i).toNat)
  case atStart=>exact⟨0,0,by omega,rfl,rfl,by simp⟩
  case round=>
   obtain⟨k,j,hk,rfl,rfl,htk⟩:=hrel;have HT:=OI htk;try clear htk
   by_cases hlt:k<n
   ·obtain⟨b,off,u,rfl,_,hu,hc⟩:=HR.out.at_ hlt;obtain⟨b',off',u',rfl,_,hu',hc'⟩:=HR'.out.at_ hlt;have hkb:k<bs.length:=by rw[hN.out];exact hlt
    have hkb':k<bs'.length:=by rw[hN'.out];exact hlt
    rw[zQ bs k hkb]at hu;rw[zQ bs' k hkb']at hu';cases hu;cases hu';have g1:(0:Int)<=(k:Int):=by omega
    have g2:(k:Int)< (n:Int):=by omega
    have yes:Hid (bs[k].toNat=bs'[k].toNat->bs.take (k+1)=bs'.take (k+1)):=OI (fun h=>by
     rw[PG hkb,PG hkb',HT.out,T6.1 h])
    have no:Hid (bs[k].toNat≠bs'[k].toNat->decide (bs=bs')=false):=OI (xo hkb hkb');generalize bs[k].toNat=x at*;generalize bs'[k].toNat=x' at*;try clear hkb hkb'
    by_cases hx:x=x'
    ·have kn:=OI (yes.out hx);subst hx
     go_wp2_with fail
     go_quiet (fail)
     go_wp2_with fail
     go_roundw
     case rel=>exact⟨k+1,_,by omega,by go_num,rfl,kn.out⟩
     case measure=>simp[intOf];omega
    have kn:=OI (no.out hx);have e1:((x:Int) != (x':Int))=true:=by rw[RX];omega
    go_wp2_with fail
    go_quiet (fail)
    go_wp2_with fail
    go_ret
    rw[kn.out];exact⟨rfl,_,S5 _ _ _⟩
   obtain rfl:k=n:=by omega
   have kn:Hid (decide (bs=bs')=true):=OI (by
    have:=HT.out;rw[PI (by rw[hN.out];exact OO _),PI (by rw[hN'.out];exact OO _)]at this
    simpa using this)
   go_wp2_with fail
   go_ret
   rw[kn.out];exact⟨rfl,j,rfl⟩
 have kn:Hid (decide (bs=bs')=false):=OI (by
  rw[Ov];rintro rfl
  exact hne (hn.symm.trans hn'))
 have e1:((n:Int) != (n':Int))=true:=by rw[RX];omega
 try clear hn hn' hr hr'
 go_enter func32,ntmps32
 go_wp2_with fail
 go_ret
 rw[kn.out];exact⟨rfl,0,rfl⟩
def GY{r:Rc}(h:aW r=true):(kb r).length<=140737488351232:=by
 have R:=uw h;have b:=jT r.vars;have c:=j5 r.mem;have d:=tw r.timers (fun t a=>(R.Z4 t a).1);have:=R.ZO;have:=R.ZM;have:=R.ZL;simp only[kb,kh,ON,aU,OU,Q0];omega
def yr:Rc:=⟨0,0,0,[],[],[],[],false⟩
abbrev L':Value:= .slice none 0 0
def yq(w:World)(g:Addr)(o:Option Rc)(e:Ending)(w':World):Prop:=
 ∃(b f c d:Value) (r:Rc) (E:Value),e= .returned (.tuple #[.agg (ph r b f c d),E])/\Below w.heap.size w w'/\gv w' w.heap.size b f c d r/\((o=some r/\E= .nilIface)\/(o=none/\r=yr/\cz w' g 1 E/\ ∃a,E= .iface 120 (.pointer (some ⟨a,0,none⟩))/\w.heap.size<=a))
def sX(w:World)(base:Nat):gv w base L' L' L' L' yr:=
 ⟨Pr _ _ _ _,Pr _ _ _ _,⟨[],Pr _ _ _ _,jh _ _⟩,⟨[],Pr _ _ _ _,jh _ _⟩⟩
abbrev Wf(W:World)(P:Nat)(a b c d e f g h:Value):World:=
 (((((((W.setCell ⟨P,0,none⟩ a).setCell ⟨P,1,none⟩ b).setCell ⟨P,2,none⟩ c).setCell ⟨P,3,none⟩ d).setCell ⟨P,4,none⟩ e).setCell ⟨P,5,none⟩ f).setCell ⟨P,6,none⟩ g).setCell ⟨P,7,none⟩ h
def OB{W:World}{P e:Nat}{a:Addr}{E:Value}(n:cz W a 1 E)(b:E= .iface 120 (.pointer (some ⟨e,0,none⟩)))(c:P≠e)(d:P≠a.block)(f g h i j k l m:Value):cz (Wf W P f g h i j k l m) a 1 E:=
 (((((((n.stored b c d f).stored b c d g).stored b c d h).stored b c d i).stored b c d j).stored b c d k).stored b c d l).stored b c d m
def Nv{w W:World}{B P:Nat}(j:Below B w W)(a:B<=P)(b c d e f g h i:Value):Below B w (Wf W P b c d e f g h i):=
 (((((((j.setCell (p:=⟨P,0,none⟩) a b).setCell (p:=⟨P,1,none⟩) a c).setCell (p:=⟨P,2,none⟩) a d).setCell (p:=⟨P,3,none⟩) a e).setCell (p:=⟨P,4,none⟩) a f).setCell (p:=⟨P,5,none⟩) a g).setCell (p:=⟨P,6,none⟩) a h).setCell (p:=⟨P,7,none⟩) a i
def Nx{W:World}{base P:Nat}{b e c d:Value}{r:Rc}(h:gv W base b e c d r)(a:P<base)(f g i j k l m n:Value):gv (Wf W P f g i j k l m n) base b e c d r:=
 (((((((h.put a).put a).put a).put a).put a).put a).put a).put a
def Hl(A:Option Addr)(n c:Nat)(bs:List UInt8)(w:World)(hn:bs.length=n)(h2:n<2)(aF:Addr)(hS:p' w 0 aF):
 Calls prog 9 #[.slice A n c] w (yq w aF (nM bs)):=by
 have kn:Hid (nM bs=none):=OI (by
  unfold nM RW Bx;rw[OK (by omega)]
  rfl)
 have hb0:=(Oy w.heap.size w).alloc (OO _) (.cells #[.int .i64 0, .int .i64 0, .int .i64 0, .slice none 0 0, .slice none 0 0, .slice none 0 0, .slice none 0 0, .bool false] 44);have S0:=hS.below hb0;have cF:=S0.1;have HS:=OI S0;have B0:=OI hb0;have hlt:aF.block<w.heap.size:=hS.2.lt;have M0:=OI ((cU.new w 44 #[.int .i64 0, .int .i64 0, .int .i64 0, .slice none 0 0, .slice none 0 0, .slice none 0 0, .slice none 0 0, .bool false]).alloc (.cells #[.string ⟨#[114,101,99,111,114,100,46,71,101,116]⟩, .int .i64 (-1), .iface 307 (.pointer (some aF))] 122));try clear hS hb0 S0 hn
 go_enter func9,ntmps9
 go_wp2_with (go_at_call 29;refine(eE _ _ _ _).mono ?_;rintro e w' ⟨rfl,rfl⟩)
 obtain⟨z0,z1,z2,z3,z4,z5,z6,z7⟩:=c8 M0.out;refine TY (v:= .tuple #[.agg #[.int .i64 0, .int .i64 0, .int .i64 0, .slice none 0 0, .slice none 0 0, .slice none 0 0, .slice none 0 0, .bool false], .iface 120 (.pointer (some ⟨w.heap.size+1,0,none⟩))]) (by simp[results,results9,go_sem,z0,z1,z2,z3,z4,z5,z6,z7]) rfl ?_;rw[kn.out];have E1:=cz.new HS.out ⟨#[114,101,99,111,114,100,46,71,101,116]⟩ (-1);rw[QQ]at E1;refine⟨L',L',L',L',yr,_,rfl,?_,sX _ _, .inr ⟨rfl,rfl,?_⟩⟩
 ·go_grown
 exact⟨E1,_,rfl,by omega⟩
structure Vr(w wr:World)(b off n c:Nat)(bs:List UInt8)(at_:Nat)(bad:Bool)(cs:Array Value):Prop where
 bel:Below w.heap.size w wr
 rd:Fm wr (w.heap.size+1) (some ⟨b,off,none⟩) n c bs at_ bad
 Z0:cU wr (w.heap.size+2) 44 cs
 zero:cU wr w.heap.size 44 #[.int .i64 0, .int .i64 0, .int .i64 0, .slice none 0 0, .slice none 0 0, .slice none 0 0, .slice none 0 0, .bool false]
 hb:b<w.heap.size
def Vr.num{w g f:World}{b off n c:Nat}{d:List UInt8}{at_ at':Nat}{a bad':Bool}{cs:Array Value}(h:Vr w g b off n c d at_ a cs)(j:Fm f (w.heap.size+1) (some ⟨b,off,none⟩) n c d at' bad')(e:g.grownBy f (some (w.heap.size+1))):Vr w f b off n c d at' bad' cs:=
 ⟨h.bel.grown e h.bel.size (fun k i=>by cases i;omega),j,h.Z0.grown e (by simp),h.zero.grown e (by simp),h.hb⟩
def G6{W:World}{b off n:Nat}{xs:List Value}{p:Addr}{u:Value}(h:c0 W W.heap.size 1 (some ⟨b,off,none⟩) n xs)(i:b≠p.block):c0 (W.setCell p u) (W.setCell p u).heap.size 1 (some ⟨b,off,none⟩) n xs:=by
 refine⟨h.1,fun g=> ?_⟩;obtain⟨m,c,e,a,f⟩:=h.2 g;cases e;refine⟨b,off,rfl,by simpa[World.setCell]using a,fun j l k=> ?_⟩;rw[QL _ _ _ _ (fun d=>i (by rw[d]))];exact f j l k
def Vr.put{w f:World}{b off n c:Nat}{e:List UInt8}{at_:Nat}{a:Bool}{cs d:Array Value}(h:Vr w f b off n c e at_ a cs)(i:Nat)(u:Value)(g:cs.setIfInBounds i u=d):Vr w (f.setCell ⟨w.heap.size+2,i,none⟩ u) b off n c e at_ a d:=by
 subst g;have:=h.hb;exact⟨h.bel.setCell (by simp) u,⟨h.rd.cells.far (by simp) u,h.rd.len,G6 h.rd.reads (by simp;omega),h.rd.ne,h.rd.ZS,h.rd.cap,h.rd.Z6⟩,h.Z0.put i u,h.zero.far (by simp) u,h.hb⟩
def Vr.env{w f:World}{b off n c:Nat}{g:List UInt8}{at_:Nat}{a:Bool}{cs:Array Value}(h:Vr w f b off n c g at_ a cs){d:Addr}(i:p' w 0 d)(j:sy w): ∀w',f.grownBy w' (some (w.heap.size+1))->p' w' 0 d/\sy w':=fun w' l=>by
 have e:=h.bel.grown l h.bel.size (fun k m=>by cases m;omega);exact⟨i.below e,j.below e⟩
structure Ui(w W:World)(aF:Addr)(va vv vm vt:Value)(r:Rc):Prop where
 bel:Below w.heap.size w W
 Z0:cU W (w.heap.size+2) 44 (ph r va vv vm vt)
 zero:cU W w.heap.size 44 #[.int .i64 0, .int .i64 0, .int .i64 0, .slice none 0 0, .slice none 0 0, .slice none 0 0, .slice none 0 0, .bool false]
 own:gv W (w.heap.size+2) va vv vm vt r
 ZH:p' W 0 aF
structure VK(w W:World)(b off n c:Nat)(bs:List UInt8)(at_:Nat)(bad:Bool)(aF:Addr)(va vv vm vt:Value)(r:Rc):Prop where
 g:Vr w W b off n c bs at_ bad (ph r va vv vm vt)
 own:gv W (w.heap.size+2) va vv vm vt r
 ZH:p' W 0 aF
def VK.fin{w W:World}{b off n c:Nat}{j:List UInt8}{at_:Nat}{a:Bool}{d:Addr}{e i f g:Value}{r:Rc}(h:VK w W b off n c j at_ a d e i f g r):Ui w W d e i f g r:=⟨h.g.bel,h.g.Z0,h.g.zero,h.own,h.ZH⟩
def Ui.drewN{w W:World}{a:Addr}{b e c d:Value}{r:Rc}(h:Ui w W a b e c d r)(k:Nat):Ui w (W.drewN k) a b e c d r:=
 ⟨below_drewN h.bel k,h.Z0,h.zero,h.own.stay fun _ _ _=>rfl,h.ZH.below (below_drewN (Oy _ _) k)⟩
def qX{w W j:World}{b off n c:Nat}{m:List UInt8}{at_:Nat}{d:Bool}{l:Addr}{e i f g:Value}{r:Rc}(h:Vr w W b off n c m at_ d (ph r e i f g))(p:gv W (w.heap.size+2) e i f g r)(q:p' W 0 l)(a:Below W.heap.size W j):VK w j b off n c m at_ d l e i f g r:=
 ⟨⟨h.bel.trans (a.mono h.bel.size),h.rd.below a,h.Z0.below a h.Z0.lt,h.zero.below a h.zero.lt,h.hb⟩,p.stay fun k _ o=>a.block k o,q.below a⟩
def N5(w W:World)(b off n c:Nat)(g:List UInt8)(at_:Nat)(a:Bool)(f:Addr)(j m k l:Value)(r:Rc)(i e:Value):Prop:=
 VK w W b off n c g at_ a f j m k l r/\((aW r=false/\ ∃t v,e= .iface t v)\/(aW r=true/\ ∃d h,i= .slice d (kb r).length h/\e= .nilIface/\c0 W W.heap.size 1 d (kb r).length (bv (kb r))))
def N6(w W:World)(b:List UInt8)(c:Addr)(d g e f:Value)(r:Rc)(a:Value):Prop:=
 ∃q:Bool,a= .bool q/\Ui w W c d g e f r/\((q=false/\nM b=some r)\/(q=true/\nM b=none))
def OC{W b:World}{a:Addr}{s:ByteArray}(c:p' W 0 a)(h:W.alloc (.cells #[.string s, .int .i64 (-1), .iface 307 (.pointer (some a))] 122)=b):cz b a 1 (.iface 120 (.pointer (some ⟨W.heap.size,0,none⟩))):=by
 rw[<-h];exact cz.new c s (-1)
def Ji(b off n c:Nat)(bs:List UInt8)(w:World)(hn:bs.length=n)(hr:c0 w w.heap.size 1 (some ⟨b,off,none⟩) n (bv bs))(hc:n<=c)(hfew:n<=140737488351232)(hb:b<w.heap.size)(h2:2<=n)(aF:Addr)(hS:p' w 0 aF)(hT:sy w):
 Calls prog 9 #[.slice (some ⟨b,off,none⟩) n c] w (yq w aF (nM bs)):=by
 have G0:Vr w (((w.alloc (.cells #[.int .i64 0, .int .i64 0, .int .i64 0, .slice none 0 0, .slice none 0 0, .slice none 0 0, .slice none 0 0, .bool false] 44)).alloc (.cells #[.slice (some ⟨b,off,none⟩) n c, .int .i64 2, .bool false] 101)).alloc (.cells #[.int .i64 0, .int .i64 0, .int .i64 0, .slice none 0 0, .slice none 0 0, .slice none 0 0, .slice none 0 0, .bool false] 44)) b off n c bs 2 false #[.int .i64 0, .int .i64 0, .int .i64 0, .slice none 0 0, .slice none 0 0, .slice none 0 0, .slice none 0 0, .bool false]:=by
  have hbl:=(((Oy w.heap.size w).alloc (OO _) (.cells #[.int .i64 0, .int .i64 0, .int .i64 0, .slice none 0 0, .slice none 0 0, .slice none 0 0, .slice none 0 0, .bool false] 44)).alloc (by simp) (.cells #[.slice (some ⟨b,off,none⟩) n c, .int .i64 2, .bool false] 101)).alloc (by simp;omega) (.cells #[.int .i64 0, .int .i64 0, .int .i64 0, .slice none 0 0, .slice none 0 0, .slice none 0 0, .slice none 0 0, .bool false] 44);refine⟨hbl,⟨?_,hn,(hr.below hbl).wider (by simp;omega),fun b' off' e=>by cases e;omega,h2,hc,hfew⟩,?_,((cU.new w _ _).alloc _).alloc _,hb⟩
  ·have:=(cU.new (w.alloc (.cells #[.int .i64 0, .int .i64 0, .int .i64 0, .slice none 0 0, .slice none 0 0, .slice none 0 0, .slice none 0 0, .bool false] 44)) 101 #[.slice (some ⟨b,off,none⟩) n c, .int .i64 2, .bool false]).alloc (.cells #[.int .i64 0, .int .i64 0, .int .i64 0, .slice none 0 0, .slice none 0 0, .slice none 0 0, .slice none 0 0, .bool false] 44);rw[QQ]at this;exact this
  have:=cU.new ((w.alloc (.cells #[.int .i64 0, .int .i64 0, .int .i64 0, .slice none 0 0, .slice none 0 0, .slice none 0 0, .slice none 0 0, .bool false] 44)).alloc (.cells #[.slice (some ⟨b,off,none⟩) n c, .int .i64 2, .bool false] 101)) 44 #[.int .i64 0, .int .i64 0, .int .i64 0, .slice none 0 0, .slice none 0 0, .slice none 0 0, .slice none 0 0, .bool false];rw[QQ,QQ]at this;exact this
 have HG:=OI G0;have HS:=OI hS;have HT:=OI hT;have HI:Hid (Inv false (RW bs) (RW bs)):=OI ⟨fun _=>rfl,fun h=>(by cases h)⟩;have hlt:aF.block<w.heap.size:=hS.2.lt;try clear G0 hS hT hr hn
 go_enter func9,ntmps9
 go_wp2_with fail
 refine(fI _ _ n c bs 2 4 false _ HG.out.rd (by omega) 4 rfl aF (HG.out.env HS.out HT.out _ (PL _ _)).1).mono ?_;rintro e w1 ⟨m1,at1,bad1,rfl,h1,h2,h3⟩;have I1:=OI (show Inv bad1 (RW bs) (p3 bs m1 at1) from eH (k:=fun x=>p3 bs x.1 x.2) HI.out h3);have hG1:=HG.out.num h1 h2;obtain⟨x0,x1,x2,x3,x4,x5,x6,x7⟩:=c8 hG1.Z0;have f0:=hG1.Z0.frozen 0;have G1:=OI (hG1.put 0 (.int .i64 m1) rfl);try clear h1 h2 h3 hG1 HG HI
 go_wp2_with fail
 refine(fI _ _ n c bs at1 8 bad1 _ G1.out.rd (by omega) 8 rfl aF (G1.out.env HS.out HT.out _ (PL _ _)).1).mono ?_;rintro e w2 ⟨m2,at2,bad2,rfl,h1,h2,h3⟩;have I2:=OI (show Inv bad2 (RW bs) (p4 bs m1 m2 at2) from eH (k:=fun x=>p4 bs m1 x.1 x.2) I1.out h3);have hG2:=G1.out.num h1 h2;obtain⟨x0,x1,x2,x3,x4,x5,x6,x7⟩:=c8 hG2.Z0;have f1:=hG2.Z0.frozen 1;have G2:=OI (hG2.put 1 (.int .i64 m2) rfl);try clear h1 h2 h3 hG2 G1 I1 f0
 go_wp2_with fail
 refine(fI _ _ n c bs at2 8 bad2 _ G2.out.rd (by omega) 8 rfl aF (G2.out.env HS.out HT.out _ (PL _ _)).1).mono ?_;rintro e w3 ⟨m3,at3,bad3,rfl,h1,h2,h3⟩;have I3:=OI (show Inv bad3 (RW bs) (p5 bs m1 m2 m3 at3) from eH (k:=fun x=>p5 bs m1 m2 x.1 x.2) I2.out h3);have hG3:=G2.out.num h1 h2;obtain⟨x0,x1,x2,x3,x4,x5,x6,x7⟩:=c8 hG3.Z0;have f2:=hG3.Z0.frozen 2;have G3:=OI (hG3.put 2 (.int .i64 m3) rfl);try clear h1 h2 h3 hG3 G2 I2 f1
 go_wp2_with fail
 refine(Jf _ _ n c bs at3 bad3 _ G3.out.rd (fun b' off' e=>by cases e;have:=G3.out.bel.size;omega) aF (G3.out.env HS.out HT.out) (RW bs) m1 m2 m3 I3.out).mono ?_;rintro e w4 ⟨va,vv,vm,vt,r,at4,bad4,rfl,h1,h2,ho,hr1,hr2,hr3,h3⟩;obtain⟨ch,bo,st,ac,vs,ms,ts,ov⟩:=r;simp only at hr1 hr2 hr3;subst hr1 hr2 hr3;have hG4:=G3.out.num h1 h2;have hbase:w.heap.size+2< (w3.setCell ⟨w.heap.size+2,2,none⟩ (.int .i64 m3)).heap.size:=G3.out.Z0.lt;obtain⟨xm,hm1,_⟩:=ho.mem;obtain⟨xt,ht1,_⟩:=ho.Z4;obtain⟨Aa,ka,ea,_⟩:=aj ho.act;obtain⟨Av,kv,ev,_⟩:=aj ho.vars;obtain⟨Am,km,em,_⟩:=aj hm1;obtain⟨At,kt,et,_⟩:=aj ht1;simp only at ea ev em et;subst ea ev em et;obtain⟨x0,x1,x2,x3,x4,x5,x6,x7⟩:=c8 hG4.Z0;have f3:=hG4.Z0.frozen 3;have f4:=hG4.Z0.frozen 4;have f5:=hG4.Z0.frozen 5;have f6:=hG4.Z0.frozen 6;have f7:=hG4.Z0.frozen 7;have hG5:=((((hG4.put 3 (.slice Aa ac.length ka) rfl).put 4 (.slice Av vs.length kv) rfl).put 5 (.slice Am ms.length km) rfl).put 6 (.slice At ts.length kt) rfl).put 7 (.bool ov) rfl;have hO5:=((((ho.put (i:=3) (u:= .slice Aa ac.length ka) hbase).put (i:=4) (u:= .slice Av vs.length kv) hbase).put (i:=5) (u:= .slice Am ms.length km) hbase).put (i:=6) (u:= .slice At ts.length kt) hbase).put (i:=7) (u:= .bool ov) hbase;have G5:=OI (show Vr w _ b off n c bs at4 bad4 (ph ⟨m1,m2,m3,ac,vs,ms,ts,ov⟩ (.slice Aa ac.length ka) (.slice Av vs.length kv) (.slice Am ms.length km) (.slice At ts.length kt)) from hG5);have O5:=OI (hO5.lower (Ss hbase));have I4:=OI h3;have hbase2:w.heap.size< (w3.setCell ⟨w.heap.size+2,2,none⟩ (.int .i64 m3)).heap.size:=by omega
 have E5:=OI (G5.out.env HS.out HT.out _ (PL _ _)).1;try clear h1 h2 h3 ho hm1 ht1 hG4 hG5 hO5 G3 I3 f2
 go_upto_region 9 with(fail)
 generalize ((((w4.setCell ⟨w.heap.size+2,3,none⟩ (.slice Aa ac.length ka)).setCell ⟨w.heap.size+2,4,none⟩ (.slice Av vs.length kv)).setCell ⟨w.heap.size+2,5,none⟩ (.slice Am ms.length km)).setCell ⟨w.heap.size+2,6,none⟩ (.slice At ts.length kt)).setCell ⟨w.heap.size+2,7,none⟩ (.bool ov)=W5 at*;try clear x0 x1 x2 x3 x4 x5 x6 x7 f3 f4 f5 f6 f7
 obtain⟨x0,x1,x2,x3,x4,x5,x6,x7⟩:=c8 G5.out.Z0
 go_cut [6,7] (fun v6 v7 W=>N5 w W b off n c bs at4 bad4 aF (.slice Aa ac.length ka) (.slice Av vs.length kv) (.slice Am ms.length km) (.slice At ts.length kt) ⟨m1,m2,m3,ac,vs,ms,ts,ov⟩ v6 v7)
 case first=>
  cases hR:aW ⟨m1,m2,m3,ac,vs,ms,ts,ov⟩
  ·have HR:=OI hR;try clear hR
   go_wp2_with fail
   refine(NH ⟨m1,m2,m3,ac,vs,ms,ts,ov⟩ _ _ _ _ _ O5.out.inAt aF E5.out HR.out).mono ?_;rintro e w6 ⟨E,rfl,hb6,hE⟩;obtain⟨et,ev,rfl⟩:=hE.form;have K:=OI (qX G5.out O5.out E5.out hb6);try clear hb6 hE
   go_wp2_with fail
   go_meet
   exact⟨K.out, .inl ⟨HR.out,et,ev,rfl⟩⟩
  have HR:=OI hR;try clear hR
  go_wp2_with fail
  refine(Ei ⟨m1,m2,m3,ac,vs,ms,ts,ov⟩ _ _ _ _ _ O5.out.inAt aF E5.out HR.out).mono ?_;rintro e w6 ⟨v6,rfl,hl6,hb6⟩;obtain⟨A6,c6,ev6,hc6,hm6,hrd6⟩:=hl6.one;subst ev6;have K:=OI (qX G5.out O5.out E5.out hb6);have R6:=OI (show c0 w6 w6.heap.size 1 A6 (kb ⟨m1,m2,m3,ac,vs,ms,ts,ov⟩).length (bv (kb ⟨m1,m2,m3,ac,vs,ms,ts,ov⟩)) from hrd6);try clear hb6 hl6 hrd6
  go_wp2_with fail
  go_meet
  exact⟨K.out, .inr ⟨HR.out,A6,c6,rfl,rfl,R6.out⟩⟩
 case rest=>
  have HC:=OI hcut;try clear hcut G5 O5 E5 x0 x1 x2 x3 x4 x5 x6 x7
  go_upto_region 10 with(fail)
  go_cut [55] (fun v55 W=>N6 w W bs aF (.slice Aa ac.length ka) (.slice Av vs.length kv) (.slice Am ms.length km) (.slice At ts.length kt) ⟨m1,m2,m3,ac,vs,ms,ts,ov⟩ v55)
  case first=>
   obtain⟨hM,hP⟩:=HC.out;have HM:=OI hM;obtain⟨rd0,rd1,rd2⟩:=hM.g.rd.cells.c3;try clear hM
   rcases hP with⟨hR,et,ev,rfl⟩|⟨hR,A6,c6,rfl,rfl,hrd6⟩
   ·have kn:Hid (nM bs=none):=OI (by
     unfold nM;cases bad4 with
     |true=>rw[I4.out.2 rfl];rfl
     |false=>rw[I4.out.1 rfl,Oo,OK (by rw[hR];simp)])
    try clear hR
    cases bad4
    all_goals
     go_wp2_with fail
     go_meet
     exact⟨true,rfl,HM.out.fin, .inr ⟨rfl,kn.out⟩⟩
   have HR:=OI hR;have R6:=OI hrd6;try clear hR hrd6
   have hn6:(kb ⟨m1,m2,m3,ac,vs,ms,ts,ov⟩).length<=140737488351232:=GY HR.out;cases bad4
   ·have HP:=OI (I4.out.1 rfl)
    go_wp2_with fail
    refine(AP A6 _ _ n c6 c (kb ⟨m1,m2,m3,ac,vs,ms,ts,ov⟩) bs _ rfl HM.out.g.rd.len hn6 hfew R6.out HM.out.g.rd.reads).mono ?_;rintro e W6 ⟨rfl,kd,hW6⟩
    have K:=OI (show Ui w W6 aF (.slice Aa ac.length ka) (.slice Av vs.length kv) (.slice Am ms.length km) (.slice At ts.length kt) ⟨m1,m2,m3,ac,vs,ms,ts,ov⟩ by
     rw[hW6]
     exact HM.out.fin.drewN kd)
    try clear hW6
    cases hq:decide (kb ⟨m1,m2,m3,ac,vs,ms,ts,ov⟩=bs)
    ·have kn:Hid (nM bs=none):=OI (by
      unfold nM
      rw[HP.out,Oo,OK (fun hh=>by rw[Ou hh.2]at hq;cases hq)])
     try clear hq
     go_wp2_with fail
     go_meet
     exact⟨true,rfl,K.out, .inr ⟨rfl,kn.out⟩⟩
    have kn:Hid (nM bs=some ⟨m1,m2,m3,ac,vs,ms,ts,ov⟩):=OI (by
     unfold nM
     rw[HP.out,Oo,OL ⟨HR.out,SZ hq⟩])
    try clear hq
    go_wp2_with fail
    go_meet
    exact⟨false,rfl,K.out, .inl ⟨rfl,kn.out⟩⟩
   have kn:Hid (nM bs=none):=OI (by
    unfold nM;rw[I4.out.2 rfl]
    rfl)
   go_wp2_with fail
   go_meet
   exact⟨true,rfl,HM.out.fin, .inr ⟨rfl,kn.out⟩⟩
  case rest=>
   obtain⟨q,rfl,hF,hk⟩:=hcut;have HK:=OI hk;have KF:=OI hF;try clear hk HC I4
   obtain⟨z0,z1,z2,z3,z4,z5,z6,z7⟩:=c8 hF.zero;have zf0:=hF.zero.frozen 0;have zf1:=hF.zero.frozen 1;have zf2:=hF.zero.frozen 2;have zf3:=hF.zero.frozen 3;have zf4:=hF.zero.frozen 4;have zf5:=hF.zero.frozen 5;have zf6:=hF.zero.frozen 6;have zf7:=hF.zero.frozen 7;have cF:=hF.ZH.1;obtain⟨x0,x1,x2,x3,x4,x5,x6,x7⟩:=c8 hF.Z0;try clear hF
   cases q
   ·have kn:Hid (nM bs=some ⟨m1,m2,m3,ac,vs,ms,ts,ov⟩):=OI (by
     rcases HK.out with⟨_,h⟩|⟨h,_⟩
     ·exact h
     cases h)
    go_wp2_with fail
    refine TY (v:= .tuple #[.agg (ph ⟨m1,m2,m3,ac,vs,ms,ts,ov⟩ (.slice Aa ac.length ka) (.slice Av vs.length kv) (.slice Am ms.length km) (.slice At ts.length kt)), .nilIface]) (by simp[results,results9,go_sem,z0,z1,z2,z3,z4,z5,z6,z7]) rfl ?_;rw[kn.out];exact⟨_,_,_,_,⟨m1,m2,m3,ac,vs,ms,ts,ov⟩,_,rfl,Nv KF.out.bel (OO _) _ _ _ _ _ _ _ _,(Nx KF.out.own (by omega) _ _ _ _ _ _ _ _).lower (by omega), .inl ⟨rfl,rfl⟩⟩
   have kn:Hid (nM bs=none):=OI (by
    rcases HK.out with⟨h,_⟩|⟨_,h⟩
    ·cases h
    exact h)
   try clear x0 x1 x2 x3 x4 x5 x6 x7 z0 z1 z2 z3 z4 z5 z6 z7 zf0 zf1 zf2 zf3 zf4 zf5 zf6 zf7
   go_wp2_with fail
   refine(eE _ _ _ _).mono ?_;rintro e W7 ⟨rfl,hW7⟩;have hE7:=OC KF.out.ZH hW7;have hZ7:cU W7 w.heap.size 44 #[.int .i64 0, .int .i64 0, .int .i64 0, .slice none 0 0, .slice none 0 0, .slice none 0 0, .slice none 0 0, .bool false]:=by rw[<-hW7];exact KF.out.zero.alloc _
   have B7:=OI (show Below w.heap.size w W7 by rw[<-hW7];exact KF.out.bel.alloc KF.out.bel.size _);have hPl:=KF.out.zero.lt;have E7:=OI hE7;obtain⟨z0,z1,z2,z3,z4,z5,z6,z7⟩:=c8 hZ7;have zf0:=hZ7.frozen 0;have zf1:=hZ7.frozen 1;have zf2:=hZ7.frozen 2;have zf3:=hZ7.frozen 3;have zf4:=hZ7.frozen 4;have zf5:=hZ7.frozen 5;have zf6:=hZ7.frozen 6;have zf7:=hZ7.frozen 7;try clear hE7 hZ7 hW7 cF
   generalize wc.heap.size=eb at*
   go_wp2_with fail
   refine TY (v:= .tuple #[.agg #[.int .i64 0, .int .i64 0, .int .i64 0, .slice none 0 0, .slice none 0 0, .slice none 0 0, .slice none 0 0, .bool false], .iface 120 (.pointer (some ⟨eb,0,none⟩))]) (by simp[results,results9,go_sem,z0,z1,z2,z3,z4,z5,z6,z7]) rfl ?_;rw[kn.out];exact⟨L',L',L',L',yr,_,rfl,Nv B7.out (OO _) _ _ _ _ _ _ _ _,sX _ _, .inr ⟨rfl,rfl,OB E7.out rfl (by omega) (by omega) _ _ _ _ _ _ _ _,_,rfl,by omega⟩⟩
def FN(A:Option Addr)(n c:Nat)(a:List UInt8)(w:World)(h:a.length=n)(i:c0 w w.heap.size 1 A n (bv a))(m:n<=c)(d:n<=140737488351232)(f:Addr)(g:p' w 0 f)(k:sy w):
 Calls prog 9 #[.slice A n c] w (yq w f (nM a)):=by
 by_cases j:n<2
 ·exact Hl A n c a w h j f g
 obtain⟨b,off,e,l,_⟩:=i.2 (by omega);subst e;exact Ji b off n c a w h i m d l (by omega) f g k
end
section
open Go.RowKit Go.ChangeShapes
structure Wl(w:World)(a1 a2 a6 a7 a8:Addr):Prop where
 s1:p' w 0 a1
 s2:p' w 3 a2
 s6:p' w 5 a6
 s7:p' w 1 a7
 s8:p' w 2 a8
 tab:sy w
def Nb(a b c d e:Addr)(g:Nat):Option AV:=
 if g=0 then some (b6 a) else
 if g=3 then some (b6 b) else
 if g=5 then some (b6 c) else
 if g=1 then some (b6 d) else
 if g=2 then some (b6 e) else none
def Pc(b c d e f:Addr):b7:=⟨Nb b c d e f,fun w=>Wl w b c d e f,fun _ _ h a=>⟨h.s1.below a,h.s2.below a,h.s6.below a,h.s7.below a,h.s8.below a,h.tab.below a⟩⟩
def Jl(a c d e b:Addr):fk (Pc a c d e b) a b:=⟨rfl,rfl⟩
def Hm(a b c d e:Addr): ∀W,(Pc a b c d e).inv W->sy W:=fun _ h=>Wl.tab h
def Jk{d f i j k:Addr}{w:World}(h:Wl w d f i j k):zE (Pc d f i j k) (fun b _=>b<w.heap.size) w:=by
 refine⟨h,fun b o l=>l,fun g c a=> ?_⟩;have a:Nb d f i j k g=some c:=a;unfold Nb at a;split at a
 ·rename_i e;subst e;cases a;exact⟨_,h.s1.1,rfl,mT h.s1.1, .lit _⟩
 split at a
 ·rename_i e;subst e;cases a;exact⟨_,h.s2.1,rfl,mT h.s2.1, .lit _⟩
 split at a
 ·rename_i e;subst e;cases a;exact⟨_,h.s6.1,rfl,mT h.s6.1, .lit _⟩
 split at a
 ·rename_i e;subst e;cases a;exact⟨_,h.s7.1,rfl,mT h.s7.1, .lit _⟩
 split at a
 ·rename_i e;subst e;cases a;exact⟨_,h.s8.1,rfl,mT h.s8.1, .lit _⟩
 cases a
def H8{W:World}(h:laidMetH prog [("math/bits.deBruijn32tab",Rows.laid_math_bits_deBruijn32tab),("scrinium/api.ErrForm",Rows.laid_scrinium_api_ErrForm),("scrinium/api.ErrRange",Rows.laid_scrinium_api_ErrRange),("scrinium/api.ErrFuel",Rows.laid_scrinium_api_ErrFuel),("scrinium/api.ErrState",Rows.laid_scrinium_api_ErrState),("scrinium/api.ErrLong",Rows.laid_scrinium_api_ErrLong)] W): ∃e f i j k,Wl W e f i j k:=by
 rw[MakeChecks.laidMetH_plain _ _ _ (by kernel_rfl)]at h;obtain⟨B,w,v,c⟩:=h;obtain⟨y,t0,r,f0,A,x,n,o,p,m,a,rfl⟩:=w;have t:=NB n o p m
 obtain⟨l,s,d,z⟩:=wO (nm:= "*errors.errorString") Tryz.underlying32 Tryz.row160 Tryz.underlying307 Tryz.underlying322 rfl rfl Tryz.underlying9 (by kernel_rfl) (by kernel_rfl)
  [("scrinium/api.ErrForm",[102,111,114,109]),("scrinium/api.ErrRange",[114,97,110,103,101]),("scrinium/api.ErrFuel",[102,117,101,108]),("scrinium/api.ErrState",[115,116,97,116,101]),("scrinium/api.ErrLong",[108,111,110,103])] [0,3,5,1,2] x a (by kernel_rfl) (by
    intro g q;simp at q
    rcases q with rfl|rfl|rfl|rfl|rfl<;>kernel_rfl) (fun b off u=>c b off (QR _ u))
 match l,s with
 |[e,f,i,j,k],_=>exact⟨e,f,i,j,k,d 0 _ _ rfl rfl,d 1 _ _ rfl rfl,d 2 _ _ rfl rfl,d 3 _ _ rfl rfl,d 4 _ _ rfl rfl,t⟩
end
section
open Go.RowKit
def kA{c:Type} [DecidableEq c]{a b:List c}{k:Nat}(d:k<a.length)(e:k<b.length)(h:a[k]≠b[k]):decide (a=b)=false:=by
 rw[Ov];rintro rfl;exact h rfl
def ky{c:Type} [DecidableEq c]{a b:List c}{n:Nat}(d:a.length=n)(e:b.length=n)(h:a.take n=b.take n):decide (a=b)=true:=by
 rw[PI (by omega),PI (by omega)]at h;simpa using h
def me{f:Type}{a b:List f}{k:Nat}(h:a.take k=b.take k)(c:k<a.length)(d:k<b.length)(e:a[k]=b[k]):a.take (k+1)=b.take (k+1):=by
 rw[PG c,PG d,h,e]
def nP(v v':Value)(l l':List Int)(B B':Nat)(w:World)(h:aV w B 1 Um v l)(h':aV w B' 1 Um v' l'):
 Calls prog 92 #[v,v'] w fun e w'=>e= .returned (.bool (decide (l=l')))/\ ∃k,w'=w.drewN k:=by
 obtain⟨A,c,rfl,hlc,hcm,hr⟩:=h.one;obtain⟨A',c',rfl,hlc',hcm',hr'⟩:=h'.one;unfold maxLen at hcm hcm';have HR:=OI hr;have HR':=OI hr';try clear h h' hr hr'
 by_cases hne:l.length=l'.length
 ·have HN:=OI hne;rw[<-hne]at HR' hlc' |-;generalize hn:l.length=n at*;have HL:=OI hn;try clear hn hne
  go_enter func92,ntmps92
  go_wp2_with fail
  go_loopw [13] (fun i wr=> ∃k j:Nat,k<=n/\i= .int .i64 k/\wr=w.drewN j/\l.take k=l'.take k) (fun i _=>n-(intOf i).toNat)
  case atStart=>exact⟨0,0,by omega,rfl,rfl,by simp⟩
  case round=>
   obtain⟨k,j,hk,rfl,rfl,htk⟩:=hrel;have HT:=OI htk;try clear htk
   by_cases hlt:k<n
   ·obtain⟨b,off,rfl,_,hc⟩:=ints_at HR.out HL.out k hlt;obtain⟨b',off',rfl,_,hc'⟩:=ints_at HR'.out HN.out.symm k hlt;have hkb:k<l.length:=by rw[HL.out];exact hlt
    have hkb':k<l'.length:=by rw[<-HN.out];exact hlt
    have hck:=hc k hlt;have hck':=hc' k hlt;rw[al l k 0 hkb]at hck;rw[al l' k 0 hkb']at hck';have g1:(0:Int)<=(k:Int):=by omega
    have g2:(k:Int)< (n:Int):=by omega
    have yes:Hid (l[k]=l'[k]->l.take (k+1)=l'.take (k+1)):=OI (me HT.out hkb hkb');have no:Hid (l[k]≠l'[k]->decide (l=l')=false):=OI (kA hkb hkb');generalize l[k]=x at*;generalize l'[k]=x' at*;try clear hkb hkb' hc hc'
    by_cases hx:x=x'
    ·have kn:=OI (yes.out hx);subst hx
     go_wp2_with fail
     go_quiet (fail)
     go_wp2_with fail
     go_roundw
     case rel=>exact⟨k+1,_,by omega,by go_num,rfl,kn.out⟩
     case measure=>simp[intOf];omega
    have kn:=OI (no.out hx);have e1:(x != x')=true:=by rw[RX];exact hx
    go_wp2_with fail
    go_quiet (fail)
    go_wp2_with fail
    go_ret
    rw[kn.out];exact⟨rfl,_,S5 _ _ _⟩
   obtain rfl:k=n:=by omega
   have kn:Hid (decide (l=l')=true):=OI (ky HL.out HN.out.symm HT.out)
   go_wp2_with fail
   go_ret
   rw[kn.out];exact⟨rfl,j,rfl⟩
 have kn:Hid (decide (l=l')=false):=OI (by
  rw[Ov];rintro rfl
  exact hne rfl)
 have e1:((l.length:Int) != (l'.length:Int))=true:=by rw[RX];omega
 generalize l.length=n at*;generalize l'.length=n' at*
 go_enter func92,ntmps92
 go_wp2_with fail
 go_ret
 rw[kn.out];exact⟨rfl,0,rfl⟩
def Hz(v v':Value)(l l':List (List UInt8×Int))(B B':Nat)(w:World)(h:aV w B 2 V5 v l)(h':aV w B' 2 V5 v' l'):
 Calls prog 93 #[v,v'] w fun e w'=>e= .returned (.bool (decide (l=l')))/\ ∃k,w'=w.drewN k:=by
 obtain⟨A,c,rfl,hlc,hcm⟩:=h.form;obtain⟨A',c',rfl,hlc',hcm'⟩:=h'.form;unfold maxLen at hcm hcm';have HR:=OI h;have HR':=OI h';try clear h h'
 by_cases hne:l.length=l'.length
 ·have HN:=OI hne;rw[<-hne]at HR' hlc' |-;generalize hn:l.length=n at*;have HL:=OI hn;try clear hn hne
  go_enter func93,ntmps93
  go_wp2_with fail
  go_loopw [13] (fun i wr=> ∃k j:Nat,k<=n/\i= .int .i64 k/\wr=w.drewN j/\l.take k=l'.take k) (fun i _=>n-(intOf i).toNat)
  case atStart=>exact⟨0,0,by omega,rfl,rfl,by simp⟩
  case round=>
   obtain⟨k,j,hk,rfl,rfl,htk⟩:=hrel;have HT:=OI htk;try clear htk
   by_cases hlt:k<n
   ·have hkb:k<l.length:=by rw[HL.out];exact hlt
    have hkb':k<l'.length:=by rw[<-HN.out];exact hlt
    obtain⟨b,off,rfl,_,hc⟩:=yt HR.out k hkb;obtain⟨b',off',rfl,_,hc'⟩:=yt HR'.out k hkb';obtain⟨c1,c2,_⟩:=hc k hkb;obtain⟨c1',c2',_⟩:=hc' k hkb';rw[al l k _ hkb]at c1 c2;rw[al l' k _ hkb']at c1' c2';have g1:(0:Int)<=(k:Int):=by omega
    have g2:(k:Int)< (n:Int):=by omega
    have yes:Hid (l[k]=l'[k]->l.take (k+1)=l'.take (k+1)):=OI (me HT.out hkb hkb');have no:Hid (l[k]≠l'[k]->decide (l=l')=false):=OI (kA hkb hkb');generalize l[k]=x at*;generalize l'[k]=x' at*;obtain⟨s,a⟩:=x;obtain⟨s',a'⟩:=x';simp only at c1 c2 c1' c2';try clear hkb hkb' hc hc'
    cases hs:(s==s')
    ·have kn:=OI (no.out (fun e=>by cases e;simp at hs))
     go_wp2_with fail
     go_quiet (fail)
     go_wp2_with fail
     go_ret
     rw[kn.out];exact⟨rfl,_,S5 _ _ _⟩
    obtain rfl:s=s':=by simpa using hs
    try clear hs
    by_cases ha:a=a'
    ·have kn:=OI (yes.out (by rw[ha]));subst ha
     go_wp2_with fail
     go_quiet (fail)
     go_wp2_with fail
     go_roundw
     case rel=>exact⟨k+1,_,by omega,by go_num,rfl,kn.out⟩
     case measure=>simp[intOf];omega
    have kn:=OI (no.out (fun e=>by cases e;exact ha rfl));have e1:(a==a')=false:=by rw[R4];exact ha
    go_wp2_with fail
    go_quiet (fail)
    go_wp2_with fail
    go_ret
    rw[kn.out];exact⟨rfl,_,S5 _ _ _⟩
   obtain rfl:k=n:=by omega
   have kn:Hid (decide (l=l')=true):=OI (ky HL.out HN.out.symm HT.out)
   go_wp2_with fail
   go_ret
   rw[kn.out];exact⟨rfl,j,rfl⟩
 have kn:Hid (decide (l=l')=false):=OI (by
  rw[Ov];rintro rfl
  exact hne rfl)
 have e1:((l.length:Int) != (l'.length:Int))=true:=by rw[RX];omega
 generalize l.length=n at*;generalize l'.length=n' at*
 go_enter func93,ntmps93
 go_wp2_with fail
 go_ret
 rw[kn.out];exact⟨rfl,0,rfl⟩
def GO(s s':Int)(v v':Value)(l l':List Int)(w:World)(h:aV w w.heap.size 1 Um v l)(h':aV w w.heap.size 1 Um v' l'):
 Calls prog 91 #[.agg #[.int .i64 s,v], .agg #[.int .i64 s',v']] w fun e w'=>e= .returned (.bool (decide ((s,l)=(s',l'))))/\Below w.heap.size w w':=by
 have hb:=((Oy w.heap.size w).alloc (OO _) (.cells #[.int .i64 s,v] 93)).alloc (by simp) (.cells #[.int .i64 s',v'] 93);have H1:=OI (h.moved (cZ hb) fun _ _ _ h=>h);have H2:=OI (h'.moved (cZ hb) fun _ _ _ h=>h);have HB:=OI hb;obtain⟨A,c,rfl,_,_⟩:=h.form;obtain⟨A',c',rfl,_,_⟩:=h'.form;try clear h h' hb
 by_cases hs:s=s'
 ·have kn:=OI (show decide ((s,l)=(s',l'))=decide (l=l') by simp[hs]);subst hs
  go_enter func91,ntmps91
  go_wp2_with fail
  refine(nP _ _ l l' _ _ _ H1.out H2.out).mono ?_;rintro e w1 ⟨rfl,k,hk⟩;have B1:=OI (show Below w.heap.size w w1 by rw[hk];exact below_drewN HB.out k);try clear hk
  go_wp2_with fail
  go_ret
  rw[kn.out];exact⟨rfl,B1.out⟩
 have kn:=OI (show decide ((s,l)=(s',l'))=false by simp[hs]);have e1:(s==s')=false:=by rw[R4];exact hs
 go_enter func91,ntmps91
 go_wp2_with fail
 go_ret
 rw[kn.out];exact⟨rfl,HB.out⟩
def Df(v v':Value)(l l':List (Int×List Int))(w:World)(h:aV w w.heap.size 2 (DI w w.heap.size) v l)(h':aV w w.heap.size 2 (DI w w.heap.size) v' l'):
 Calls prog 90 #[v,v', .func (.func 91) #[] #[]] w fun e w'=>e= .returned (.bool (decide (l=l')))/\Below w.heap.size w w':=by
 obtain⟨A,c,rfl,hlc,hcm⟩:=h.form;obtain⟨A',c',rfl,hlc',hcm'⟩:=h'.form;unfold maxLen at hcm hcm';have HR:=OI h;have HR':=OI h';try clear h h'
 by_cases hne:l.length=l'.length
 ·have HN:=OI hne;rw[<-hne]at HR' hlc' |-;generalize hn:l.length=n at*;have HL:=OI hn;try clear hn hne
  go_enter func90,ntmps90
  go_wp2_with fail
  go_loopw [17] (fun i wr=> ∃k:Nat,k<=n/\i= .int .i64 k/\Below w.heap.size w wr/\l.take k=l'.take k) (fun i _=>n-(intOf i).toNat)
  case atStart=>exact⟨0,by omega,rfl,Oy _ _,by simp⟩
  case round=>
   obtain⟨k,hk,rfl,hB,htk⟩:=hrel;have HT:=OI htk;have HB:=OI hB;have hsz:=hB.size;try clear htk
   by_cases hlt:k<n
   ·have hkb:k<l.length:=by rw[HL.out];exact hlt
    have hkb':k<l'.length:=by rw[<-HN.out];exact hlt
    obtain⟨b,off,rfl,hb,hc⟩:=oa HR.out k hkb;obtain⟨b',off',rfl,hb',hc'⟩:=oa HR'.out k hkb';obtain⟨sv,c1,c2,hsv⟩:=hc k hkb;obtain⟨sv',c1',c2',hsv'⟩:=hc' k hkb';have hbw:b<wr.heap.size:=by omega
    have hbw':b'<wr.heap.size:=by omega
    have c1:=(hB.cell (p:=⟨b,off+k*2,none⟩) hb).trans c1;have c2:=(hB.cell (p:=⟨b,off+k*2+1,none⟩) hb).trans c2;have c1':=(hB.cell (p:=⟨b',off'+k*2,none⟩) hb').trans c1';have c2':=(hB.cell (p:=⟨b',off'+k*2+1,none⟩) hb').trans c2';rw[al l k _ hkb]at c1 hsv;rw[al l' k _ hkb']at c1' hsv';have yes:Hid (l[k]=l'[k]->l.take (k+1)=l'.take (k+1)):=OI (me HT.out hkb hkb');have no:Hid (l[k]≠l'[k]->decide (l=l')=false):=OI (kA hkb hkb');generalize l[k]=x at*;generalize l'[k]=x' at*;obtain⟨s,sl⟩:=x;obtain⟨s',sl'⟩:=x';simp only at c1 c1' hsv hsv';obtain⟨A2,k2,e2,_,_⟩:=hsv.form;obtain⟨A3,k3,e3,_,_⟩:=hsv'.form;subst e2 e3;have hbb:=(HB.out.alloc hsz (.cells #[.int .i64 s, .slice A2 sl.length k2] 93)).alloc (by simp;omega) (.cells #[.int .i64 s', .slice A3 sl'.length k3] 93);have S1:=OI ((hsv.moved (cZ hbb) fun _ _ _ h=>h).wider hbb.size fun _ _ _ h=>h);have S2:=OI ((hsv'.moved (cZ hbb) fun _ _ _ h=>h).wider hbb.size fun _ _ _ h=>h);have HBB:=OI hbb;try clear hkb hkb' hc hc' hsv hsv' hB hbb
    go_wp2_with fail
    refine(GO s s' _ _ sl sl' _ S1.out S2.out).mono ?_;rintro e w2 ⟨rfl,hb2⟩;have B2:=OI (HBB.out.trans (hb2.mono HBB.out.size));try clear hb2 c1 c2 c1' c2'
    cases hd:decide ((s,sl)=(s',sl'))
    ·have kn:=OI (no.out (of_decide_eq_false hd))
     go_wp2_with fail
     go_ret
     rw[kn.out];exact⟨rfl,B2.out⟩
    have kn:=OI (yes.out (SZ hd))
    go_wp2_with fail
    go_roundw
    case rel=>exact⟨k+1,by omega,by go_num,B2.out,kn.out⟩
    case measure=>simp[intOf];omega
   obtain rfl:k=n:=by omega
   have kn:Hid (decide (l=l')=true):=OI (ky HL.out HN.out.symm HT.out);try clear hB
   go_wp2_with fail
   go_ret
   rw[kn.out];exact⟨rfl,HB.out⟩
 have kn:Hid (decide (l=l')=false):=OI (by
  rw[Ov];rintro rfl
  exact hne rfl)
 have e1:((l.length:Int) != (l'.length:Int))=true:=by rw[RX];omega
 generalize l.length=n at*;generalize l'.length=n' at*
 go_enter func90,ntmps90
 go_wp2_with fail
 go_ret
 rw[kn.out];exact⟨rfl,Oy _ _⟩
def jA(r r':Rc):Bool:=decide (r.mem=r'.mem)&&decide (r.over=r'.over)&&decide (r.Z8=r'.Z8)&&decide (r.vars=r'.vars)&&decide (r.timers=r'.timers)
def lx(r r':Rc):Bool:=decide (r.Z5=r'.Z5)&&decide (r.born=r'.born)&&decide (r.steps=r'.steps)&&jA r r'
def zp(r:Rc):lx r r=true:=by simp[lx,jA]
def Nu{w:World}{g:Nat}{t:TypeId}{a b c d e:Value}(h:cU w g t #[a,b,c,d,e]):w.cell? ⟨g,0,none⟩=some a/\w.cell? ⟨g,1,none⟩=some b/\w.cell? ⟨g,2,none⟩=some c/\w.cell? ⟨g,3,none⟩=some d/\w.cell? ⟨g,4,none⟩=some e:=
 ⟨h.cell 0,h.cell 1,h.cell 2,h.cell 3,h.cell 4⟩
def Gs(r r':Rc)(va vv vm vt va' vv' vm' vt':Value)(w:World)(h:wg w w.heap.size va vv vm vt r)(h':wg w w.heap.size va' vv' vm' vt' r'):
 Calls prog 40 #[.agg #[va,vv,vm,vt, .bool r.over], .agg #[va',vv',vm',vt', .bool r'.over]] w fun e w'=>e= .returned (.bool (jA r r'))/\Below w.heap.size w w':=by
 have hb:=((Oy w.heap.size w).alloc (OO _) (.cells #[va,vv,vm,vt, .bool r.over] 39)).alloc (by simp) (.cells #[va',vv',vm',vt', .bool r'.over] 39);have H1:=OI (h.below hb);have H2:=OI (h'.below hb);have HB:=OI hb;have M1:=OI ((cU.new w 39 #[va,vv,vm,vt, .bool r.over]).alloc (.cells #[va',vv',vm',vt', .bool r'.over] 39));have M2:=cU.new (w.alloc (.cells #[va,vv,vm,vt, .bool r.over] 39)) 39 #[va',vv',vm',vt', .bool r'.over];rw[QQ]at M2;have HM2:=OI M2;obtain⟨A1,k1,e1,_,_⟩:=h.act.form;obtain⟨A2,k2,e2,_,_⟩:=h.vars.form;obtain⟨A3,k3,e3,_,_⟩:=h.mem.form;obtain⟨A4,k4,e4,_,_⟩:=h.Z4.form;obtain⟨A5,k5,e5,_,_⟩:=h'.act.form;obtain⟨A6,k6,e6,_,_⟩:=h'.vars.form;obtain⟨A7,k7,e7,_,_⟩:=h'.mem.form;obtain⟨A8,k8,e8,_,_⟩:=h'.Z4.form;subst e1 e2 e3 e4 e5 e6 e7 e8;try clear h h' hb M2
 go_enter func40,ntmps40
 go_wp2_with fail
 refine(Df _ _ r.mem r'.mem _ H1.out.mem H2.out.mem).mono ?_;rintro e w1 ⟨rfl,hb1⟩;have I1:=OI (H1.out.below hb1);have I2:=OI (H2.out.below hb1);have B1:=OI (HB.out.trans (hb1.mono (by simp;omega)));obtain⟨m0,m1,m2,m3,m4⟩:=Nu (M1.out.below hb1 (by simp;omega));obtain⟨n0,n1,n2,n3,n4⟩:=Nu (HM2.out.below hb1 (by simp));have HS:=OI (show jA r r'=(decide (r.mem=r'.mem)&&decide (r.over=r'.over)&&decide (r.Z8=r'.Z8)&&decide (r.vars=r'.vars)&&decide (r.timers=r'.timers)) from rfl);try clear hb1 H1 H2 HB M1 HM2
 cases d1:decide (r.mem=r'.mem)
 ·have kn:=OI (show jA r r'=false by rw[HS.out,d1];rfl)
  go_wp2_with fail
  go_ret
  rw[kn.out];exact⟨rfl,B1.out⟩
 have eo:(r.over==r'.over)=decide (r.over=r'.over):=by cases r.over<;>cases r'.over<;>rfl
 cases d2:decide (r.over=r'.over)
 ·have kn:=OI (show jA r r'=false by rw[HS.out,d1,d2];rfl);rw[d2]at eo
  go_wp2_with fail
  go_ret
  rw[kn.out];exact⟨rfl,B1.out⟩
 rw[d2]at eo
 go_wp2_with fail
 refine(nP _ _ r.Z8 r'.Z8 _ _ _ I1.out.act I2.out.act).mono ?_;rintro e w2 ⟨rfl,q2,hq2⟩;have hb2:Below w1.heap.size w1 w2:=by rw[hq2];exact below_drewN (Oy _ _) _
 have J1:=OI (I1.out.below hb2);have J2:=OI (I2.out.below hb2);have B2:=OI (B1.out.trans (hb2.mono B1.out.size));have m1:=hH m1 hb2;have m3:=hH m3 hb2;have n1:=hH n1 hb2;have n3:=hH n3 hb2;try clear hb2 hq2 I1 I2 B1
 cases d3:decide (r.Z8=r'.Z8)
 ·have kn:=OI (show jA r r'=false by rw[HS.out,d1,d2,d3];rfl)
  go_wp2_with fail
  go_ret
  rw[kn.out];exact⟨rfl,B2.out⟩
 go_wp2_with fail
 refine(nP _ _ r.vars r'.vars _ _ _ J1.out.vars J2.out.vars).mono ?_;rintro e w3 ⟨rfl,q3,hq3⟩;have hb3:Below w2.heap.size w2 w3:=by rw[hq3];exact below_drewN (Oy _ _) _
 have L1:=OI (J1.out.below hb3);have L2:=OI (J2.out.below hb3);have B3:=OI (B2.out.trans (hb3.mono B2.out.size));have m3:=hH m3 hb3;have n3:=hH n3 hb3;try clear hb3 hq3 J1 J2 B2
 cases d4:decide (r.vars=r'.vars)
 ·have kn:=OI (show jA r r'=false by rw[HS.out,d1,d2,d3,d4];rfl)
  go_wp2_with fail
  go_ret
  rw[kn.out];exact⟨rfl,B3.out⟩
 go_wp2_with fail
 refine(Hz _ _ r.timers r'.timers _ _ _ L1.out.Z4 L2.out.Z4).mono ?_;rintro e w4 ⟨rfl,q4,hq4⟩;have B4:=OI (show Below w.heap.size w w4 by rw[hq4];exact below_drewN B3.out _);have kn:=OI (show jA r r'=decide (r.timers=r'.timers) by rw[HS.out,d1,d2,d3,d4];simp);try clear hq4 B3
 go_wp2_with fail
 go_ret
 rw[kn.out];exact⟨rfl,B4.out⟩
def JA(r r':Rc)(va vv vm vt va' vv' vm' vt':Value)(w:World)(h:wg w w.heap.size va vv vm vt r)(h':wg w w.heap.size va' vv' vm' vt' r'):
 Calls prog 13 #[.agg (ph r va vv vm vt), .agg (ph r' va' vv' vm' vt')] w fun e w'=>e= .returned (.bool (lx r r'))/\Below w.heap.size w w':=by
 have hb:=((Oy w.heap.size w).alloc (OO _) (.cells (ph r va vv vm vt) 44)).alloc (by simp) (.cells (ph r' va' vv' vm' vt') 44);have H1:=OI (h.below hb);have H2:=OI (h'.below hb);have HB:=OI hb;obtain⟨A1,k1,e1,_,_⟩:=h.act.form;obtain⟨A2,k2,e2,_,_⟩:=h.vars.form;obtain⟨A3,k3,e3,_,_⟩:=h.mem.form;obtain⟨A4,k4,e4,_,_⟩:=h.Z4.form;obtain⟨A5,k5,e5,_,_⟩:=h'.act.form;obtain⟨A6,k6,e6,_,_⟩:=h'.vars.form;obtain⟨A7,k7,e7,_,_⟩:=h'.mem.form;obtain⟨A8,k8,e8,_,_⟩:=h'.Z4.form;subst e1 e2 e3 e4 e5 e6 e7 e8;have HS:=OI (show lx r r'=(decide (r.Z5=r'.Z5)&&decide (r.born=r'.born)&&decide (r.steps=r'.steps)&&jA r r') from rfl);try clear h h' hb
 simp only[ph]at*;cases d1:(r.Z5==r'.Z5)
 ·have kn:=OI (show lx r r'=false by rw[HS.out,Oi (by simpa using d1)];rfl)
  go_enter func13,ntmps13
  go_wp2_with fail
  go_ret
  rw[kn.out];exact⟨rfl,HB.out⟩
 cases d2:(r.born==r'.born)
 ·have kn:=OI (show lx r r'=false by rw[HS.out,Oi (show ¬r.born=r'.born by simpa using d2)];simp)
  go_enter func13,ntmps13
  go_wp2_with fail
  go_ret
  rw[kn.out];exact⟨rfl,HB.out⟩
 cases d3:(r.steps==r'.steps)
 ·have kn:=OI (show lx r r'=false by rw[HS.out,Oi (show ¬r.steps=r'.steps by simpa using d3)];simp)
  go_enter func13,ntmps13
  go_wp2_with fail
  go_ret
  rw[kn.out];exact⟨rfl,HB.out⟩
 have kn:=OI (show lx r r'=jA r r' by rw[HS.out,Ou (show r.Z5=r'.Z5 by simpa using d1),Ou (show r.born=r'.born by simpa using d2),Ou (show r.steps=r'.steps by simpa using d3)];simp)
 go_enter func13,ntmps13
 go_wp2_with fail
 refine(Gs r r' _ _ _ _ _ _ _ _ _ H1.out H2.out).mono ?_;rintro e w1 ⟨rfl,hb1⟩;have B1:=OI (HB.out.trans (hb1.mono (by simp;omega)));try clear hb1
 go_wp2_with fail
 go_ret
 rw[kn.out];exact⟨rfl,B1.out⟩
def UT:Rc:=⟨1,0,0,[0],[3, -3],[],[],false⟩
def vu:aW UT=true:=by decide+kernel
def Eg:(kb UT).length=38:=by decide+kernel
def NF:(bv (kb UT))[28]? =some (.int .u8 6):=by
 have h:(kb UT)[28]? =some 6:=by decide+kernel
 rw[bv,OS,h];rfl
def NE(w:World):wg (((w.alloc (.cells #[.int .i64 0] 3)).alloc (.cells #[.int .i64 3, .int .i64 (-3)] 3)).alloc (.cells #[.int .i64 1, .int .i64 0, .int .i64 0, .slice (some ⟨w.heap.size,0,none⟩) 1 1, .slice (some ⟨w.heap.size+1,0,none⟩) 2 2, .slice none 0 0, .slice none 0 0, .bool false] 44))
 (((w.alloc (.cells #[.int .i64 0] 3)).alloc (.cells #[.int .i64 3, .int .i64 (-3)] 3)).alloc (.cells #[.int .i64 1, .int .i64 0, .int .i64 0, .slice (some ⟨w.heap.size,0,none⟩) 1 1, .slice (some ⟨w.heap.size+1,0,none⟩) 2 2, .slice none 0 0, .slice none 0 0, .bool false] 44)).heap.size
 (.slice (some ⟨w.heap.size,0,none⟩) 1 1) (.slice (some ⟨w.heap.size+1,0,none⟩) 2 2) (.slice none 0 0) (.slice none 0 0) UT:=by
 have b:=((c0.boxed w 3 #[.int .i64 0] 1 1 rfl).alloc (by simp) (.cells #[.int .i64 3, .int .i64 (-3)] 3)).alloc (by simp) (.cells #[.int .i64 1, .int .i64 0, .int .i64 0, .slice (some ⟨w.heap.size,0,none⟩) 1 1, .slice (some ⟨w.heap.size+1,0,none⟩) 2 2, .slice none 0 0, .slice none 0 0, .bool false] 44);have a:=(c0.boxed (w.alloc (.cells #[.int .i64 0] 3)) 3 #[.int .i64 3, .int .i64 (-3)] 1 2 rfl).alloc (by simp) (.cells #[.int .i64 1, .int .i64 0, .int .i64 0, .slice (some ⟨w.heap.size,0,none⟩) 1 1, .slice (some ⟨w.heap.size+1,0,none⟩) 2 2, .slice none 0 0, .slice none 0 0, .bool false] 44);rw[QQ]at a;refine⟨aV.of_one (l:=[0]) rfl (OO _) (by unfold maxLen;omega) (b.wider (by simp<;>omega)),aV.of_one (l:=[3, -3]) rfl (OO _) (by unfold maxLen;omega) (a.wider (by simp<;>omega)),?_,?_⟩
 ·exact⟨none,0,[],rfl,OO _,O6 _,c0.empty _ _ _ _,jh _ _⟩
 exact⟨none,0,[],rfl,OO _,O6 _,c0.empty _ _ _ _,jh _ _⟩
def MZ(w:World)(aF:Addr)(hS:p' w 0 aF)(hT:sy w):
 Calls prog 5 #[] w fun e w'=>e= .returned (.bool true)/\Below w.heap.size w w':=by
 have hb0:=(((Oy w.heap.size w).alloc (OO _) (.cells #[.int .i64 0] 3)).alloc (by simp) (.cells #[.int .i64 3, .int .i64 (-3)] 3)).alloc (by simp;omega) (.cells #[.int .i64 1, .int .i64 0, .int .i64 0, .slice (some ⟨w.heap.size,0,none⟩) 1 1, .slice (some ⟨w.heap.size+1,0,none⟩) 2 2, .slice none 0 0, .slice none 0 0, .bool false] 44);have S0:=OI (hS.below hb0);have T0:=OI (hT.below hb0);have B0:=OI hb0;have I0:=OI (NE w);have hM0:=cU.new ((w.alloc (.cells #[.int .i64 0] 3)).alloc (.cells #[.int .i64 3, .int .i64 (-3)] 3)) 44 #[.int .i64 1, .int .i64 0, .int .i64 0, .slice (some ⟨w.heap.size,0,none⟩) 1 1, .slice (some ⟨w.heap.size+1,0,none⟩) 2 2, .slice none 0 0, .slice none 0 0, .bool false];rw[QQ,QQ]at hM0;have M0:=OI hM0;try clear hS hT hb0 hM0
 go_enter func5,ntmps5
 go_wp2_with fail
 refine(Ei UT _ _ _ _ _ I0.out aF S0.out vu).mono ?_;rintro e w1 ⟨v1,rfl,hl1,hb1⟩;obtain⟨A1,c1,e1,hc1,_,hr1⟩:=hl1.one;rw[Eg]at e1 hc1 hr1;subst e1;have S1:=OI (S0.out.below hb1);have T1:=OI (T0.out.below hb1);have I1:=OI (I0.out.below hb1);have M1:=OI (M0.out.below hb1 (by simp));have B1:=OI (B0.out.trans (hb1.mono (by simp;omega)));have R1:=OI (show c0 w1 w1.heap.size 1 A1 38 (bv (kb UT)) from hr1);try clear hb1 hl1 hr1 S0 T0 I0 M0 B0
 go_wp2_with fail
 refine(FN A1 38 c1 (kb UT) _ Eg R1.out hc1 (by omega) aF S1.out T1.out).mono ?_;rintro e w2 ⟨va,vv,vm,vt,r,E,rfl,hb2,ho,hk⟩;rw[wY UT vu]at hk
 obtain⟨rfl,rfl⟩:UT=r/\E= .nilIface:=by
  rcases hk with⟨h1,h2⟩|⟨h1,_⟩
  ·exact⟨Pq h1,h2⟩
  cases h1
 have hI2:=(ho.inAt).alloc (.cells (ph UT va vv vm vt) 44);have J2:=OI hI2;have I2:=OI ((I1.out.below hb2).alloc (.cells (ph UT va vv vm vt) 44));have M2:=OI ((M1.out.below hb2 M1.out.lt).alloc (.cells (ph UT va vv vm vt) 44));have N2:=OI (cU.new w2 44 (ph UT va vv vm vt));have B2:=OI ((B1.out.trans (hb2.mono B1.out.size)).alloc (by have:=(B1.out.trans (hb2.mono B1.out.size)).size;exact this) (.cells (ph UT va vv vm vt) 44));have R2:=OI ((((R1.out.below hb2).wider hb2.size).alloc (OO _) (.cells (ph UT va vv vm vt) 44)).wider (B':=(w2.alloc (.cells (ph UT va vv vm vt) 44)).heap.size) (by simp));obtain⟨Aa,ka,ea,_⟩:=ho.inAt.act.form;obtain⟨Av,kv,ev,_⟩:=ho.inAt.vars.form;obtain⟨Am,km,em,_⟩:=ho.inAt.mem.form;obtain⟨At,kt,et,_⟩:=ho.inAt.Z4.form;subst ea ev em et;obtain⟨x0,x1,x2,x3,x4,x5,x6,x7⟩:=c8 (M1.out.below hb2 M1.out.lt);have hz2:w.heap.size+2<w2.heap.size:=(M1.out.below hb2 M1.out.lt).lt;try clear hb2 ho hk hI2 S1 T1 I1 M1 B1 R1
 go_wp2_with fail
 refine(JA UT UT _ _ _ _ _ _ _ _ _ J2.out I2.out).mono ?_;rintro e w3 ⟨rfl,hb3⟩;rw[zp];have R3:=(R2.out.below hb3);obtain⟨b,off,u,rfl,_,hu,hcell⟩:=R3.at_ (k:=28) (by omega);rw[NF]at hu;cases hu;have B3:=OI (B2.out.trans (hb3.mono (by have:=B2.out.size;exact this)));try clear hb3 R3 R2 B2 J2 I2 M2 N2 x0 x1 x2 x3 x4 x5 x6 x7
 go_wp2_with fail
 go_ret
 exact⟨rfl,B3.out⟩
end
end Go.Proofs.YtfcdkaolcdglmaaGreatDoor
