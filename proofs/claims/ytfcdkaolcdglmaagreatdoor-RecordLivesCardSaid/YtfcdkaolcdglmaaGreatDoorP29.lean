/- field.PutText, the writer's text. -/
import Derived.Test.YtfcdkaolcdglmaaGreatDoorP20
import Derived.StillTailTactics
set_option maxRecDepth 100000
set_option maxHeartbeats 4000000
set_option linter.unusedSimpArgs false
set_option linter.defProp false
namespace Go.Proofs.YtfcdkaolcdglmaaGreatDoor
open Go.Proofs.Tryz
open Go.RowKit
section
def jv{l:List Int}(h: ∀j,j<l.length->j=0\/l.getD (j-1) 0<l.getD j 0)(d: ∀x∈l,0<=x/\x<=31)(c:l≠[]):aX l=true:=by
 unfold aX;rw[OJ];refine⟨ba fun j a=> ?_,by simpa using QD.2 c⟩;have b:=d _ (PV a);rw[<-al l j 0 a]at b;unfold i6;simp only[OJ,PS,OR];exact⟨⟨b.1,b.2⟩,h j a⟩
def GW{l:List Int}(h:l.Pairwise (· < ·))(j:Nat)(a:j<l.length):j=0\/l.getD (j-1) 0<l.getD j 0:=by
 by_cases b:j=0
 ·exact .inl b
 refine .inr ?_;rw[al l j 0 a,al l (j-1) 0 (by omega)];exact Ow.1 h (j-1) j (by omega) a (by omega)
def Lf{l:List Int}(h:jR l=true):l≠[]/\ ∀j,j<l.length->j=0\/l.getD (j-1) 0<l.getD j 0:=by
 unfold jR at h;rw[OJ]at h;refine⟨fun e=>by rw[e]at h;simp at h,fun j a=> ?_⟩;have:=OP.1 h.2 j (Oh.2 a);unfold V8 at this;rw[PS,OR,P4]at this;exact this
def yT{c:aq}(h:cD c){x:Int}(a:fe c x=true):0<=x/\x<=31:=by
 have:=h.Z6;unfold fe at a;simp only[OJ,OR]at a;omega
def DC{c:aq}(h:cD c){m:ed}(a:mz c m=true):(0<=m.1/\m.1<=31)/\aX m.2=true:=by
 obtain⟨k,s,q,n,_,_⟩:=yK a;have l:=(OG.1 n).1;have p:=h.Z6;refine⟨by omega,?_⟩;unfold mz at a;split at a
 ·split at a
  ·rw[OJ,OR]at a;obtain⟨g,e⟩:=a;obtain⟨x,d⟩:=Rl.1 g;rw[d]at e |-;have b:fe c x=true:=(bP h.toRight (OQ.1 e)).1;refine jv (fun j i=> .inl ?_) (fun y o=> ?_) (by simp)
   ·simpa using i
   rw[O2.1 o];exact yT h b
  unfold O' at a;simp only[OJ]at a;have f:=Lf a.2.1.1.1;refine jv f.2 (fun x d=> ?_) f.1;have:=OP.1 a.2.1.1.2 x d;unfold dp at this;rw[OJ]at this;exact yT h (ah this.1)
 cases a
def Vo{c:aq}(h:cD c){mem:List ed}(f:bu c mem=true):qP mem=true:=by
 obtain⟨g,e⟩:=mD f;refine ba fun j a=> ?_;have b:=DC h (e _ (PV a));unfold mo;rw[al mem j _ a];simp only[OJ,PS,OR];refine⟨⟨b.1,b.2⟩,?_⟩;by_cases d:j=0
 ·exact .inl d
 refine .inr ?_;rw[al mem (j-1) _ (by omega)];exact Ow.1 g (j-1) j (by omega) a (by omega)
def CR{l:List Int}(h:tK l=true)(c:l.length<=8):iB l=true:=by
 unfold iB;rw[OJ];refine⟨ba fun j a=> ?_,by simpa using c⟩;have b:=OP.1 h _ (PV a);rw[<-al l j 0 a]at b;exact b
def DZ{c:aq}(h:cD c)(o:c.vars.length<=8){r:Rc}(k:nK r=true)(a:cM c r=true):aW r=true:=by
 unfold cM at a;simp only[OJ,P4]at a;obtain⟨⟨⟨⟨⟨d,f⟩,n⟩,g⟩,_⟩,i⟩:=a;have b:=eW d
 have j:aX r.Z8=true:=by
  refine jv (GW b.ZY) (fun x l=> ?_) fun e=> ?_
  ·obtain⟨_,_,m,_⟩:=b.of l;exact yT h m
  have:=b.top;rw[e]at this;unfold cR at this;rw[Q5.2 (by simp)]at this;cases this
 unfold aW;rw[k,j,CR i (by omega),Vo h f,g];rfl
end
section
def iT(n:Int)(w:World):Calls prog 61 #[.int .i64 n] w fun e w'=>e= .returned (.bool (jP n))/\w=w':=by
 by_cases h:0<=n
 all_goals
  go_enter func61,ntmps61
  go_wp2
  go_ret
  exact⟨by simp[jP,h]<;>omega,rfl⟩
def ints_at{w:World}{B n:Nat}{A:Option Addr}{l:List Int}(h:c0 w B 1 A n (l.map (Value.int .i64)))(g:l.length=n)(k:Nat)(f:k<n):
 ∃b off,A=some ⟨b,off,none⟩/\b<B/\ ∀j,j<n->w.cell? ⟨b,off+j,none⟩=some (.int .i64 (l.getD j 0)):=by
 obtain⟨b,off,e,a,c⟩:=h.2 (by omega);refine⟨b,off,e,a,fun j d=>c j _ ?_⟩;rw[OS,OE (by omega),al l j 0 (by omega)];rfl
def iD(v:Value)(l:List Int)(B:Nat)(w:World)(h:aV w B 1 Um v l):
 Calls prog 62 #[v] w fun e w'=>e= .returned (.bool (aX l))/\w=w':=by
 obtain⟨A,c,rfl,hlc,hcm,hr⟩:=h.one;unfold maxLen at hcm;have HR:=OI hr;try clear h hr
 go_enter func62,ntmps62
 go_wp2
 go_loop [7] (fun i=> ∃k:Nat,k<=l.length/\i= .int .i64 k/\ ∀j,j<k->i6 l j=true) (fun i=>l.length-(intOf i).toNat)
 case atStart=>exact⟨0,by omega,rfl,fun j hj=>by omega⟩
 case round=>
  obtain⟨k,hk,rfl,hall⟩:=hrel;have HA:=OI hall;try clear hall
  by_cases hlt:k<l.length
  ·obtain⟨b,off,rfl,_,hc⟩:=ints_at HR.out rfl k hlt;have hck:=hc k hlt;have HS:Hid (i6 l k=(decide (0<=l.getD k 0)&&decide (l.getD k 0<=31)&&(decide (k=0)||decide (l.getD (k-1) 0<l.getD k 0)))):=OI rfl
   have fin:Hid (i6 l k=true-> ∀j,j<k+1->i6 l j=true):=OI (fun hb j hj=>by
    rcases QN j k with h|h
    ·exact HA.out j h
    obtain rfl:j=k:=by omega
    exact hb)
   have bad:Hid (i6 l k=false->aX l=false):=OI (fun h=>by rw[aX,cm hlt h];rfl);cases k with
   | zero=>
     rw[QT]at hck;try clear hc
     generalize l.getD 0 0=x at*;by_cases h1:0<=x
     ·by_cases h2:x<=31
      ·have kn:=OI (fin.out (by rw[HS.out];simp[h1,h2]))
       go_wp2
       go_round
       case rel=>exact⟨1,by omega,rfl,kn.out⟩
       case measure=>simp[intOf];omega
      have kn:=OI (bad.out (by rw[HS.out];simp[h2]))
      go_wp2
      go_ret
      rw[kn.out];exact⟨rfl,rfl⟩
     have kn:=OI (bad.out (by rw[HS.out];simp[h1]))
     go_wp2
     go_ret
     rw[kn.out];exact⟨rfl,rfl⟩
   | succ k=>
     have hcp:=hc k (by omega);rw[QX]at HS;try clear hc
     generalize l.getD (k+1) 0=x at*;generalize l.getD k 0=y at*;by_cases h1:0<=x
     ·by_cases h2:x<=31
      ·by_cases h3:y<x
       ·have kn:=OI (fin.out (by rw[HS.out];simp[h1,h2,h3]))
        go_wp2
        go_round
        case rel=>exact⟨k+1+1,by omega,by go_num,kn.out⟩
        case measure=>simp[intOf];omega
       have kn:=OI (bad.out (by rw[HS.out];simp[h3]))
       go_wp2
       go_ret
       rw[kn.out];exact⟨rfl,rfl⟩
      have kn:=OI (bad.out (by rw[HS.out];simp[h2]))
      go_wp2
      go_ret
      rw[kn.out];exact⟨rfl,rfl⟩
     have kn:=OI (bad.out (by rw[HS.out];simp[h1]))
     go_wp2
     go_ret
     rw[kn.out];exact⟨rfl,rfl⟩
  obtain rfl:k=l.length:=by omega
  have e:Hid (aX l=decide (0<l.length)):=OI (by rw[aX,ba HA.out];rfl)
  go_wp2
  go_ret
  rw[e.out];refine⟨?_,rfl⟩;first|rfl|(congr 2;simp;omega)
def Ah(v:Value)(l:List Int)(B:Nat)(w:World)(h:aV w B 1 Um v l):
 Calls prog 63 #[v] w fun e w'=>e= .returned (.bool (iB l))/\w=w':=by
 obtain⟨A,c,rfl,hlc,hcm,hr⟩:=h.one;unfold maxLen at hcm;have HR:=OI hr;try clear h hr
 go_enter func63,ntmps63
 go_wp2
 go_loop [7] (fun i=> ∃k:Nat,k<=l.length/\i= .int .i64 k/\ ∀j,j<k->lU l j=true) (fun i=>l.length-(intOf i).toNat)
 case atStart=>exact⟨0,by omega,rfl,fun j hj=>by omega⟩
 case round=>
  obtain⟨k,hk,rfl,hall⟩:=hrel;have HA:=OI hall;try clear hall
  by_cases hlt:k<l.length
  ·obtain⟨b,off,rfl,_,hc⟩:=ints_at HR.out rfl k hlt;have hck:=hc k hlt;have HS:Hid (lU l k=(decide (-2147483647<=l.getD k 0)&&decide (l.getD k 0<=2147483647))):=OI rfl;try clear hc
   have bad:Hid (lU l k=false->iB l=false):=OI (fun h=>by rw[iB,cm hlt h];rfl)
   have fin:Hid (lU l k=true-> ∀j,j<k+1->lU l j=true):=OI (fun hb j hj=>by
    rcases QN j k with h|h
    ·exact HA.out j h
    obtain rfl:j=k:=by omega
    exact hb)
   generalize l.getD k 0=x at*;by_cases h1: -2147483647<=x
   ·by_cases h2:x<=2147483647
    ·have kn:=OI (fin.out (by rw[HS.out];simp[h1,h2]))
     go_wp2
     go_round
     case rel=>exact⟨k+1,by omega,by go_num,kn.out⟩
     case measure=>simp[intOf];omega
    have kn:=OI (bad.out (by rw[HS.out];simp[h2]))
    go_wp2
    go_ret
    rw[kn.out];exact⟨rfl,rfl⟩
   have kn:=OI (bad.out (by rw[HS.out];simp[h1]))
   go_wp2
   go_ret
   rw[kn.out];exact⟨rfl,rfl⟩
  obtain rfl:k=l.length:=by omega
  have e:Hid (iB l=decide (l.length<=8)):=OI (by rw[iB,ba HA.out];rfl)
  go_wp2
  go_ret
  refine⟨?_,rfl⟩;rw[e.out];first|rfl|(congr 2;simp;omega)
end
section
def wM: ∀a b:List UInt8,Op.bytesLess b a= !(Op.bytesLess a b||a==b)
 |[],[]=>rfl
 |[],_::_=>rfl
 |_::_,[]=>rfl
 | x::a,y::b=>by
   have i:=wM a b;simp only[Op.bytesLess,List.cons_beq_cons,i];by_cases h:x=y
   ·subst h;simp
   have g: ¬y=x:=fun e=>h e.symm;have c:(x==y)=false:=by simpa using h
   have d:(y==x)=false:=by simpa using g
   have f:decide (y<x)= !decide (x<y):=by
    rw[PC];simp[UInt8.lt_iff_toNat_lt];have:x.toNat≠y.toNat:=fun e=>h (T6.1 e);omega
   simp[c,d,f]
def V5(cs:List Value)(t:List UInt8×Int):Prop:=cs=[.string ⟨t.1.toArray⟩, .int .i64 t.2]/\t.1.length<=9223372036854775807
def yt{w:World}{B n c:Nat}{A:Option Addr}{l:List (List UInt8×Int)}(h:aV w B 2 V5 (.slice A n c) l)(k:Nat)(m:k<l.length):
 ∃b off,A=some ⟨b,off,none⟩/\b<B/\ ∀j,j<l.length->w.cell? ⟨b,off+j*2,none⟩=some (.string ⟨(l.getD j ([],0)).1.toArray⟩)/\w.cell? ⟨b,off+j*2+1,none⟩=some (.int .i64 (l.getD j ([],0)).2)/\(l.getD j ([],0)).1.length<=9223372036854775807:=by
 obtain⟨b,off,q,rfl,i,_⟩:=h.elem k m;refine⟨b,off,rfl,i,fun j d=> ?_⟩;obtain⟨p,f,g,e,_,⟨rfl,o⟩,_,a⟩:=h.elem j d;cases e;rw[al l j _ d];exact⟨a 0 _ rfl,a 1 _ rfl,o⟩
def CX(v:Value)(l:List (List UInt8×Int))(w:World)(h:aV w w.heap.size 2 V5 v l):
 Calls prog 65 #[v] w fun e w'=>e= .returned (.bool (ay l))/\Below w.heap.size w w':=by
 obtain⟨A,c,rfl,hlc,hcm⟩:=h.form;unfold maxLen at hcm;have HL:=OI h;try clear h
 go_enter func65,ntmps65
 go_wp2
 go_loopw [7] (fun i wr=> ∃k:Nat,k<=l.length/\i= .int .i64 k/\(∀j,j<k->jV l j=true)/\Below w.heap.size w wr) (fun i _=>l.length-(intOf i).toNat)
 case atStart=>exact⟨0,by omega,rfl,(fun j hj=>by omega),Oy _ _⟩
 case round=>
  obtain⟨k,hk,rfl,hall,hB⟩:=hrel;have HA:=OI hall;have HB:=OI hB;have hsz:=hB.size;try clear hall
  by_cases hlt:k<l.length
  ·obtain⟨b,off,rfl,hb,hc⟩:=yt HL.out k hlt;obtain⟨c1,c2,hnl⟩:=hc k hlt;have hbw:b<wr.heap.size:=by omega
   have c1:=(hB.cell (p:=⟨b,off+k*2,none⟩) hb).trans c1;have c2:=(hB.cell (p:=⟨b,off+k*2+1,none⟩) hb).trans c2;have HS:Hid (jV l k=(bT (l.getD k ([],0)).1&&jP (l.getD k ([],0)).2&&(decide (k=0)||Op.bytesLess (l.getD (k-1) ([],0)).1 (l.getD k ([],0)).1))):=OI rfl
   have fin:Hid (jV l k=true-> ∀j,j<k+1->jV l j=true):=OI (fun hb j hj=>by
    rcases QN j k with h|h
    ·exact HA.out j h
    obtain rfl:j=k:=by omega
    exact hb)
   have bad:Hid (jV l k=false->ay l=false):=OI (fun h=>by rw[ay,cm hlt h];rfl);cases k with
   | zero=>
     rw[Qp,QT]at c1 c2;try clear hc hB
     generalize (l.getD 0 ([],0)).1=nm at*;generalize (l.getD 0 ([],0)).2=x at*;cases h1:bT nm<;>cases h2:jP x
     all_goals
      go_wp2
      go_quiet (first|(go_at_call 94;exact ax (uG nm hnl _))|(go_at_call 61;exact ax (iT x _)))
      go_wp2
      first
       |(go_roundw
         case rel=>exact⟨1,by omega,rfl,fin.out (by rw[HS.out,h1,h2];rfl),below_drewN (HB.out.alloc hsz _) _⟩
         case measure=>simp[intOf];omega)
       |(go_ret
         rw[bad.out (by rw[HS.out,h1,h2];rfl)]
         exact⟨rfl,below_drewN (HB.out.alloc hsz _) _⟩)
   | succ k=>
     obtain⟨d1,d2,_⟩:=hc k (by omega);have d1:=(hB.cell (p:=⟨b,off+k*2,none⟩) hb).trans d1;rw[QX]at HS;try clear hc hB d2
     generalize (l.getD (k+1) ([],0)).1=nm at*;generalize (l.getD (k+1) ([],0)).2=x at*;generalize (l.getD k ([],0)).1=pv at*;rw[wM nm pv]at HS;cases h1:bT nm<;>cases h2:jP x<;>cases h3:Op.bytesLess nm pv<;>cases h4:(nm==pv)
     all_goals
      go_wp2
      have q1:IntKind.i64.wrap (k:Int)=(k:Int):=Qz _ (by omega);have q2:(0:Int)<=(k:Int):=by omega
      have q3:(k:Int)< (l.length:Int):=by omega
      have q4:(k:Int).toNat=k:=by omega
      go_quiet (first|(go_at_call 94;exact ax (uG nm hnl _))|(go_at_call 61;exact ax (iT x _)))
      try clear q1 q2 q3 q4
      go_wp2
      first
       |(go_roundw
         case rel=>exact⟨k+1+1,by omega,by go_num,fin.out (by rw[HS.out,h1,h2,h3,h4];simp),below_drewN (HB.out.alloc hsz _) _⟩
         case measure=>simp[intOf];omega)
       |(go_ret
         rw[bad.out (by rw[HS.out,h1,h2,h3,h4];simp)]
         exact⟨rfl,below_drewN (HB.out.alloc hsz _) _⟩)
  obtain rfl:k=l.length:=by omega
  have e:Hid (ay l=decide (l.length<=8)):=OI (by rw[ay,ba HA.out];rfl);try clear hB
  go_wp2
  go_ret
  rw[e.out];refine⟨?_,HB.out⟩;first|rfl|(congr 2;simp;omega)
def DI(w:World)(B:Nat)(cs:List Value)(m:Int×List Int):Prop:= ∃v,cs=[.int .i64 m.1,v]/\aV w B 1 Um v m.2
def DG{w w':World}{B:Nat}(a: ∀b off,b<B->w'.cell? ⟨b,off,none⟩=w.cell? ⟨b,off,none⟩)(cs:List Value)(m:Int×List Int)(h:DI w B cs m):DI w' B cs m:=by
 obtain⟨v,e,h⟩:=h;exact⟨v,e,h.moved a fun _ _ _ h=>h⟩
def oa{w:World}{B n c:Nat}{A:Option Addr}{l:List (Int×List Int)}(h:aV w B 2 (DI w B) (.slice A n c) l)(k:Nat)(m:k<l.length):
 ∃b off,A=some ⟨b,off,none⟩/\b<B/\ ∀j,j<l.length-> ∃v,w.cell? ⟨b,off+j*2,none⟩=some (.int .i64 (l.getD j (0,[])).1)/\w.cell? ⟨b,off+j*2+1,none⟩=some v/\aV w B 1 Um v (l.getD j (0,[])).2:=by
 obtain⟨b,off,q,rfl,i,_⟩:=h.elem k m;refine⟨b,off,rfl,i,fun j d=> ?_⟩;obtain⟨p,f,g,e,_,⟨v,rfl,o⟩,_,a⟩:=h.elem j d;cases e;rw[al l j _ d];exact⟨v,a 0 _ rfl,a 1 _ rfl,o⟩
end
section
section
variable {P:Program} {ops:Array Oper} {Q:Exit->Act->World->Prop}
def gH(size:Nat):Nat->Array Bool
 |0=>Array.replicate size false
 |k+1=>(gH size k).setIfInBounds k true
def BC(ops:Array Oper)(n:Nat):Bool:=
 Region.noSelect ops&&decide (n<=ops.size)&&((List.range n).all fun k=>Region.ready .any ops (gH ops.size k) == [k])&&Region.lexFrom .any ops (ops.size-n) n (gH ops.size n)
def EF(P:Program)(ops:Array Oper)(Q:Exit->Act->World->Prop)(rest:List Oper):Exit->Act->World->Prop
 | .normal,a,w=>wpQuiet P ops (fun b=> ∃n,b=w.drewN n) (fun c=> ∀b,(∃n,b=w.drewN n)->Q .normal c b) rest a
 |e,a,w=>Q e a w
theorem ni{rest:List Oper}{a:Act}{w:World}(h:wpQuiet P ops (fun w'=> ∃n,w'=w.drewN n) (fun b=> ∀w',(∃n,w'=w.drewN n)->Q .normal b w') rest a):EF P ops Q rest .normal a w:=h
theorem np{Q c:Exit->Act->World->Prop}(h: ∀e a w,e≠ .normal->Q e a w->c e a w)(b:LetsOut Q):LetsOut c:=by
 obtain⟨a,w,d⟩:=b;exact⟨a,w,h _ _ _ (by intro b;cases b) d⟩
theorem Oper.wp_post{o:Oper}{a:Act}{w:World}{K:Act->World->Prop}{Q d:Exit->Act->World->Prop}(h: ∀e a w,e≠ .normal->Q e a w->d e a w)(b:o.wp P a w K Q):o.wp P a w K d:=by
 unfold Oper.wp at*;generalize (execOp a.eval o).run P w=r at*;cases r with
 | ok n f=>
   cases n<;>simp only[Oper.upon]at b |- <;>
    first
     |exact b
     |exact Calls.mono b (fun e g c=>by cases e<;>first|exact c|exact h _ _ _ (by intro b;cases b) c|exact np h c)
     |exact Rows.mono b (fun _ _ c=>c)
 |halt x f=>cases x<;>simp only[Oper.upon]at b |- <;>first|exact b|exact h _ _ _ (by intro b;cases b) b
theorem ri(m:Region.noSelect ops=true)(rest:List Oper)(n:Nat)(G:n+rest.length=ops.size)(c: ∀j,rest[j]? =ops[n+j]?)
 (d:Region.lexFrom .any ops rest.length n (gH ops.size n)=true)(x: ∀k,k<n->Region.ready .any ops (gH ops.size k)=[k]):
 ∀(l:List Oper)(k:Nat)(a:Act)(w:World),k+l.length=n->(∀j,j<l.length->l[j]? =ops[k+j]?)->wpList P ops (EF P ops Q rest) l a w->wpAny P .any ops Q (l.length+rest.length) (gH ops.size k) a w
 | [],k,a,w,p,_,h=>by
   obtain rfl:k=n:=by simpa using p
   have q:=wpAnyQ_lex (md:= .any) m rest k (gH ops.size k) a c d h;rw[Q0,PR];exact wpAny_of_quiet (C:=fun f=> ∃n,f=w.drewN n) (fun g f v t=>t f v) _ _ _ w ⟨0,rfl⟩ q
 | o::l,k,a,w,p,z,h=>by
   have r:k<n:=by simp only[OU]at p;omega
   have D:ops[k]? =some o:=by simpa using (z 0 (by simp)).symm
   have A:=x k r;rw[OU,show l.length+1+rest.length=(l.length+rest.length)+1 by omega];refine⟨fun h=>(by rw[A]at h;cases h),fun i y=> ?_⟩;rw[A]at y;obtain rfl:i=k:=by simpa using y
   have step: ∀g f,wpList P ops (EF P ops Q rest) l g f->wpAny P .any ops Q (l.length+rest.length) ((gH ops.size i).setIfInBounds i true) g f:=fun g f B=>
    ri m rest n G c d x l (i+1) g f (by simp only[OU]at p;omega) (fun j H=>by
     have:=z (j+1) (by simp;omega)
     simpa[QY,SQ 1 j]using this) B
   have b: ∀e a w,e≠ .normal->EF P ops Q rest e a w->Q e a w:=fun e a w s t=>by
    cases e<;>first|exact t|exact absurd rfl s
   unfold wpOp;rw[D];simp only[wpList]at h;show if Region.wanted o (yielded ops a.tmps)=true then _ else _
   split
   ·rename_i u;rw[OL u]at h;rcases h with h|⟨q,E⟩
    ·exact .inl (Oper.wp_post b (Oper.wp_mono step h))
    exact .inr ⟨q,np b E⟩
   rename_i u;rw[OK u]at h;exact step _ _ h
theorem kj{p:Nat}{a:Act}{w:World}{l:List Oper}(n:Nat)(o:P.follows .mixedOrders=true)(d:BC l.toArray n=true)
 (h:wpList P l.toArray (EF P l.toArray Q (l.drop n)) (l.take n) a w.drew):(Code.region p l.toArray true).wp P Q a w:=by
 simp only[BC,OJ,OR,OP,Oh,P4]at d;obtain⟨⟨⟨f,g⟩,k⟩,m⟩:=d;have i:n<=l.length:=by simpa using g
 have b:(l.drop n).length=l.toArray.size-n:=by simp
 have c:(l.take n).length=n:=by simp;omega
 refine wp_region_any o ?_
 have:=ri (P:=P) (Q:=Q) f (l.drop n) n (by rw[b];omega) (fun j=>by simp[PY]) (by rw[b];exact m) k (l.take n) 0 a w.drew (by rw[c];omega) (fun j e=>by
  rw[c]at e
  simp[e]) h
 rw[c,b,show n+(l.toArray.size-n)=l.toArray.size by omega]at this;exact this
end
end
section
def cZ{B:Nat}{w w':World}(a:Below B w w'): ∀b off,b<B->w'.cell? ⟨b,off,none⟩=w.cell? ⟨b,off,none⟩:=fun b off h=>a.cell (p:=⟨b,off,none⟩) h
def lW{w W:World}{v:Value}{l:List Int}(h:aV w w.heap.size 1 Um v l)(a:Below w.heap.size w W):
 Calls prog 62 #[v] W fun e w'=>e= .returned (.bool (aX l))/\W=w':=
 iD v l _ W (h.moved (cZ a) fun _ _ _ h=>h)
def kK{W:World}{X:Nat}{x:Int}(h:W.cell? ⟨X,0,none⟩=some (.int .i64 x)):
 Calls prog 62 #[.slice (some ⟨X,0,none⟩) 1 1] W fun e w'=>e= .returned (.bool (aX [x]))/\W=w':=by
 refine iD _ [x] (X+1) W (aV.of_one rfl (OO _) (by unfold maxLen;omega) ⟨by simp,fun _=>⟨X,0,rfl,by omega,fun j u a=> ?_⟩⟩)
 have:j=0:=by
  rcases QN j 1 with h|h
  ·omega
  rw[OT (by simpa using h)]at a;cases a
 subst this;simp at a;subst a;exact h
def zc(x:Int):aX [x]=(decide (0<=x)&&decide (x<=31)):=by
 simp[aX,ku,i6,Qe]
def xb(v:Value)(l:List (Int×List Int))(w:World)(h:aV w w.heap.size 2 (DI w w.heap.size) v l):
 Calls prog 64 #[v] w fun e w'=>e= .returned (.bool (qP l))/\Below w.heap.size w w':=by
 obtain⟨A,c,rfl,hlc,hcm⟩:=h.form;unfold maxLen at hcm;have HL:=OI h;try clear h
 go_enter func64,ntmps64
 go_wp2
 go_loopw [7] (fun i wr=> ∃k:Nat,k<=l.length/\i= .int .i64 k/\(∀j,j<k->mo l j=true)/\Below w.heap.size w wr) (fun i _=>l.length-(intOf i).toNat)
 case atStart=>exact⟨0,by omega,rfl,(fun j hj=>by omega),Oy _ _⟩
 case round=>
  obtain⟨k,hk,rfl,hall,hB⟩:=hrel;have HA:=OI hall;have HB:=OI hB;have hsz:=hB.size;try clear hall
  by_cases hlt:k<l.length
  ·obtain⟨b,off,rfl,hb,hc⟩:=oa HL.out k hlt;obtain⟨sv,c1,c2,hsv⟩:=hc k hlt;have hbw:b<wr.heap.size:=by omega
   have c1:=(hB.cell (p:=⟨b,off+k*2,none⟩) hb).trans c1;have c2:=(hB.cell (p:=⟨b,off+k*2+1,none⟩) hb).trans c2;have HV:=OI hsv;obtain⟨A2,k2,rfl,_,_⟩:=hsv.form;have HS:Hid (mo l k=(aX [(l.getD k (0,[])).1]&&aX (l.getD k (0,[])).2&&(decide (k=0)||decide ((l.getD (k-1) (0,[])).1< (l.getD k (0,[])).1)))):=OI (by rw[zc];rfl)
   have fin:Hid (mo l k=true-> ∀j,j<k+1->mo l j=true):=OI (fun hb j hj=>by
    rcases QN j k with h|h
    ·exact HA.out j h
    obtain rfl:j=k:=by omega
    exact hb)
   have bad:Hid (mo l k=false->qP l=false):=OI (fun h=>by rw[qP,cm hlt h]);try clear hsv
   cases k with
   | zero=>
     rw[Qp,QT]at c1 c2;try clear hc hB
     generalize (l.getD 0 (0,[])).1=x at*;generalize (l.getD 0 (0,[])).2=sl at*;cases h1:aX [x]<;>cases h2:aX sl
     all_goals
      go_wp2
      refine kj 3 (by kernel_rfl) (by kernel_rfl) ?_;simp only[SC,Ta,List.drop_succ_cons,Td]
      go_wp2
      refine ni ?_;have B2:=OI (show Below w.heap.size w (((wr.alloc (.cells #[.int .i64 x, .slice A2 sl.length k2] 93)).alloc (.cells #[.int .i64 x] 3)).drew) from((HB.out.alloc hsz _).alloc (by simp;omega) _).drew);have f1:(((wr.alloc (.cells #[.int .i64 x, .slice A2 sl.length k2] 93)).alloc (.cells #[.int .i64 x] 3)).drew).cell? ⟨wr.heap.size,0,none⟩=some (.int .i64 x):=by simp
      have f2:(((wr.alloc (.cells #[.int .i64 x, .slice A2 sl.length k2] 93)).alloc (.cells #[.int .i64 x] 3)).drew).cell? ⟨wr.heap.size,1,none⟩=some (.slice A2 sl.length k2):=by simp
      have f3:(((wr.alloc (.cells #[.int .i64 x, .slice A2 sl.length k2] 93)).alloc (.cells #[.int .i64 x] 3)).drew).cell? ⟨wr.heap.size+1,0,none⟩=some (.int .i64 x):=by simp
      generalize ((wr.alloc (.cells #[.int .i64 x, .slice A2 sl.length k2] 93)).alloc (.cells #[.int .i64 x] 3)).drew=W2 at*;repeat (first|go_big_quiet_step ((first|(go_at_call_of 62 (Value.slice A2 sl.length k2);exact ax (lW HV.out (below_drewN B2.out _)))|(go_at_call 62;exact ax (kK (x:=x) f3))))|quiet_step ((first|(go_at_call_of 62 (Value.slice A2 sl.length k2);exact ax (lW HV.out (below_drewN B2.out _)))|(go_at_call 62;exact ax (kK (x:=x) f3)))))
      refine wpQuiet_nil ?_;intro _ hw';obtain⟨nq,hw''⟩:=hw';subst hw''
      go_wp2
      first
       |(go_roundw
         case rel=>exact⟨1,by omega,rfl,fin.out (by rw[HS.out,h1,h2];simp),below_drewN B2.out _⟩
         case measure=>simp[intOf];omega)
       |(go_ret
         rw[bad.out (by rw[HS.out,h1,h2];simp)]
         exact⟨rfl,below_drewN B2.out _⟩)
   | succ k=>
     obtain⟨pv,d0,_,_⟩:=hc k (by omega);have d1:=(hB.cell (p:=⟨b,off+k*2,none⟩) hb).trans d0;rw[QX]at HS;try clear hc hB
     generalize (l.getD (k+1) (0,[])).1=x at*;generalize (l.getD (k+1) (0,[])).2=sl at*;generalize (l.getD k (0,[])).1=y at*;cases h1:aX [x]<;>cases h2:aX sl<;>cases h3:decide (x<=y)
     all_goals
      have h4:decide (y<x)= !decide (x<=y):=by
       rw[PC];simp
      rw[h3]at h4;have H4:=OI h4;try clear h4
      go_wp2
      refine kj 3 (by kernel_rfl) (by kernel_rfl) ?_;simp only[SC,Ta,List.drop_succ_cons,Td]
      go_wp2
      refine ni ?_;have B2:=OI (show Below w.heap.size w (((wr.alloc (.cells #[.int .i64 x, .slice A2 sl.length k2] 93)).alloc (.cells #[.int .i64 x] 3)).drew) from((HB.out.alloc hsz _).alloc (by simp;omega) _).drew);have f1:(((wr.alloc (.cells #[.int .i64 x, .slice A2 sl.length k2] 93)).alloc (.cells #[.int .i64 x] 3)).drew).cell? ⟨wr.heap.size,0,none⟩=some (.int .i64 x):=by simp
      have f2:(((wr.alloc (.cells #[.int .i64 x, .slice A2 sl.length k2] 93)).alloc (.cells #[.int .i64 x] 3)).drew).cell? ⟨wr.heap.size,1,none⟩=some (.slice A2 sl.length k2):=by simp
      have f3:(((wr.alloc (.cells #[.int .i64 x, .slice A2 sl.length k2] 93)).alloc (.cells #[.int .i64 x] 3)).drew).cell? ⟨wr.heap.size+1,0,none⟩=some (.int .i64 x):=by simp
      have f4:(((wr.alloc (.cells #[.int .i64 x, .slice A2 sl.length k2] 93)).alloc (.cells #[.int .i64 x] 3)).drew).cell? ⟨b,off+k*2,none⟩=some (.int .i64 y):=(B2.out.cell (p:=⟨b,off+k*2,none⟩) hb).trans d0;generalize ((wr.alloc (.cells #[.int .i64 x, .slice A2 sl.length k2] 93)).alloc (.cells #[.int .i64 x] 3)).drew=W2 at*;have q1:IntKind.i64.wrap (k:Int)=(k:Int):=Qz _ (by omega);have q2:(0:Int)<=(k:Int):=by omega
      have q3:(k:Int)< (l.length:Int):=by omega
      have q4:(k:Int).toNat=k:=by omega
      repeat (first|go_big_quiet_step ((first|(go_at_call_of 62 (Value.slice A2 sl.length k2);exact ax (lW HV.out (below_drewN B2.out _)))|(go_at_call 62;exact ax (kK (x:=x) f3))))|quiet_step ((first|(go_at_call_of 62 (Value.slice A2 sl.length k2);exact ax (lW HV.out (below_drewN B2.out _)))|(go_at_call 62;exact ax (kK (x:=x) f3)))))
      refine wpQuiet_nil ?_;intro _ hw';obtain⟨nq,hw''⟩:=hw';subst hw'';try clear q1 q2 q3 q4
      go_wp2
      first
       |(go_roundw
         case rel=>exact⟨k+1+1,by omega,by go_num,fin.out (by rw[HS.out,h1,h2,H4.out];simp),below_drewN B2.out _⟩
         case measure=>simp[intOf];omega)
       |(go_ret
         rw[bad.out (by rw[HS.out,h1,h2,H4.out];simp)]
         exact⟨rfl,below_drewN B2.out _⟩)
  obtain rfl:k=l.length:=by omega
  have e:Hid (qP l=true):=OI (by rw[qP,ba HA.out]);try clear hB
  go_wp2
  go_ret
  rw[e.out];exact⟨rfl,HB.out⟩
end
section
structure wg(w:World)(B:Nat)(va vv vm vt:Value)(r:Rc):Prop where
 act:aV w B 1 Um va r.Z8
 vars:aV w B 1 Um vv r.vars
 mem:aV w B 2 (DI w B) vm r.mem
 Z4:aV w B 2 V5 vt r.timers
def DF{w:World}{B B':Nat}(a:B<=B')(cs:List Value)(m:Int×List Int)(h:DI w B cs m):DI w B' cs m:=by
 obtain⟨v,e,h⟩:=h;exact⟨v,e,h.wider a fun _ _ _ h=>h⟩
def wg.moved{w w':World}{B:Nat}{c f d e:Value}{r:Rc}(h:wg w B c f d e r)(a: ∀b off,b<B->w'.cell? ⟨b,off,none⟩=w.cell? ⟨b,off,none⟩):wg w' B c f d e r:=
 ⟨h.act.moved a fun _ _ _ h=>h,h.vars.moved a fun _ _ _ h=>h,h.mem.moved a fun g m _ h=>DG a g m h,h.Z4.moved a fun _ _ _ h=>h⟩
def wg.wider{w:World}{B B':Nat}{b e c d:Value}{r:Rc}(h:wg w B b e c d r)(a:B<=B'):wg w B' b e c d r:=
 ⟨h.act.wider a fun _ _ _ h=>h,h.vars.wider a fun _ _ _ h=>h,h.mem.wider a fun f m _ h=>DF a f m h,h.Z4.wider a fun _ _ _ h=>h⟩
def wg.below{w w':World}{b e c d:Value}{r:Rc}(h:wg w w.heap.size b e c d r)(a:Below w.heap.size w w'):wg w' w'.heap.size b e c d r:=
 (h.moved (cZ a)).wider a.size
def wg.alloc{w:World}{a d b c:Value}{r:Rc}(h:wg w w.heap.size a d b c r)(o:Obj):wg (w.alloc o) (w.alloc o).heap.size a d b c r:=
 h.below ((Oy _ w).alloc (OO _) o)
abbrev ph(r:Rc)(a d b c:Value):Array Value:= #[.int .i64 r.Z5, .int .i64 r.born, .int .i64 r.steps,a,d,b,c, .bool r.over]
def c8{w:World}{g:Nat}{t:TypeId}{a b c d e f x y:Value}(h:cU w g t #[a,b,c,d,e,f,x,y]):
 w.cell? ⟨g,0,none⟩=some a/\w.cell? ⟨g,1,none⟩=some b/\w.cell? ⟨g,2,none⟩=some c/\w.cell? ⟨g,3,none⟩=some d/\w.cell? ⟨g,4,none⟩=some e/\w.cell? ⟨g,5,none⟩=some f/\w.cell? ⟨g,6,none⟩=some x/\w.cell? ⟨g,7,none⟩=some y:=
 ⟨h.cell 0,h.cell 1,h.cell 2,h.cell 3,h.cell 4,h.cell 5,h.cell 6,h.cell 7⟩
def Fi(a:Bool)(b:Addr)(w:World)(e:Ending)(w':World):Prop:= ∃E,e= .returned E/\Below w.heap.size w w'/\((a=true/\E= .nilIface)\/(a=false/\cz w' b 1 E))
def xG(r:Rc)(va vv vm vt:Value)(w:World)(h:wg w w.heap.size va vv vm vt r)(aF:Addr)(hf:p' w 0 aF):
 Calls prog 23 #[.agg (ph r va vv vm vt)] w (Fi (aW r) aF w):=by
 have hb0:=(Oy w.heap.size w).alloc (OO _) (.cells (ph r va vv vm vt) 44);have F0:=hf.below hb0;have cF:=F0.1;have HF:=OI F0;have HI:=OI (h.below hb0);have HB:=OI hb0;have R0:=OI (show aW r=(((decide (1<=r.Z5)&&decide (r.Z5<=2147483647))&&jP r.born&&jP r.steps)&&aX r.Z8&&iB r.vars&&qP r.mem&&ay r.timers) by simp[aW,nK]);have M0:=OI (cU.new w 44 (ph r va vv vm vt));obtain⟨A1,k1,e1,_,_⟩:=h.act.form;obtain⟨A2,k2,e2,_,_⟩:=h.vars.form;obtain⟨A3,k3,e3,_,_⟩:=h.mem.form;obtain⟨A4,k4,e4,_,_⟩:=h.Z4.form;subst e1 e2 e3 e4;try clear h hf hb0 F0
 obtain⟨ch,bo,st,ac,vs,ms,ts,ov⟩:=r;simp only[ph]at*;generalize ac.length=n1 at*;generalize vs.length=n2 at*;generalize ms.length=n3 at*;generalize ts.length=n4 at*
 have no: ∀(s:ByteArray)(n:Nat),aW ⟨ch,bo,st,ac,vs,ms,ts,ov⟩=false-> ∀(W:World),n=W.heap.size->Below w.heap.size w W->p' W 0 aF->
  Fi (aW ⟨ch,bo,st,ac,vs,ms,ts,ov⟩) aF w (.returned (.iface 120 (.pointer (some ⟨n,0,none⟩)))) (W.alloc (.cells #[.string s, .int .i64 (-1), .iface 307 (.pointer (some aF))] 122)):=fun s n hr W hn hB hS=>by
  subst hn;rw[hr];exact⟨_,rfl,hB.alloc hB.size _, .inr ⟨rfl,cz.new hS s (-1)⟩⟩
 have NO:=OI no;try clear no
 by_cases h1: ¬1<=ch
 ·have rf:=OI (show aW ⟨ch,bo,st,ac,vs,ms,ts,ov⟩=false by rw[R0.out];simp[h1])
  go_enter func23,ntmps23
  go_wp2_with (go_at_call 29;refine(eE _ _ _ _).mono ?_;rintro e w' ⟨rfl,rfl⟩)
  go_ret
  exact NO.out _ _ rf.out _ (by simp) HB.out HF.out
 have h1:1<=ch:=by omega
 by_cases h2: ¬ch<=2147483647
 ·have rf:=OI (show aW ⟨ch,bo,st,ac,vs,ms,ts,ov⟩=false by rw[R0.out];simp[h2])
  go_enter func23,ntmps23
  go_wp2_with (go_at_call 29;refine(eE _ _ _ _).mono ?_;rintro e w' ⟨rfl,rfl⟩)
  go_ret
  exact NO.out _ _ rf.out _ (by simp) HB.out HF.out
 have h2:ch<=2147483647:=by omega
 cases h3:jP bo
 ·have rf:=OI (show aW ⟨ch,bo,st,ac,vs,ms,ts,ov⟩=false by rw[R0.out];simp[h3])
  go_enter func23,ntmps23
  go_wp2_with (first|(go_at_call 29;refine(eE _ _ _ _).mono ?_;rintro e w' ⟨rfl,rfl⟩)|(go_at_call 61;refine(iT _ _).mono ?_;rintro e w' ⟨rfl,rfl⟩))
  go_ret
  exact NO.out _ _ rf.out _ (by simp) HB.out HF.out
 cases h4:jP st
 ·have rf:=OI (show aW ⟨ch,bo,st,ac,vs,ms,ts,ov⟩=false by rw[R0.out];simp[h4])
  go_enter func23,ntmps23
  go_wp2_with (first|(go_at_call 29;refine(eE _ _ _ _).mono ?_;rintro e w' ⟨rfl,rfl⟩)|(go_at_call 61;refine(iT _ _).mono ?_;rintro e w' ⟨rfl,rfl⟩))
  go_ret
  exact NO.out _ _ rf.out _ (by simp) HB.out HF.out
 cases h5:aX ac
 ·have rf:=OI (show aW ⟨ch,bo,st,ac,vs,ms,ts,ov⟩=false by rw[R0.out];simp[h5])
  go_enter func23,ntmps23
  go_wp2_with (first|(go_at_call 29;refine(eE _ _ _ _).mono ?_;rintro e w' ⟨rfl,rfl⟩)|(go_at_call 61;refine(iT _ _).mono ?_;rintro e w' ⟨rfl,rfl⟩)|(go_at_call 62;refine(iD _ ac _ _ HI.out.act).mono ?_;rintro e w' ⟨rfl,rfl⟩))
  go_ret
  exact NO.out _ _ rf.out _ (by simp) HB.out HF.out
 cases h6:iB vs
 ·have rf:=OI (show aW ⟨ch,bo,st,ac,vs,ms,ts,ov⟩=false by rw[R0.out];simp[h6])
  go_enter func23,ntmps23
  go_wp2_with (first|(go_at_call 29;refine(eE _ _ _ _).mono ?_;rintro e w' ⟨rfl,rfl⟩)|(go_at_call 61;refine(iT _ _).mono ?_;rintro e w' ⟨rfl,rfl⟩)|(go_at_call 62;refine(iD _ ac _ _ HI.out.act).mono ?_;rintro e w' ⟨rfl,rfl⟩)|(go_at_call 63;refine(Ah _ vs _ _ HI.out.vars).mono ?_;rintro e w' ⟨rfl,rfl⟩))
  go_ret
  exact NO.out _ _ rf.out _ (by simp) HB.out HF.out
 go_enter func23,ntmps23
 go_wp2_with (first|(go_at_call 61;refine(iT _ _).mono ?_;rintro e w' ⟨rfl,rfl⟩)|(go_at_call 62;refine(iD _ ac _ _ HI.out.act).mono ?_;rintro e w' ⟨rfl,rfl⟩)|(go_at_call 63;refine(Ah _ vs _ _ HI.out.vars).mono ?_;rintro e w' ⟨rfl,rfl⟩))
 refine(xb _ ms _ HI.out.mem).mono ?_;rintro e w1 ⟨rfl,hb1⟩;have I1:=OI (HI.out.below hb1);have F1:=OI (HF.out.below hb1);have B1:=OI (HB.out.trans (hb1.mono (by simp)));obtain⟨m0,m1,m2,m3,m4,m5,m6,m7⟩:=c8 (M0.out.below hb1 (by simp));have cF1:=F1.out.1;try clear hb1 HI HF HB M0 cF m0 m1 m2 m7
 cases h7:qP ms
 ·have rf:=OI (show aW ⟨ch,bo,st,ac,vs,ms,ts,ov⟩=false by rw[R0.out];simp[h7])
  go_wp2_with (go_at_call 29;refine(eE _ _ _ _).mono ?_;rintro e w' ⟨rfl,rfl⟩)
  go_ret
  exact NO.out _ _ rf.out _ (by simp) B1.out F1.out
 go_wp2_with fail
 refine(CX _ ts _ I1.out.Z4).mono ?_;rintro e w2 ⟨rfl,hb2⟩;have F2:=OI (F1.out.below hb2);have B2:=OI (B1.out.trans (hb2.mono B1.out.size));have cF2:=F2.out.1;try clear hb2 I1 F1 B1 cF1 m3 m4 m5 m6
 cases h8:ay ts
 ·have rf:=OI (show aW ⟨ch,bo,st,ac,vs,ms,ts,ov⟩=false by rw[R0.out];simp[h8])
  go_wp2_with (go_at_call 29;refine(eE _ _ _ _).mono ?_;rintro e w' ⟨rfl,rfl⟩)
  go_ret
  exact NO.out _ _ rf.out _ (by simp) B2.out F2.out
 have rf:=OI (show aW ⟨ch,bo,st,ac,vs,ms,ts,ov⟩=true by rw[R0.out];simp[h1,h2,h3,h4,h5,h6,h7,h8])
 go_wp2_with fail
 go_ret
 rw[rf.out];exact⟨_,rfl,B2.out, .inl ⟨rfl,rfl⟩⟩
end
section
def Fv(b:Bool)(w:World):Calls prog 25 #[.bool b] w fun e w'=>e= .returned (.int .i64 (b.toNat:Nat))/\w=w':=by
 cases b
 all_goals
  go_enter func25,ntmps25
  go_wp2
  go_ret
  exact⟨rfl,rfl⟩
def Jp(n:Int)(h1: -2147483647<=n)(h2:n<=2147483647)(w:World):Calls prog 27 #[.int .i64 n] w fun e w'=>e= .returned (.int .i64 (DM n:Nat))/\w=w':=by
 by_cases h:n<0
 all_goals
  have HF:=OI (show ((DM n:Nat):Int)=if n<0 then -2*n-1 else 2*n by unfold DM;split<;>omega)
  go_enter func27,ntmps27
  go_wp2
  go_ret
  rw[HF.out];refine⟨?_,rfl⟩;first|rw[OL h];rfl|rw[OK (by omega)];rfl
def We(m x:Nat)(c:m<2^x)(d:x<=31):bits .or .i64 (m:Int) ((2:Int)^x)=((m+2^x:Nat):Int):=by
 have f:(2:Nat)^x<=2^31:=Pz (by decide) d;rw[show (2:Int)^x=((2^x:Nat):Int) by simp]
 have a: ∀y:Nat,y<9223372036854775808->(BitVec.ofInt 64 (y:Int)).toNat=y:=fun y g=>by
  rw[Qt,Rj];exact Qw (by omega)
 show IntKind.i64.wrap ((BitVec.ofInt 64 (m:Int)||| BitVec.ofInt 64 ((2^x:Nat):Int)).toNat:Int)=_;rw[T4,a _ (by omega),a _ (by omega),Qx]
 have e:m||| 2^x=m+2^x:=by
  have:=Nat.two_pow_add_eq_or_of_lt (i:=x) (b:=m) c 1;rw[Nat.or_comm,SQ];simpa using this.symm
 rw[e];omega
def Ed(v:Value)(l:List Int)(B:Nat)(w:World)(h:aV w B 1 Um v l)(hs:ku l.length (i6 l)=true):
 Calls prog 26 #[v] w fun e w'=>e= .returned (.int .i64 (nw l:Nat))/\w=w':=by
 obtain⟨A,c,rfl,hlc,hcm,hr⟩:=h.one;unfold maxLen at hcm;have HR:=OI hr;have HS:=OI hs;try clear h hr hs
 go_enter func26,ntmps26
 go_wp2
 go_loop [3,8] (fun n i=> ∃k m:Nat,k<=l.length/\i= .int .i64 k/\n= .int .i64 m/\m=nw (l.take k)) (fun _ i=>l.length-(intOf i).toNat)
 case atStart=>exact⟨0,0,by omega,rfl,rfl,by simp[nw]⟩
 case round=>
  obtain⟨k,m,hk,rfl,rfl,hm⟩:=hrel;by_cases hlt:k<l.length
  ·obtain⟨b,off,rfl,_,hc⟩:=ints_at HR.out rfl k hlt;have hck:=hc k hlt;have hb:=kU (dC HS.out k hlt);have hm2:=sK l k (fun j _ hj=>dC HS.out j hj) hlt;have HN:=OI (jZ l k hlt);rw[<-al l k 0 hlt]at HN;rw[<-hm]at hm2;have HM:=OI hm;obtain⟨x,hx⟩:=QG hb.1;have hx2:x<=31:=by omega
   rw[hx]at hck hm2 HN;simp only[Pd]at hm2 HN;have ho:=We m x hm2 hx2
   have hp:(2:Int)^x<=2147483648:=by
    have:(2:Nat)^x<=2^31:=Pz (by decide) hx2;rw[show (2:Int)^x=((2^x:Nat):Int) by simp];omega
   have hp0:(0:Int)<=(2:Int)^x:=by
    rw[show (2:Int)^x=((2^x:Nat):Int) by simp];omega
   try clear hc hb hm hx
   go_wp2
   go_round
   case rel=>exact⟨k+1,m+2^x,by omega,by go_num,by first|rfl|go_num,by rw[HN.out,HM.out]⟩
   case measure=>simp[intOf];omega
  obtain rfl:k=l.length:=by omega
  have HM:=OI hm;try clear hm
  go_wp2
  go_ret
  rw[HM.out,Ob];exact⟨rfl,rfl⟩
def En(w:World)(b off:Nat)(ps:List (Nat×Nat)):Prop:=
 ∀k (h:k<ps.length),w.cell? ⟨b,off+k*2,none⟩=some (.int .i64 (ps[k].1:Nat))/\w.cell? ⟨b,off+k*2+1,none⟩=some (.int .i64 (ps[k].2:Nat))
structure tU(w:World)(g:Nat)(bs:List UInt8):Prop where
 intro::
 ex: ∃A c,cU w g 86 #[.slice A bs.length c, .nilIface]/\bs.length<=c/\c<=maxLen/\c0 w w.heap.size 1 A bs.length (bv bs)/\(∀b off,A=some ⟨b,off,none⟩->b≠g/\g<=b+1)
def my{a w:World}{row:Option Nat}(h:a.grownBy w row)(n:Nat):a.grownBy (w.drewN n) row:=⟨h.os,h.tape,h.output,h.size,h.block⟩
def ce{a w:World}{row:Option Nat}(h:a.grownBy w row)(o:Obj):a.grownBy (w.alloc o) row:=
 ⟨h.os,h.tape,h.output,O3 h.size (by simp),fun i c b=>(Pj w o i (PX c h.size)).trans (h.block i c b)⟩
def aZ{a w:World}{g:Nat}(h:a.grownBy w (some g)){p:Addr}(hp:p.block=g\/a.heap.size<=p.block)(u:Value):a.grownBy (w.setCell p u) (some g):=
 ⟨h.os,h.tape,h.output,by simpa[World.setCell]using h.size,fun i c b=>(SK w p u i (by
  rintro rfl;rcases hp with hp|hp
  ·exact b (by rw[hp])
  omega)).trans (h.block i c b)⟩
def fV{a w w':World}{row:Option Nat}(h:a.grownBy w row)(b:Below w.heap.size w w'):a.grownBy w' row:=
 ⟨b.os.trans h.os,b.tape.trans h.tape,b.output.trans h.output,O3 h.size b.size,fun i c d=>(b.block i (PX c h.size)).trans (h.block i c d)⟩
def sW{w:World}{base size n:Nat}{e:TypeId}{A:Option Addr}{c:Nat}{xs:List Value}(h:w.ownsRow base e size (.slice A n c) n xs):n<=c/\(∀b off sp,A=some ⟨b,off,sp⟩->base<=b):=by
 rcases h.2 with⟨a,_⟩|⟨g,d,f,a,i,_,j,_⟩
 ·cases a;exact⟨OO _,fun b off sp h=>by cases h⟩
 cases a;exact⟨j,fun b off sp h=>by cases h;exact i⟩
def yF{w:World}{base size n:Nat}{e:TypeId}{A:Option Addr}{c:Nat}{xs:List Value}(h:w.ownsRow base e size (.slice A n c) n xs):c<=maxLen:=by
 rcases h.2 with⟨a,_⟩|⟨g,b,d,a,i,_,j,f,_⟩
 ·cases a;unfold maxLen;omega
 cases a;exact f
def EZ{w q W i:World}{g:Nat}{h a:Nat}{d:Option Addr}{v:Value}{xs:List UInt8}(c:cU W g 86 #[v, .nilIface])(s:i.ownsRow W.heap.size 5 1 (.slice d h a) h (bv xs))(A:xs.length=h)
 (o:a<=maxLen)(r:Below W.heap.size W i)(x:w.grownBy q (some g))(y:Below q.heap.size q W):
 tU ((i.setCell ⟨g,0,none⟩ (.slice d h a)).setCell ⟨g,1,none⟩ .nilIface) g xs/\w.grownBy ((i.setCell ⟨g,0,none⟩ (.slice d h a)).setCell ⟨g,1,none⟩ .nilIface) (some g):=by
 subst A;have m:=sW s;have n:=((c.below r c.lt).put 0 (.slice d xs.length a)).put 1 .nilIface;refine⟨⟨d,a,?_,m.1,o,?_,?_⟩,aZ (aZ (fV (fV x y) r) (.inl rfl) _) (.inl rfl) _⟩
 ·simpa using n
 ·have t:=c0.of_own s
  have f: ∀b off,d=some ⟨b,off,none⟩->b≠g:=fun b off e=>by
   have:=m.2 b off _ e;have:=c.lt;omega
  refine⟨t.1,fun B=> ?_⟩;obtain⟨b,off,e,p,z⟩:=t.2 B;refine⟨b,off,e,by simpa[World.setCell]using p,fun j u C=> ?_⟩;rw[QL _ _ _ _ (fun k=>f b off e (by injection k with l;exact l.symm)),QL _ _ _ _ (fun k=>f b off e (by injection k with l;exact l.symm))];exact z j u C
 intro b off e;have:=m.2 b off _ e;have:=c.lt;omega
def Gc(ps:List (Nat×Nat))(h: ∀p∈ps,p.2<=8):(ps.flatMap fun p=>b8 p.2 p.1).length<=8*ps.length:=by
 induction ps with
 |nil=>simp
 | cons p ps b=>
   have c:=h p (by simp);have d:=b (fun q a=>h q (by simp[a]));simp only[Q8,ON,aU,OU];omega
def jj(g:Nat)(bs:List UInt8)(b off c:Nat)(ps:List (Nat×Nat))(w:World)(hw:tU w g bs)(hb:b<w.heap.size)(hbg:b≠g)(hp:En w b off ps)(hlen:ps.length<=8)(hbl:bs.length<=100000)
 (hn: ∀p∈ps,p.1<256^p.2/\p.1<9223372036854775808/\(p.2=1\/p.2=2\/p.2=4\/p.2=8)):
 Calls prog 24 #[.pointer (some ⟨g,0,none⟩), .slice (some ⟨b,off,none⟩) ps.length c] w fun e w'=>e= .returned (.tuple #[])/\tU w' g (bs++ps.flatMap fun p=>b8 p.2 p.1)/\w.grownBy w' (some g):=by
 go_enter func24,ntmps24
 go_wp2
 go_loopw [8] (fun i wr=> ∃k:Nat,k<=ps.length/\i= .int .i64 k/\tU wr g (bs++(ps.take k).flatMap fun p=>b8 p.2 p.1)/\w.grownBy wr (some g)) (fun i _=>ps.length-(intOf i).toNat)
 case atStart=>exact⟨0,by omega,rfl,by simpa using hw,PL _ _⟩
 case round=>
  obtain⟨k,hk,rfl,hW,hG⟩:=hrel;by_cases hlt:k<ps.length
  ·obtain⟨c1,c2⟩:=hp k hlt;have hne:some b≠some g:=by simpa using hbg
   have e0:wr.heap[b]? =w.heap[b]? :=hG.block b hb hne;have c1:=(QW (w:=w) (w':=wr) (a:=⟨b,off+k*2,none⟩) e0).trans c1;have c2:=(QW (w:=w) (w':=wr) (a:=⟨b,off+k*2+1,none⟩) e0).trans c2;obtain⟨A,cp,hWh,hcp,hcm,hR,hA⟩:=hW.ex;obtain⟨d1,d2⟩:=hWh.c2;have dz1:=hWh.frozen 0;have dz2:=hWh.frozen 1;obtain⟨h1,h2,h3⟩:=hn ps[k] (PV _);have hgl:g<wr.heap.size:=hWh.lt;have HG:=OI hG;have HR:=OI hR;have HA:=OI hA;have hsz:=hG.size
   have hsl:(bs++(ps.take k).flatMap fun p=>b8 p.2 p.1).length<=100064:=by
    have:=Gc (ps.take k) (fun p hp=>by have:=(hn p (Ph hp)).2.2;omega);rw[ON];simp only[OZ]at this;omega
   generalize he:ps[k]=pk at*;have HE:=OI he;obtain⟨m,wd⟩:=pk;generalize hj:bs++(ps.take k).flatMap (fun p=>b8 p.2 p.1)=sj at*;have HJ:=OI hj;try clear hp hn he hj hG hW hR hA e0 hw
   simp only at c1 c2 h1 h2 h3
   go_wp2
   have hWh':=OI ((hWh.alloc (.cells #[.int .i64 m, .int .i64 wd] 88)).drew);try clear hWh
   have hm64:IntKind.u64.wrap (m:Int)=(m:Int):=Tj _ (by omega)
   go_region_law (first|(go_simp;go_at_call 66;refine(Bi A sj.length cp sj m wd _ rfl ?_ (by omega) (by omega) h3 h1 _ rfl).mono ?_;(focus (exact(HR.out.alloc (OO _) _).wider (by simp)));rintro e w2 ⟨v2,rfl,ho2,hb2⟩;obtain⟨A2,cp2,rfl,hr2⟩:=aj ho2;have x1:=hH hWh'.out.c2.1 hb2;have x2:=hH hWh'.out.c2.2 hb2;have x3:=(hb2.frozen (p:=⟨g,0,none⟩) (by simp;omega)).trans (hWh'.out.frozen 0);have x4:=(hb2.frozen (p:=⟨g,1,none⟩) (by simp;omega)).trans (hWh'.out.frozen 1);have hc2:cp2<=maxLen:=yF ho2;have HO2:=OI ho2;have HB2:=OI hb2;clear ho2 hb2 hr2))
   all_goals
    have KN:=OI (EZ hWh'.out HO2.out (by simp[aU]) hc2 HB2.out HG.out (((Oy _ wr).alloc (OO _) _).drew))
    go_wp2
    go_roundw
    case rel=>
     refine⟨k+1,by omega,by go_num,?_,KN.out.2⟩;rw[PG hlt,QC, <-O1,HJ.out,HE.out];simpa using KN.out.1
    case measure=>simp[intOf];omega
  obtain rfl:k=ps.length:=by omega
  rw[Ob]at hW;have HW:=OI hW;have HG:=OI hG;try clear hW hG
  go_wp2
  go_end0
  exact⟨rfl,HW.out,HG.out⟩
end
section
def zb(s:List UInt8):Lib.strCells ⟨s.toArray⟩=bv s:=by simp[Lib.strCells,bv]
def Jn(A:Option Addr)(l c:Nat)(bs s:List UInt8)(w:World)(hbs:bs.length=l)(hr:c0 w w.heap.size 1 A l (bv bs))(hl:l<=140737488000000)(hs:s.length<=65535):
 Calls prog 67 #[.slice A l c, .string ⟨s.toArray⟩] w fun e w'=> ∃v,e= .returned (.tuple #[v, .nilIface])/\w'.ownsRow w.heap.size 5 1 v (l+2+s.length) (bv (bs++(b8 2 s.length++s)))/\Below w.heap.size w w':=by
 obtain⟨i0,hi0,hz0,hz1,hz2⟩:=TB Tryz.infoU8;have HR:=OI hr;have HN:=OI hbs;try clear hr hbs
 go_enter func67,ntmps67
 go_wp2_with fail
 refine(Bi A l c bs s.length 2 _ HN.out HR.out (by omega) (by omega) (by omega) (by omega) 2 rfl).mono ?_;rintro e w1 ⟨v1,rfl,ho1,hb1⟩;have HO:=OI ho1;have HB:=OI hb1;have hsz:(ByteArray.mk s.toArray).size=s.length:=lX s;have HS:=OI hsz;try clear ho1 hb1 hsz
 go_wp2_with (at_builtin;refine Lib.wpList_append_own_string _ rfl (.tmp 25) (.tmp 26) _ _ rfl w.heap.size 5 i0 Tryz.underlying45 Tryz.underlying9 hi0 hz0 hz1 hz2 v1 (l+2) _ rfl HO.out ⟨s.toArray⟩ rfl (by rw[HS.out];unfold maxLen;omega) (by rw[HS.out];omega) HB.out.size ?_;intro v2 w2 ho2 hg2 _)
 rw[HS.out,zb, <-xI,O1]at ho2;have hB2:=vM HB.out HB.out.size hg2 HO.out;have HO2:=OI ho2;have HB2:=OI hB2;try clear ho2 hg2 hB2
 go_wp2_with fail
 go_ret2
 exact⟨_,rfl,HO2.out,HB2.out⟩
def Fj(g:Nat)(bs s:List UInt8)(w:World)(hw:tU w g bs)(hbl:bs.length<=100000)(hs:s.length<=65535):
 Calls prog 28 #[.pointer (some ⟨g,0,none⟩), .string ⟨s.toArray⟩] w fun e w'=>e= .returned (.tuple #[])/\tU w' g (bs++(b8 2 s.length++s))/\w.grownBy w' (some g):=by
 obtain⟨A,cp,hWh,hcp,hcm,hR,hA⟩:=hw.ex;obtain⟨d1,d2⟩:=hWh.c2;have hWh':=OI hWh;have HR:=OI hR;try clear hw hWh hR hA
 go_enter func28,ntmps28
 go_wp2_with fail
 refine(Jn A bs.length cp bs s _ rfl HR.out (by omega) hs).mono ?_;rintro e w2 ⟨v2,rfl,ho2,hb2⟩;obtain⟨A2,cp2,rfl,_⟩:=aj ho2;have hWb:=hWh'.out.below hb2 hWh'.out.lt;obtain⟨x1,x2⟩:=hWb.c2;have x3:=hWb.frozen 0;have x4:=hWb.frozen 1;have KN:=OI (EZ hWh'.out ho2 (by simp[aU];omega) (yF ho2) hb2 (PL w (some g)) (Oy _ w));try clear hWb ho2 hb2
 go_wp2_with fail
 go_end0
 exact⟨rfl,KN.out⟩
end
end Go.Proofs.YtfcdkaolcdglmaaGreatDoor
