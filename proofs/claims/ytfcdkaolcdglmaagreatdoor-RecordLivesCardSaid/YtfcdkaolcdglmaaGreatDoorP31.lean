/- The reader's inst. -/
import Derived.Test.YtfcdkaolcdglmaaGreatDoorP30
import Derived.Deep.CutBlock
set_option linter.unusedSimpArgs false
set_option maxRecDepth 100000
set_option maxHeartbeats 4000000
set_option linter.defProp false
namespace Go.Proofs.YtfcdkaolcdglmaaGreatDoor
open Go.Proofs.Tryz
open Go.RowKit
section
def L9{P:Program}{f e d:TypeId}(m:P.underlying f=some (.slice e))(j:P.underlying e=some (.int .u8))(h:P.underlying d=some .string){W:World}{b off n c at_ k:Nat}{a:List UInt8}(t:c0 W W.heap.size 1 (some ⟨b,off,none⟩) n (bv a))(w:a.length=n)(v:at_+k<=n):
 (convert f d (.slice (some ⟨b,off+at_,none⟩) k c)).run P W= .ok (.string ⟨(cut a at_ k).toArray⟩) W:=by
 by_cases q:k=0
 ·subst q;have:=Rn (P:=P) W f e m j b (off+at_) 0 c [] rfl (fun i g=>by omega) d h;rw[this];simp[strOfNums,cut]
 obtain⟨u,o,p,_,s⟩:=t.2 (by omega);cases p;have l:=jN a at_ k (by omega)
 have:=Rn (P:=P) W f e m j b (off+at_) k c ((cut a at_ k).map fun x=>(x.toNat:Int)) (by simp[l]) (fun i g=>by
  rw[QY,s (at_+i) _ (zQ a _ (by omega))];have r:=F6 a at_ k i (by omega) g
  simp[List.getD,l,g,r]) d h
 rw[this]
 congr 3
 simp[strOfNums,Q1,Function.comp_def]
def xU(b off n c:Nat)(bs:List UInt8)(at_ k:Nat)(w:World)(hn:bs.length=n)(hr:c0 w w.heap.size 1 (some ⟨b,off,none⟩) n (bv bs))(hl:n<=140737488351232)(hc:n<=c)(hk:lE (cut bs at_ 2)=k)(hf:at_+2+k<=n):
 Calls prog 120 #[.slice (some ⟨b,off,none⟩) n c, .int .i64 at_] w fun e w'=>e= .returned (.tuple #[.string ⟨(cut bs (at_+2) k).toArray⟩, .int .i64 ((at_+2+k:Nat):Int), .nilIface])/\w=w':=by
 have HN:=OI hn;have HR:=OI hr;have HK:=OI hk;have hcv:=fun c'=>L9 (P:=prog) (c:=c') Tryz.underlying45 Tryz.underlying5 Tryz.underlying9 hr hn (show at_+2+k<=n from hf);have e1:(at_:Int)+2+k=((at_+2+k:Nat):Int):=by omega
 have E1:=OI e1;try clear e1
 by_cases hca:c=at_+2
 ·obtain rfl:k=0:=by omega
  have hc0:=fun c'=>(Rn (P:=prog) w 45 5 Tryz.underlying45 Tryz.underlying5 b off 0 c' [] rfl (fun i hi=>by omega) 9 Tryz.underlying9);have h00:=OI (show (⟨(cut bs (at_+2) 0).toArray⟩:ByteArray)=strOfNums [] by simp[cut,strOfNums]);subst hca;try clear hn hr hk hcv
  go_enter func120,ntmps120
  go_wp2_with (go_at_call 68;refine(li _ n _ bs at_ 2 _ HN.out HR.out hl (by omega) (by omega) _ _ rfl rfl).mono ?_;rintro e w' ⟨rfl,rfl⟩;rw[HK.out])
  go_ret3
  rw[h00.out, <-E1.out];exact⟨by simp,rfl⟩
 clear hn hr hk
 go_enter func120,ntmps120
 go_wp2_with (go_at_call 68;refine(li _ n c bs at_ 2 _ HN.out HR.out hl (by omega) (by omega) _ _ rfl rfl).mono ?_;rintro e w' ⟨rfl,rfl⟩;rw[HK.out])
 go_ret3
 rw[<-E1.out];exact⟨rfl,rfl⟩
def z8(A:Option Addr)(n c:Nat)(bs:List UInt8)(at_:Nat)(w:World)(hn:bs.length=n)(hr:c0 w w.heap.size 1 A n (bv bs))(hl:n<=140737488351232)(ha:at_<=n)(hf: ¬(at_+2<=n/\at_+2+lE (cut bs at_ 2)<=n))(aF:Addr)(hS:p' w 0 aF):
 Calls prog 120 #[.slice A n c, .int .i64 at_] w fun e w'=> ∃t v,e= .returned (.tuple #[.string ⟨#[]⟩, .int .i64 0, .iface t v])/\Below w.heap.size w w':=by
 by_cases h2:at_+2<=n
 ·have hk:n<at_+2+lE (cut bs at_ 2):=by omega
  have hlt:=o0 (cut bs at_ 2);rw[jN bs at_ 2 (by omega)]at hlt;have cF:=hS.1;have HR:=OI hr;have HN:=OI hn;generalize hx:lE (cut bs at_ 2)=x at*;have HX:=OI hx;try clear hr hn hf hS hx
  go_enter func120,ntmps120
  go_wp2_with (first|(go_at_call 68;refine(li _ n c bs at_ 2 _ HN.out HR.out hl (by omega) (by omega) _ _ rfl rfl).mono ?_;rintro e w' ⟨rfl,rfl⟩;rw[HX.out])|(go_at_call 29;refine(eE _ _ _ _).mono ?_;rintro e w' ⟨rfl,rfl⟩))
  go_ret3
  exact⟨_,_,rfl,(Oy _ _).alloc (OO _) _⟩
 have HS:=OI hS;try clear hr hn hf hS
 go_enter func120,ntmps120
 go_wp2_with fail
 refine(Bh A n c at_ 2 _ hl (by omega) ha (by omega) _ _ rfl rfl aF HS.out).mono ?_;rintro e w1 ⟨t1,v1,rfl,hb1⟩;have HB:=OI hb1;try clear hb1
 go_wp2_with fail
 refine(vV _ _ _ _).mono ?_;rintro e w2 ⟨rfl,rfl⟩
 go_wp2_with fail
 go_ret3
 exact⟨_,_,rfl,HB.out.alloc HB.out.size _⟩
def pG(b:List UInt8)(at_:Nat)(a:Bool)(s:List UInt8)(at':Nat)(bad':Bool):Prop:=
 ((Uo b at_=some (s,at')/\bad'=a)\/(Uo b at_=none/\bad'=true))/\s.length<=9223372036854775807
def Ka(w:World)(g:Nat)(A:Option Addr)(n c:Nat)(f:List UInt8)(at_:Nat)(d:Bool)(e:Ending)(w':World):Prop:=
 ∃(s:List UInt8) (b:Nat) (a:Bool),e= .returned (.string ⟨s.toArray⟩)/\Fm w' g A n c f b a/\w.grownBy w' (some g)/\pG f at_ d s b a
def GT(g:Nat)(A:Option Addr)(n c:Nat)(bs:List UInt8)(at_:Nat)(bad:Bool)(w:World)(h:Fm w g A n c bs at_ bad)(aF:Addr)(hS:p' w 0 aF):
 Calls prog 71 #[.pointer (some ⟨g,0,none⟩)] w (Ka w g A n c bs at_ bad):=by
 obtain⟨c1,c2,c3⟩:=h.cells.c3;have f1:=h.cells.frozen 1;have f2:=h.cells.frozen 2;have HR:=OI h;have hle:=h.ZS;have hfew:=h.Z6;have hgl:=h.cells.lt;have HS:=OI hS;by_cases hf:at_+2<=n/\at_+2+lE (cut bs at_ 2)<=n
 ·obtain⟨b,off,e,_⟩:=h.reads.2 (by omega);subst e;have k1:=OI (show pG bs at_ bad (cut bs (at_+2) (lE (cut bs at_ 2))) (at_+2+lE (cut bs at_ 2)) bad from⟨.inl ⟨by rw[Uo,h.len,OL hf],rfl⟩,by rw[jN _ _ _ (by rw[h.len];exact hf.2)];omega⟩);have HX:=OI (fun W hr=>xU b off n c bs at_ _ W h.len hr hfew h.cap rfl hf.2);generalize cut bs (at_+2) (lE (cut bs at_ 2))=s at*;have hle2:=hf.2;generalize at_+2+lE (cut bs at_ 2)=a2 at*;try clear h hS hf
  have k2:=OI (aZ (p:=⟨g,1,none⟩) (PL w (some g)) (.inl rfl) (.int .i64 (a2:Int)));have k3:=OI (HR.out.turned k2.out (at':=a2) (bad':=bad) (by simpa using HR.out.cells.put 1 (.int .i64 (a2:Int))) hle2)
  go_enter func71,ntmps71
  go_wp2
  go_quiet ((go_at_call 120;exact ax (HX.out _ (HR.out.reads.drewN _))))
  go_wp2
  go_ret
  exact⟨s,a2,bad,rfl,k3.out.below (below_drewN (Oy _ _) _),my k2.out _,k1.out⟩
 have k1:=OI (show pG bs at_ bad [] at_ true from⟨.inr ⟨by rw[Uo,h.len,OK hf],rfl⟩,by simp⟩);have HF:=OI hf;try clear h hS hf
 go_enter func71,ntmps71
 go_wp2
 go_region_held3 (fun w'=>w'.cell? ⟨g,0,none⟩=some (.slice A n c)/\w'.cell? ⟨g,1,none⟩=some (.int .i64 at_)) (first|(go_keep;done))
  (first|(go_at_call 120;refine(z8 A n c bs at_ _ HR.out.len HR.out.reads.drew hfew hle HF.out aF (HS.out.below ((Oy _ w).drew))).mono ?_;rintro e w2 ⟨t2,v2,rfl,hb2⟩;have R2:=HR.out.below ((Oy _ w).drew.trans hb2);obtain⟨d1,d2,d3⟩:=R2.cells.c3;have d4:=R2.cells.frozen 2;have HR2:=OI R2;have HB2:=OI hb2;clear R2 hb2))
 have k2:=OI (aZ (p:=⟨g,2,none⟩) (fV (j4 (PL w (some g))) HB2.out) (.inl rfl) (.bool true));have k3:=OI (HR2.out.turned (aZ (p:=⟨g,2,none⟩) (PL w2 (some g)) (.inl rfl) (.bool true)) (at':=at_) (bad':=true) (by simpa using HR2.out.cells.put 2 (.bool true)) hle)
 go_wp2
 go_ret
 exact⟨[],at_,true,rfl,k3.out,k2.out,k1.out⟩
def LQ(w:World)(g:Nat)(A:Option Addr)(n c:Nat)(f:List UInt8)(at_:Nat)(d:Bool)(e:Ending)(w':World):Prop:=
 ∃(m b:Nat) (a:Bool) (v:Value),e= .returned v/\Fm w' g A n c f b a/\w.grownBy w' (some g)/\w'.ownsRow w.heap.size 3 1 v (i' m).length (iv (i' m))/\mY f at_ 4 d m b a
def qO(g:Nat)(A:Option Addr)(n c:Nat)(bs:List UInt8)(at_:Nat)(bad:Bool)(w:World)(h:Fm w g A n c bs at_ bad)(aF:Addr)(hS:p' w 0 aF)(hT: ∀w',w.grownBy w' (some g)->sy w'):
 Calls prog 69 #[.pointer (some ⟨g,0,none⟩)] w (LQ w g A n c bs at_ bad):=by
 have HR:=OI h;have HS:=OI hS;have HT:=OI hT;try clear h hS hT
 go_enter func69,ntmps69
 go_wp2_with fail
 refine(fI g A n c bs at_ 4 bad _ HR.out (by omega) 4 rfl aF HS.out).mono ?_;rintro e w1 ⟨m,at',bad',rfl,h1,h2,h3⟩;have hm:m<4294967296:=h3.2.1;have H1:=OI h1;have H2:=OI h2;have H3:=OI h3;have e1:IntKind.u32.wrap (m:Int)=(m:Int):=IntWalk.u32_in _ (by omega);try clear h1 h2 h3
 go_wp2_with fail
 refine(J5 m hm _ (HT.out _ H2.out)).mono ?_;rintro e w2 ⟨v,rfl,ho,hb⟩;have K1:=OI (show LQ w g A n c bs at_ bad (.returned v) w2 from⟨m,at',bad',v,rfl,H1.out.below hb,fV H2.out hb,dG ho H2.out.size,H3.out⟩);try clear ho hb
 go_wp2_with fail
 go_ret
 exact K1.out
end
section
def bh(e:TypeId)(w w':World):Prop:= ∀(i:Nat)(a:Array Value)(fz:Nat×Nat),w.heap[i]? =some (Obj.cells a e fz)->w'.heap[i]? =some (Obj.cells a e fz)
def tF{w:World}{i:Nat}{o:Obj}(h:w.heap[i]? =some o):i<w.heap.size:=by
 by_cases a:i<w.heap.size
 ·exact a
 rw[Qh (by omega)]at h;cases h
def bh.trans{e:TypeId}{a b c:World}(h:bh e a b)(k:bh e b c):bh e a c:=fun i d fz f=>k i d fz (h i d fz f)
def bh.refl(e:TypeId)(w:World):bh e w w:=fun _ _ _ h=>h
def bh.of_below{e:TypeId}{w w':World}(a:Below w.heap.size w w'):bh e w w':=fun i _ _ h=>(a.block i (tF h)).trans h
def bh.of_only{e t:TypeId}{w w':World}{g:Nat}{cs:Array Value}(d:w.grownBy w' (some g))(f:cU w g t cs)(a:t≠e):bh e w w':=fun i b fz h=>by
 refine(d.block i (tF h) ?_).trans h;intro c;cases c;rw[f]at h;cases h;exact a rfl
def bh.of_row{e t:TypeId}{w w':World}{base size n:Nat}{v:Value}{xs:List Value}(g:w.grownBy w' v.ownBlock)(l:w.ownsRow base t size v n xs)(b:t≠e):bh e w w':=fun i d fz h=>by
 refine(g.block i (tF h) ?_).trans h;intro a;rcases l.2 with⟨rfl,_⟩|⟨k,c,f,rfl,_,j,_⟩
 ·simp[Value.ownBlock]at a
 simp[Value.ownBlock]at a;subst a;rw[j]at h;cases h;exact b rfl
def bh.own{e:TypeId}{w w':World}{base size n:Nat}{v:Value}{xs:List Value}(h:bh e w w')(d:w.ownsRow base e size v n xs):w'.ownsRow base e size v n xs:=by
 refine⟨d.1,?_⟩;rcases d.2 with c|⟨k,a,b,c,f,g,i⟩
 ·exact .inl c
 exact .inr ⟨k,a,b,c,f,h _ _ _ g,i⟩
def lQ{w w':World}{base size n g:Nat}{e:TypeId}{v:Value}{xs:List Value}(a:w.ownsRow base e size v n xs)(c:w.grownBy w' (some g))(d:g<base):w'.ownsRow base e size v n xs:=
 a.kept c (by
  cases f:v.ownBlock with
  |none=>exact .inl rfl
  | some k=>
    right;intro b;cases b;have:=(a.lt _ f).1
    omega)
def Lu(w:World)(base:Nat)(cs:List Value)(m:Int×List Int):Prop:= ∃v,cs=[.int .i64 m.1,v]/\w.ownsRow base 3 1 v m.2.length (iv m.2)
def pi{c:Type}{size:Nat}{R b:List Value->c->Prop}{xs:List Value}{l:List c}(h:eY size R xs l)(d: ∀cs a,a∈l->R cs a->b cs a):eY size b xs l:=⟨h.1,fun i e=>d _ _ (PV _) (h.2 i e)⟩
def jh{b:Type}(size:Nat)(R:List Value->b->Prop):eY size R [] []:=⟨by simp,fun i a=>by simp at a⟩
def vo{b:Type}{size:Nat}{R:List Value->b->Prop}{xs:List Value}{l:List b}(h:eY size R xs l){cs:List Value}{a:b}(c:cs.length=size)(f:R cs a):eY size R (xs++cs) (l++[a]):=by
 refine⟨by simp[h.1,c,P7],fun i g=> ?_⟩;by_cases e:i<l.length
 ·rw[List.getElem_append_left e];have d:(i+1)*size<=l.length*size:=Oz _ (by omega);rw[P7,Q7]at d;rw[List.drop_append_of_le_length (by rw[h.1];omega),Px (by rw[QF,h.1];omega)];exact h.2 i e
 have:i=l.length:=by simp at g;omega
 subst this;rw[<-h.1,List.drop_left];simp[<-c];exact f
structure gv(w:World)(base:Nat)(va vv vm vt:Value)(r:Rc):Prop where
 act:w.ownsRow base 3 1 va r.Z8.length (iv r.Z8)
 vars:w.ownsRow base 3 1 vv r.vars.length (iv r.vars)
 mem: ∃xs,w.ownsRow base 93 2 vm r.mem.length xs/\eY 2 (Lu w base) xs r.mem
 Z4: ∃xs,w.ownsRow base 95 2 vt r.timers.length xs/\eY 2 V5 xs r.timers
def GS{d:Type}{w:World}{base size n:Nat}{e:TypeId}{v:Value}{xs:List Value}{R:List Value->d->Prop}{l:List d}(a:w.ownsRow base e size v n xs)(f:n=l.length)(g:eY size R xs l):aV w w.heap.size size R v l:=by
 subst f;obtain⟨A,c,rfl,b⟩:=aj a;exact⟨A,c,xs,rfl,(sW a).1,O3 (sW a).1 (yF a),b,g⟩
def gv.inAt{w:World}{base:Nat}{f j g i:Value}{r:Rc}(h:gv w base f j g i r):wg w w.heap.size f j g i r:=by
 obtain⟨o,a,b⟩:=h.mem;obtain⟨p,c,d⟩:=h.Z4;refine⟨GS h.act rfl (PB _ _),GS h.vars rfl (PB _ _),GS a rfl (pi b fun n m _ k=> ?_),GS c rfl d⟩;obtain⟨v,e,l⟩:=k;exact⟨v,e,GS l rfl (PB _ _)⟩
def lO{w w':World}{base size n:Nat}{e:TypeId}{v:Value}{xs:List Value}(h:w.ownsRow base e size v n xs)(j: ∀b,base<=b->b<w.heap.size->w'.heap[b]? =w.heap[b]?):w'.ownsRow base e size v n xs:=by
 refine⟨h.1,?_⟩;rcases h.2 with d|⟨k,a,c,d,f,g,i⟩
 ·exact .inl d
 exact .inr ⟨k,a,c,d,f,(j k f (tF g)).trans g,i⟩
def gv.stay{w w':World}{base:Nat}{i l j k:Value}{r:Rc}(h:gv w base i l j k r)(a: ∀b,base<=b->b<w.heap.size->w'.heap[b]? =w.heap[b]?):gv w' base i l j k r:=by
 obtain⟨p,c,d⟩:=h.mem;obtain⟨q,f,g⟩:=h.Z4;refine⟨lO h.act a,lO h.vars a,⟨p,lO c a,pi d fun s m _ n=> ?_⟩,⟨q,lO f a,g⟩⟩;obtain⟨v,e,o⟩:=n;exact⟨v,e,lO o a⟩
def gv.lower{w:World}{base a:Nat}{i l j k:Value}{r:Rc}(h:gv w base i l j k r)(b:a<=base):gv w a i l j k r:=by
 obtain⟨p,c,d⟩:=h.mem;obtain⟨q,f,g⟩:=h.Z4;refine⟨dG h.act b,dG h.vars b,⟨p,dG c b,pi d fun s m _ n=> ?_⟩,⟨q,dG f b,g⟩⟩;obtain⟨v,e,o⟩:=n;exact⟨v,e,dG o b⟩
def nZ{P:Program}{w:World}{ops:Array Oper}{o:Oper}{a:Act}{K:Act->World->Prop}{Q:Exit->Act->World->Prop}{E:Prop}(r:o.guard=none)(s x:Operand)(t:TypeId)
 (L:o.op= .call { callee:= .builtin .append,args:= #[s,x],argTypes:= #[t,t] })
 (base:Nat)(e:TypeId)(i:TypeInfo)(z:Value)(size b:Nat)(N:P.underlying t=some (.slice e))(hi:P.info? e=some i)(S:i.zero=some z)
 (j:i.size=size)(q:i.bytes=b)(D:z.cells.size=size)(C:0<size)
 (v:Value)(n:Nat)(xs:List Value)(M:a.eval s=v)(l:w.ownsRow base e size v n xs)
 (B:Nat)(A:Option Addr)(m c:Nat)(d:List Value)(R:a.eval x= .slice A m c)(y:c0 w B size A m d)(G: ∀u∈d,u.oneCell'=true)
 (p:n+m<=maxLen)(f:(n+m)*b<=140737488355328)(g:base<=w.heap.size)
 (h: ∀k w',w'.ownsRow base e size k (n+m) (xs++d)->w.grownBy w' v.ownBlock->(k.ownBlock=v.ownBlock\/k.ownBlock=some w.heap.size)->K (a.put o.dst k) w'):
 if Region.wanted o (yielded ops a.tmps)=true then Oper.wp P o a w K Q else E:=by
 have O:Region.wanted o (yielded ops a.tmps)=true:=by simp[Region.wanted,r]
 rw[OL O];obtain⟨k,w',y,H,I,J⟩:=jJ (P:=P) w base t o.type e i z size b N hi S j q D C v n xs l B A m c d y G p f g;unfold Oper.wp execOp;simp only[L,resolve,invoke,builtin,Oc,PF,OX,R5,PE,Pv,M,R,y];exact h k w' H I J
end
section
def c5{w:World}{g:Nat}{t:TypeId}{a b c d e:Value}(h:cU w g t #[a,b,c,d,e]):w.cell? ⟨g,0,none⟩=some a/\w.cell? ⟨g,1,none⟩=some b/\w.cell? ⟨g,2,none⟩=some c/\w.cell? ⟨g,3,none⟩=some d/\w.cell? ⟨g,4,none⟩=some e:=
 ⟨h.cell 0,h.cell 1,h.cell 2,h.cell 3,h.cell 4⟩
def eH{d:Type}{b:List UInt8}{at_ c m at':Nat}{a bad':Bool}{T:Option d}{k:Nat×Nat->Option d}(h:Inv a T ((Bx b at_ c).bind k))(e:mY b at_ c a m at' bad'):Inv bad' T (k (m,at')):=
 h.go e.1
def Je{c:Type}{b:List UInt8}{at_ at':Nat}{s:List UInt8}{a bad':Bool}{T:Option c}{k:List UInt8×Nat->Option c}(h:Inv a T ((Uo b at_).bind k))(d:pG b at_ a s at' bad'):Inv bad' T (k (s,at')):=
 h.go d.1
def yQ{c:Type}{T k b:Option c}(h:Inv true T k):Inv true T b:=⟨fun a=>(by cases a),fun _=>h.2 rfl⟩
def Kb(w:World)(g:Nat)(A:Option Addr)(n c:Nat)(k:List UInt8)(T:Option Rc)(l j st:Int)(e:Ending)(w':World):Prop:=
 ∃(d i f h:Value) (r:Rc) (b:Nat) (a:Bool),e= .returned (.agg #[d,i,f,h, .bool r.over])/\Fm w' g A n c k b a/\w.grownBy w' (some g)/\gv w' w.heap.size d i f h r/\r.Z5=l/\r.born=j/\r.steps=st/\Inv a T (some r)
structure ox(w wr:World)(g I:Nat)(A:Option Addr)(n c:Nat)(bs:List UInt8)(at_:Nat)(bad:Bool)(va vv vm vt:Value)(ov:Bool):Prop where
 rd:Fm wr g A n c bs at_ bad
 only:w.grownBy wr (some g)
 ins:cU wr I 39 #[va,vv,vm,vt, .bool ov]
 two: ∃cs,cU wr (I-1) 39 cs/\cs.size=5
 hI:I=w.heap.size+1
 hg:g<w.heap.size
 ZN: ∀b off,A=some ⟨b,off,none⟩->b<w.heap.size
def ox.num{w o f:World}{g I:Nat}{A:Option Addr}{n c:Nat}{b:List UInt8}{at_ at':Nat}{a bad':Bool}{j m k l:Value}{i:Bool}(h:ox w o g I A n c b at_ a j m k l i)(t:Fm f g A n c b at' bad')(d:o.grownBy f (some g)):ox w f g I A n c b at' bad' j m k l i:=by
 have s:=h.hI;have e:=h.hg;obtain⟨p,q,r⟩:=h.two;exact⟨t,h.only.trans d,h.ins.grown d (by simp;omega),⟨p,q.grown d (by simp;omega),r⟩,s,e,h.ZN⟩
def ox.alloc{w b:World}{g I:Nat}{A:Option Addr}{n c:Nat}{d:List UInt8}{at_:Nat}{a:Bool}{f k i j:Value}{e:Bool}(h:ox w b g I A n c d at_ a f k i j e)(o:Obj):ox w (b.alloc o) g I A n c d at_ a f k i j e:=by
 obtain⟨l,m,p⟩:=h.two;exact⟨h.rd.below ((Oy _ b).alloc (OO _) o),ce h.only o,h.ins.alloc o,⟨l,m.alloc o,p⟩,h.hI,h.hg,h.ZN⟩
def ox.drew{w b:World}{g I:Nat}{A:Option Addr}{n c:Nat}{d:List UInt8}{at_:Nat}{a:Bool}{f k i j:Value}{e:Bool}(h:ox w b g I A n c d at_ a f k i j e):ox w b.drew g I A n c d at_ a f k i j e:=
 ⟨h.rd.below (Oy _ b).drew,j4 h.only,h.ins,h.two,h.hI,h.hg,h.ZN⟩
def ox.bel{w x v:World}{g I:Nat}{A:Option Addr}{n c:Nat}{m:List UInt8}{at_:Nat}{d:Bool}{q t r s:Value}{o:Bool}(h:ox w x g I A n c m at_ d q t r s o)(a:Below (w.heap.size+2) x v):ox w v g I A n c m at_ d q t r s o:=by
 have C:=h.hI;have f:=h.hg;have G:=h.ins.lt;obtain⟨y,z,B⟩:=h.two;refine⟨⟨h.rd.cells.below a (by omega),h.rd.len,?_,h.rd.ne,h.rd.ZS,h.rd.cap,h.rd.Z6⟩,?_,h.ins.below a (by omega),⟨y,z.below a (by omega),B⟩,C,f,h.ZN⟩
 ·refine⟨h.rd.reads.1,fun H=> ?_⟩;obtain⟨b,off,e,k,D⟩:=h.rd.reads.2 H;have:=h.ZN b off e;exact⟨b,off,e,PX k a.size,fun j u J=>(a.cell (p:=⟨b,off+j,none⟩) (by show b<_;omega)).trans (D j u J)⟩
 exact⟨a.os.trans h.only.os,a.tape.trans h.only.tape,a.output.trans h.only.output,O3 h.only.size a.size,fun i E l=>(a.block i (by omega)).trans (h.only.block i E l)⟩
def ox.row{w f q:World}{g I:Nat}{A:Option Addr}{n c:Nat}{i:List UInt8}{at_:Nat}{a:Bool}{l p m o:Value}{j:Bool}(h:ox w f g I A n c i at_ a l p m o j){base size k:Nat}{e:TypeId}{v:Value}{xs:List Value}(u:f.ownsRow base e size v k xs)(y:w.heap.size+2<=base)(d:f.grownBy q v.ownBlock):ox w q g I A n c i at_ a l p m o j:=by
 have t:=h.ins.lt;have x:=h.hI
 exact h.bel ⟨d.os,d.tape,d.output,d.size,fun b s=>d.block b (by omega) (fun r=>by
  have:=(u.lt b r.symm).1
  omega)⟩
def ox.far{w b:World}{g I:Nat}{A:Option Addr}{n c:Nat}{d:List UInt8}{at_:Nat}{a:Bool}{f k i j:Value}{e:Bool}(h:ox w b g I A n c d at_ a f k i j e){p:Addr}(l:w.heap.size+2<=p.block)(u:Value):ox w (b.setCell p u) g I A n c d at_ a f k i j e:=
 h.bel ((Oy _ b).setCell l u)
def ox.put{w z:World}{g I:Nat}{A:Option Addr}{n c:Nat}{r:List UInt8}{at_:Nat}{a:Bool}{t y v x:Value}{s:Bool}(h:ox w z g I A n c r at_ a t y v x s)(i:Nat)(u f m k l:Value)(d:Bool)(H:(#[t,y,v,x, .bool s]:Array Value).setIfInBounds i u= #[f,m,k,l, .bool d]):ox w (z.setCell ⟨I,i,none⟩ u) g I A n c r at_ a f m k l d:=by
 have G:=h.hI;have p:=h.hg;obtain⟨B,D,E⟩:=h.two;refine⟨⟨h.rd.cells.far (by simp;omega) u,h.rd.len,?_,h.rd.ne,h.rd.ZS,h.rd.cap,h.rd.Z6⟩,aZ h.only (.inr (by simp;omega)) u,?_,⟨B,D.far (by simp;omega) u,E⟩,G,p,h.ZN⟩
 ·refine⟨h.rd.reads.1,fun J=> ?_⟩;obtain⟨b,off,e,q,o⟩:=h.rd.reads.2 J;have:=h.ZN b off e;refine⟨b,off,e,by simpa[World.setCell]using q,fun j L K=> ?_⟩;rw[QL _ _ _ _ (fun C=>by injection C with M;omega)];exact o j L K
 have:=h.ins.put i u;rw[H]at this;exact this
def Eo{w:World}{base size n I i:Nat}{e:TypeId}{v u:Value}{xs:List Value}(b:w.ownsRow base e size v n xs)(a:I<base):(w.setCell ⟨I,i,none⟩ u).ownsRow base e size v n xs:=
 lQ (g:=I) b (aZ (PL w _) (.inl rfl) u) a
structure V1(w wr:World)(g:Nat)(A:Option Addr)(n c:Nat)(bs:List UInt8)(at_:Nat)(bad:Bool)(va vv:Value)(ov:Bool)(ac vs:List Int)(base1:Nat):Prop where
 mid:ox w wr g (w.heap.size+1) A n c bs at_ bad va vv (.slice none 0 0) (.slice none 0 0) ov
 act:wr.ownsRow (w.heap.size+2) 3 1 va ac.length (iv ac)
 lo: ∀k,va.ownBlock=some k->k<base1
 vars:wr.ownsRow base1 3 1 vv vs.length (iv vs)
 hb:w.heap.size+2<=base1
 hs:base1<=wr.heap.size
def L1(w W:World)(g:Nat)(A:Option Addr)(n c:Nat)(h:List UInt8)(T:Option Rc)(k j st:Int)(l:Value)(i:Bool)(f:List Int)(b:Nat):Prop:=
 ∃d a e m,V1 w W g A n c h d a l m i f e b/\e.length<=255/\Inv a T (p8 h k j st i f e d)
def NI{w w':World}{base a size n b l:Nat}{e f:TypeId}{c v:Value}{xs d:List Value}(h:w.ownsRow base e size c n xs)(lo: ∀k,c.ownBlock=some k->k<a)(i:w.ownsRow a f b v l d)(g:w.grownBy w' v.ownBlock):w'.ownsRow base e size c n xs:=
 h.kept g (by
  cases j:c.ownBlock with
  |none=>exact .inl rfl
  | some k=>
    right;intro e;have m:=lo k j;have o:=(i.lt k e.symm).1
    omega)
def gv.only{w w':World}{base g:Nat}{a e c d:Value}{r:Rc}(h:gv w base a e c d r)(i:w.grownBy w' (some g))(k:g<base):gv w' base a e c d r:=
 h.stay fun b f j=>i.block b j (by simp;omega)
def gv.alloc{w:World}{base:Nat}{a e c d:Value}{r:Rc}(h:gv w base a e c d r)(o:Obj):gv (w.alloc o) base a e c d r:=
 h.stay fun b _ f=>Pj w o b f
def gv.put{w:World}{base I i:Nat}{a e c d u:Value}{r:Rc}(h:gv w base a e c d r)(g:I<base):gv (w.setCell ⟨I,i,none⟩ u) base a e c d r:=
 h.stay fun b f _=>SK w ⟨I,i,none⟩ u b (by simp;omega)
def gn{w w':World}{base:Nat}(a:bh 3 w w')(cs:List Value)(m:Int×List Int)(h:Lu w base cs m):Lu w' base cs m:=by
 obtain⟨v,e,b⟩:=h;exact⟨v,e,a.own b⟩
def gv.setX{w:World}{base X i:Nat}{n q a o u:Value}{r:Rc}{cs:Array Value}(h:gv w base n q a o r)(l:cU w X 93 cs)(t: ∀k,a.ownBlock=some k->k≠X):gv (w.setCell ⟨X,i,none⟩ u) base n q a o r:=by
 have b:=aZ (p:=⟨X,i,none⟩) (PL w (some X)) (.inl rfl) u;have j:bh 3 w (w.setCell ⟨X,i,none⟩ u):=bh.of_only b l (by decide);have x:bh 95 w (w.setCell ⟨X,i,none⟩ u):=bh.of_only b l (by decide);obtain⟨y,c,d⟩:=h.mem;obtain⟨z,f,g⟩:=h.Z4;refine⟨j.own h.act,j.own h.vars,⟨y,c.kept b ?_,pi d fun cs m _ s=>gn j cs m s⟩,⟨z,x.own f,g⟩⟩;cases v:a.ownBlock with
 |none=>exact .inl rfl
 | some k=>
   right;intro e;cases e;exact t _ v rfl
def gv.setT{w:World}{base X i:Nat}{n q o a u:Value}{r:Rc}{cs:Array Value}(h:gv w base n q o a r)(l:cU w X 95 cs)(t: ∀k,a.ownBlock=some k->k≠X):gv (w.setCell ⟨X,i,none⟩ u) base n q o a r:=by
 have b:=aZ (p:=⟨X,i,none⟩) (PL w (some X)) (.inl rfl) u;have j:bh 3 w (w.setCell ⟨X,i,none⟩ u):=bh.of_only b l (by decide);have x:bh 93 w (w.setCell ⟨X,i,none⟩ u):=bh.of_only b l (by decide);obtain⟨y,c,d⟩:=h.mem;obtain⟨z,f,g⟩:=h.Z4;refine⟨j.own h.act,j.own h.vars,⟨y,x.own c,pi d fun cs m _ s=>gn j cs m s⟩,⟨z,f.kept b ?_,g⟩⟩;cases v:a.ownBlock with
 |none=>exact .inl rfl
 | some k=>
   right;intro e;cases e;exact t _ v rfl
def gv.moreM{w w':World}{base p:Nat}{s u i t b:Value}{l k st:Int}{j vs:List Int}{a:List (Int×List Int)}{r:List (List UInt8×Int)}{q:Bool}(h:gv w base s u i t ⟨l,k,st,j,vs,a,r,q⟩){xs:List Value}(o:w.ownsRow base 93 2 i a.length xs)(g:eY 2 (Lu w base) xs a)
 (n:w.grownBy w' i.ownBlock){cs:List Value}{m:Int×List Int}(v:Lu w base cs m)(d:cs.length=2)(z:w'.ownsRow base 93 2 b p (xs++cs))(y:p=a.length+1):gv w' base s u b t ⟨l,k,st,j,vs,a++[m],r,q⟩:=by
 have c:bh 3 w w':=bh.of_row n o (by decide);have A:bh 95 w w':=bh.of_row n o (by decide);obtain⟨B,e,f⟩:=h.Z4;subst y;exact⟨c.own h.act,c.own h.vars,⟨xs++cs,by simpa using z,vo (pi g fun cs m _ x=>gn c cs m x) d (gn c cs m v)⟩,⟨B,A.own e,f⟩⟩
def gv.moreT{w w':World}{base q:Nat}{s u t i b:Value}{l k st:Int}{j vs:List Int}{p:List (Int×List Int)}{a:List (List UInt8×Int)}{r:Bool}(h:gv w base s u t i ⟨l,k,st,j,vs,p,a,r⟩){xs:List Value}(o:w.ownsRow base 95 2 i a.length xs)(f:eY 2 V5 xs a)
 (n:w.grownBy w' i.ownBlock){cs:List Value}{m:List UInt8×Int}(v:V5 cs m)(c:cs.length=2)(z:w'.ownsRow base 95 2 b q (xs++cs))(y:q=a.length+1):gv w' base s u t b ⟨l,k,st,j,vs,p,a++[m],r⟩:=by
 have g:bh 3 w w':=bh.of_row n o (by decide);have A:bh 93 w w':=bh.of_row n o (by decide);obtain⟨B,d,e⟩:=h.mem;subst y;exact⟨g.own h.act,g.own h.vars,⟨B,A.own d,pi e fun cs m _ x=>gn g cs m x⟩,⟨xs++cs,by simpa using z,vo f c v⟩⟩
structure VA(w wr:World)(g:Nat)(A:Option Addr)(n c:Nat)(bs:List UInt8)(at_:Nat)(bad:Bool)(va vv vm vt:Value)(r:Rc):Prop where
 mid:ox w wr g (w.heap.size+1) A n c bs at_ bad va vv vm vt r.over
 own:gv wr (w.heap.size+2) va vv vm vt r
def VA.num{w l d:World}{g:Nat}{A:Option Addr}{n c:Nat}{b:List UInt8}{at_ at':Nat}{a bad':Bool}{f k i j:Value}{r:Rc}(h:VA w l g A n c b at_ a f k i j r)(m:Fm d g A n c b at' bad')(e:l.grownBy d (some g)):VA w d g A n c b at' bad' f k i j r:=
 ⟨h.mid.num m e,h.own.only e (by have:=h.mid.hg;omega)⟩
def VA.alloc{w j:World}{g:Nat}{A:Option Addr}{n c:Nat}{b:List UInt8}{at_:Nat}{a:Bool}{d i e f:Value}{r:Rc}(h:VA w j g A n c b at_ a d i e f r)(o:Obj):VA w (j.alloc o) g A n c b at_ a d i e f r:=
 ⟨h.mid.alloc o,h.own.alloc o⟩
def L2(w W:World)(g:Nat)(A:Option Addr)(n c:Nat)(h:List UInt8)(T:Option Rc)(i f st:Int)(k m:Value)(j:Bool)(e vs:List Int):Prop:=
 ∃b a d l,VA w W g A n c h b a k m l (.slice none 0 0) ⟨i,f,st,e,vs,d,[],j⟩/\d.length<=255/\Inv a T (p9 h i f st j e vs d b)
def L3(w W:World)(g:Nat)(A:Option Addr)(n c:Nat)(k:List UInt8)(T:Option Rc)(f e st:Int)(l p m:Value)(i:Bool)(d vs:List Int)(h:List (Int×List Int)):Prop:=
 ∃b a j o,VA w W g A n c k b a l p m o ⟨f,e,st,d,vs,h,j,i⟩/\Inv a T (some ⟨f,e,st,d,vs,h,j,i⟩)
def Tryz.infoMem:(prog.info? 93).map (fun i=>(i.zero,i.size,i.bytes))=some (some (.agg #[.int .i64 0, .slice none 0 0]),2,32):=by kernel_rfl
def Tryz.infoTim:(prog.info? 95).map (fun i=>(i.zero,i.size,i.bytes))=some (some (.agg #[.string ⟨#[]⟩, .int .i64 0]),2,24):=by kernel_rfl
structure Vc(w W:World)(g:Nat)(A:Option Addr)(n c:Nat)(bs:List UInt8)(at_:Nat)(bad:Bool)(va vv vm vt:Value)(r:Rc):Prop where
 rd:Fm W g A n c bs at_ bad
 only:w.grownBy W (some g)
 own:gv W (w.heap.size+2) va vv vm vt r
 hg:g<w.heap.size
 ZN: ∀b off,A=some ⟨b,off,none⟩->b<w.heap.size
def VA.fin{w W:World}{g:Nat}{A:Option Addr}{n c:Nat}{b:List UInt8}{at_:Nat}{a:Bool}{d i e f:Value}{r:Rc}(h:VA w W g A n c b at_ a d i e f r):Vc w W g A n c b at_ a d i e f r:=⟨h.mid.rd,h.mid.only,h.own,h.mid.hg,h.mid.ZN⟩
def Vc.put{w W:World}{g:Nat}{A:Option Addr}{n c:Nat}{l:List UInt8}{at_:Nat}{a:Bool}{m q o p:Value}{r:Rc}(h:Vc w W g A n c l at_ a m q o p r)(i:Nat)(u:Value):Vc w (W.setCell ⟨w.heap.size,i,none⟩ u) g A n c l at_ a m q o p r:=by
 have f:=h.hg;refine⟨⟨h.rd.cells.far (by simp;omega) u,h.rd.len,?_,h.rd.ne,h.rd.ZS,h.rd.cap,h.rd.Z6⟩,aZ h.only (.inr (by simp)) u,h.own.put (by omega),f,h.ZN⟩;refine⟨h.rd.reads.1,fun t=> ?_⟩;obtain⟨b,off,e,k,d⟩:=h.rd.reads.2 t;have:=h.ZN b off e;refine⟨b,off,e,by simpa[World.setCell]using k,fun j x v=> ?_⟩;rw[QL _ _ _ _ (fun s=>by injection s with y;omega)];exact d j x v
def Jf(g:Nat)(A:Option Addr)(n c:Nat)(bs:List UInt8)(at_:Nat)(bad:Bool)(w:World)(h:Fm w g A n c bs at_ bad)(hby: ∀b off,A=some ⟨b,off,none⟩->b<w.heap.size)(aF:Addr)
 (hE: ∀w',w.grownBy w' (some g)->p' w' 0 aF/\sy w')(T:Option Rc)(ch bo st:Int)(hI:Inv bad T (p5 bs ch bo st at_)):
 Calls prog 31 #[.pointer (some ⟨g,0,none⟩)] w (Kb w g A n c bs T ch bo st):=by
 obtain⟨i0,hi0,hz0,hz1,hz2⟩:=TB Tryz.infoInt
 have M0:ox w ((w.alloc (.cells #[.slice none 0 0, .slice none 0 0, .slice none 0 0, .slice none 0 0, .bool false] 39)).alloc (.cells #[.slice none 0 0, .slice none 0 0, .slice none 0 0, .slice none 0 0, .bool false] 39)) g (w.heap.size+1) A n c bs at_ bad (.slice none 0 0) (.slice none 0 0) (.slice none 0 0) (.slice none 0 0) false:=by
  have hb:=((Oy w.heap.size w).alloc (OO _) (.cells #[.slice none 0 0, .slice none 0 0, .slice none 0 0, .slice none 0 0, .bool false] 39)).alloc (by simp) (.cells #[.slice none 0 0, .slice none 0 0, .slice none 0 0, .slice none 0 0, .bool false] 39);refine⟨h.below hb,fV (PL _ _) hb,?_,⟨_,(cU.new w _ _).alloc _,rfl⟩,rfl,h.cells.lt,hby⟩;have:=cU.new (w.alloc (.cells #[.slice none 0 0, .slice none 0 0, .slice none 0 0, .slice none 0 0, .bool false] 39)) 39 #[.slice none 0 0, .slice none 0 0, .slice none 0 0, .slice none 0 0, .bool false];rw[QQ]at this;exact this
 have HM:=OI M0;have HE:=OI hE;have HI:=OI hI;have hgl:=h.cells.lt;try clear h M0 hE hI hby
 go_enter func31,ntmps31
 go_wp2_with fail
 refine(fI g A n c bs at_ 1 bad _ HM.out.rd (by omega) 1 rfl aF (HE.out _ HM.out.only).1).mono ?_;rintro e w1 ⟨m,at1,bad1,rfl,h1,h2,h3⟩;have I1:=OI (show Inv bad1 T (p6 bs ch bo st (decide (m=1)) at1) from eH (k:=fun x=>p6 bs ch bo st (decide (x.1=1)) x.2) HI.out h3);have hM1:=HM.out.num h1 h2;have M1:=OI (hM1.put 4 (.bool (decide (m=1))) _ _ _ _ (decide (m=1)) rfl);obtain⟨s0,s1,s2,s3,s4⟩:=c5 hM1.ins;have f4:=hM1.ins.frozen 4;have eb:((m:Int)==1)=decide (m=1):=by rw[PC];simp;omega
 try clear h1 h2 h3 hM1 HM HI
 generalize decide (m=1)=ov at*
 go_wp2_with fail
 refine(qO g A n c bs at1 bad1 _ M1.out.rd aF (HE.out _ M1.out.only).1 (fun w' hw'=>(HE.out _ (M1.out.only.trans hw')).2)).mono ?_;rintro e w2 ⟨m2,at2,bad2,va,rfl,h1,h2,ho,h3⟩;have I2:=OI (show Inv bad2 T (p7 bs ch bo st ov (i' m2) at2) from eH (k:=fun x=>p7 bs ch bo st ov (i' x.1) x.2) I1.out h3);have hM2:=M1.out.num h1 h2;have M2:=OI (hM2.put 0 va va _ _ _ ov rfl);obtain⟨s0,s1,s2,s3,s4⟩:=c5 hM2.ins;have f0:=hM2.ins.frozen 0;have hls:w.heap.size+2<=(w1.setCell ⟨w.heap.size+1,4,none⟩ (.bool ov)).heap.size:=by have:=M1.out.ins.lt;omega
 obtain⟨A1,k1,rfl,_⟩:=aj ho;have hoa:=lQ (g:=w.heap.size+1) (dG ho hls) (aZ (p:=⟨w.heap.size+1,0,none⟩) (PL w2 _) (.inl rfl) (.slice A1 (i' m2).length k1)) (by omega);have OA:=OI hoa;try clear h1 h2 h3 hM2 M1 I1 ho hoa
 generalize i' m2=ac at*
 go_wp2_with fail
 refine(fI g A n c bs at2 1 bad2 _ M2.out.rd (by omega) 1 rfl aF (HE.out _ M2.out.only).1).mono ?_;rintro e w3 ⟨nv,at3,bad3,rfl,h1,h2,h3⟩;have I3:=OI (show Inv bad3 T (Ud bs (fun vs a'=>p8 bs ch bo st ov ac vs a') nv at3 []) from eH (k:=fun x=>Ud bs (fun vs a'=>p8 bs ch bo st ov ac vs a') x.1 x.2 []) I2.out h3);have hnv:nv<256:=h3.2.1;have M3:=OI (M2.out.num h1 h2);have OA3:=OI (lQ OA.out h2 (by omega));have hs3:w.heap.size+2<=w3.heap.size:=by have:=M3.out.ins.lt;omega
 have V3:=OI (show V1 w w3 g A n c bs at3 bad3 (.slice A1 ac.length k1) (.slice none 0 0) ov ac [] w3.heap.size from⟨M3.out,OA3.out,fun k hk=>(OA3.out.lt k hk).2,Pr _ _ _ _,hs3,OO _⟩);try clear h1 h2 h3 M2 I2 OA f0 s0 s1 s2 s3 s4 M3 OA3
 go_upto_block 0 with(fail)
 go_cut [4] (fun _ W=>L1 w W g A n c bs T ch bo st (.slice A1 ac.length k1) ov ac w3.heap.size)
 case first=>
  go_wp2_with fail
  go_loopw [4] (fun v4 wr=> ∃(rem at_:Nat) (bad:Bool) (vs:List Int) (vv:Value),v4= .int .i64 rem/\V1 w wr g A n c bs at_ bad (.slice A1 ac.length k1) vv ov ac vs w3.heap.size/\vs.length+rem<=255/\Inv bad T (Ud bs (fun vs a'=>p8 bs ch bo st ov ac vs a') rem at_ vs)) (fun v4 _=>(intOf v4).toNat)
  case atStart=>exact⟨nv,at3,bad3,[],_,rfl,V3.out,by simp;omega,I3.out⟩
  case round=>
   obtain⟨rem,at_,bad,vs,vv,rfl,hV,hlen,hI⟩:=hrel;have VV:=OI hV;have II:=OI hI;obtain⟨s0,s1,s2,s3,s4⟩:=c5 hV.mid.ins;obtain⟨r0,r1,r2⟩:=hV.mid.rd.cells.c3;have hgl':=hV.mid.rd.cells.lt;cases rem with
   | zero=>
     try clear hV hI s0 s1 s2 s3 s4 r0 r1 r2
     go_wp2_with fail
     go_meet
     exact⟨at_,bad,vs,vv,VV.out,by omega,II.out⟩
   | succ rem=>
     cases bad with
     | true=>
       try clear hV hI s0 s1 s2 s3 s4 r0 r1
       go_wp2_with fail
       go_meet
       exact⟨at_,true,vs,vv,VV.out,by omega,yQ II.out⟩
     | false=>
       have hbb:=hV.hb;have hss:=hV.hs;have f1:=hV.mid.ins.frozen 1;obtain⟨Av,kv,ev,_⟩:=aj hV.vars;subst ev;try clear hV hI s0 s2 s3 s4 r0 r1
       go_wp2_with fail
       go_region_law (first
        |(go_simp;go_at_call 30;refine(fI g A n c bs at_ 4 false _ VV.out.mid.drew.rd (by omega) 4 rfl aF (HE.out _ VV.out.mid.drew.only).1).mono ?_;rintro e w4 ⟨x4,at4,bad4,rfl,h1,h2,h3⟩;have hx4:x4<4294967296:=h3.2.1;have M4:=VV.out.mid.drew.num h1 h2;obtain⟨q0,q1,q2,q3,q4⟩:=c5 M4.ins;have hI4:w.heap.size+1<w4.heap.size:=M4.ins.lt;have HM4:=OI M4;have OV4:=OI (lQ VV.out.vars.drew h2 (by omega));have OA4:=OI (lQ VV.out.act.drew h2 (by omega));have hs4:=h2.size;have I4:=OI (eH (k:=fun x=>Ud bs (fun vs a'=>p8 bs ch bo st ov ac vs a') rem x.2 (vs++[px x.1])) II.out h3);clear h1 h2 h3 M4 q0 q2 q3 q4)
        |(go_simp;go_at_call 70;refine(CU x4 hx4 _).mono ?_;rintro e w' ⟨rfl,rfl⟩)
        |(refine nZ rfl (.tmp 35) (.tmp 41) _ rfl w3.heap.size 3 i0 _ 1 8 Tryz.underlying35 hi0 hz0 hz1 hz2 rfl (by decide) (.slice Av vs.length kv) vs.length (iv vs) rfl (OV4.out.alloc _) (w4.heap.size+1) (some ⟨w4.heap.size,0,none⟩) 1 1 [.int .i64 (px x4)] rfl (c0.boxed w4 3 #[.int .i64 (px x4)] 1 1 rfl) (by simp[Value.oneCell']) (by unfold maxLen;omega) (by omega) (by simp at hs4 |-;omega) ?_;intro v5 w5 ho5 hg5 hat5;have M5:=(HM4.out.alloc _).row (OV4.out.alloc _) hbb hg5;obtain⟨t0,t1,t2,t3,t4⟩:=c5 M5.ins;have f5:=M5.ins.frozen 1;have HM5:=OI M5;have HO5:=OI ho5;have OA5:=OI (NI (OA4.out.alloc _) VV.out.lo (OV4.out.alloc _) hg5);have hs5:=hg5.size;obtain⟨A5,k5,rfl,_⟩:=aj ho5;clear M5 ho5 hg5 hat5 t0 t2 t3 t4))
       all_goals
        have VN:=OI (show V1 w (w5.setCell ⟨w.heap.size+1,1,none⟩ (.slice A5 (vs.length+1) k5)) g A n c bs at4 bad4 (.slice A1 ac.length k1) (.slice A5 (vs.length+1) k5) ov ac (vs++[px x4]) w3.heap.size from
         ⟨HM5.out.put 1 _ _ _ _ _ ov rfl,Eo OA5.out (by omega),VV.out.lo,Eo (by simpa[iv]using HO5.out) (by omega),hbb,by simp at hs4 hs5 |-;omega⟩)
        try clear t1 f5 q1
        go_wp2_with fail
        go_roundw
        case rel=>exact⟨rem,at4,bad4,vs++[px x4],_,by go_num,VN.out,by simp;omega,I4.out⟩
        case measure=>simp[intOf]
 case rest=>
  obtain⟨at5,bad5,vs,vv,hV5,hvl,hI5⟩:=hcut;obtain⟨Av,kv,ev,_⟩:=aj hV5.vars;subst ev
  have VA5:=OI (show VA w wc g A n c bs at5 bad5 (.slice A1 ac.length k1) (.slice Av vs.length kv) (.slice none 0 0) (.slice none 0 0) ⟨ch,bo,st,ac,vs,[],[],ov⟩ from
   ⟨hV5.mid,⟨hV5.act,dG hV5.vars hV5.hb,⟨[],Pr _ _ _ _,jh _ _⟩,⟨[],Pr _ _ _ _,jh _ _⟩⟩⟩)
  have I5:=OI hI5;try clear hV5 hI5 V3 I3
  go_wp2_with fail
  refine(fI g A n c bs at5 1 bad5 _ VA5.out.mid.rd (by omega) 1 rfl aF (HE.out _ VA5.out.mid.only).1).mono ?_;rintro e w6 ⟨nm,at6,bad6,rfl,h1,h2,h3⟩;have I6:=OI (show Inv bad6 T (R' bs (fun ms a'=>p9 bs ch bo st ov ac vs ms a') nm at6 []) from eH (k:=fun x=>R' bs (fun ms a'=>p9 bs ch bo st ov ac vs ms a') x.1 x.2 []) I5.out h3);have hnm:nm<256:=h3.2.1;have VA6:=OI (VA5.out.num h1 h2);try clear h1 h2 h3 VA5 I5
  go_upto_block 2 with(fail)
  go_cut [5] (fun _ W=>L2 w W g A n c bs T ch bo st (.slice A1 ac.length k1) (.slice Av vs.length kv) ov ac vs)
  case first=>
   go_wp2_with fail
   go_loopw [5] (fun v5 wr=> ∃(rem at_:Nat) (bad:Bool) (ms:List (Int×List Int)) (vm:Value),v5= .int .i64 rem/\VA w wr g A n c bs at_ bad (.slice A1 ac.length k1) (.slice Av vs.length kv) vm (.slice none 0 0) ⟨ch,bo,st,ac,vs,ms,[],ov⟩/\ms.length+rem<=255/\Inv bad T (R' bs (fun ms a'=>p9 bs ch bo st ov ac vs ms a') rem at_ ms)) (fun v5 _=>(intOf v5).toNat)
   case atStart=>exact⟨nm,at6,bad6,[],_,rfl,VA6.out,by simp;omega,I6.out⟩
   case round=>
    obtain⟨rem,at_,bad,ms,vm,rfl,hV,hlen,hI⟩:=hrel;have VV:=OI hV;have II:=OI hI;obtain⟨r0,r1,r2⟩:=hV.mid.rd.cells.c3;have hgl':=hV.mid.rd.cells.lt;cases rem with
    | zero=>
      try clear hV hI r0 r1 r2
      go_wp2_with fail
      go_meet
      exact⟨at_,bad,ms,vm,VV.out,by omega,II.out⟩
    | succ rem=>
      cases bad with
      | true=>
        try clear hV hI r0 r1
        go_wp2_with fail
        go_meet
        exact⟨at_,true,ms,vm,VV.out,by omega,yQ II.out⟩
      | false=>
        try clear hV hI r0 r1
        go_wp2_with fail
        refine(fI g A n c bs at_ 1 false _ VV.out.mid.rd (by omega) 1 rfl aF (HE.out _ VV.out.mid.only).1).mono ?_;rintro e w7 ⟨x7,at7,bad7,rfl,h1,h2,h3⟩;have I7:=OI (eH (k:=fun x=>(Bx bs x.2 4).bind fun y=>R' bs (fun ms a'=>p9 bs ch bo st ov ac vs ms a') rem y.2 (ms++[((x.1:Int),i' y.1)])) II.out h3);have hV7:=VV.out.num h1 h2;have V7:=OI (hV7.alloc (.cells #[.int .i64 x7, .slice none 0 0] 93));have X7:=OI (cU.new w7 93 #[.int .i64 x7, .slice none 0 0])
        have N7:Hid (∀k,vm.ownBlock=some k->k≠w7.heap.size):=OI (fun k hk=>by
         obtain⟨xs,hx,_⟩:=hV7.own.mem;have:=(hx.lt k hk).2
         omega)
        have hl7:w.heap.size+2<=w7.heap.size:=by have:=hV7.mid.ins.lt;omega
        try clear h1 h2 h3 hV7 r2
        go_wp2_with fail
        refine(qO g A n c bs at7 bad7 _ V7.out.mid.rd aF (HE.out _ V7.out.mid.only).1 (fun w' hw'=>(HE.out _ (V7.out.mid.only.trans hw')).2)).mono ?_;rintro e w8 ⟨m8,at8,bad8,sv,rfl,h1,h2,ho,h3⟩;have I8:=OI (eH (k:=fun y=>R' bs (fun ms a'=>p9 bs ch bo st ov ac vs ms a') rem y.2 (ms++[((x7:Int),i' y.1)])) I7.out h3);have hX8:=X7.out.grown h2 (by simp;omega);have hV8:=V7.out.num h1 h2;have hV9:VA w (w8.setCell ⟨w7.heap.size,1,none⟩ sv) g A n c bs at8 bad8 (.slice A1 ac.length k1) (.slice Av vs.length kv) vm (.slice none 0 0) ⟨ch,bo,st,ac,vs,ms,[],ov⟩:=⟨hV8.mid.far (by simpa using hl7) sv,hV8.own.setX hX8 N7.out⟩;have hX9:=hX8.put 1 sv;have hk9:bh 3 w8 (w8.setCell ⟨w7.heap.size,1,none⟩ sv):=bh.of_only (aZ (p:=⟨w7.heap.size,1,none⟩) (PL w8 _) (.inl rfl) sv) hX8 (by decide);have O9:=OI (hk9.own (dG ho (show w.heap.size+2<=_ by simp;omega)));obtain⟨As,ks,es,_⟩:=aj ho;subst es;obtain⟨x80,x81⟩:=hX8.c2;have xf:=hX8.frozen 1;obtain⟨xs,hx1,hx2⟩:=hV9.own.mem;obtain⟨Am,km,em,_⟩:=aj hx1;simp only at em;subst em;obtain⟨s0,s1,s2,s3,s4⟩:=c5 hV9.mid.ins;have f2:=hV9.mid.ins.frozen 2;simp only[Array.setIfInBounds]at hX9;obtain⟨y0,y1⟩:=hX9.c2;have hI9:=hV9.mid.ins.lt;have V9:=OI hV9;have HX1:=OI hx1;have HX2:=OI hx2;have hl8:w7.heap.size<w8.heap.size:=hX8.lt;try clear h1 h2 h3 hX8 hV8 hV9 hX9 hk9 ho hx1 hx2 V7 X7 I7
        generalize i' m8=sl at*;obtain⟨j0,hj0,hy0,hy1,hy2⟩:=TB Tryz.infoMem
        have RB:c0 ((w8.setCell ⟨w7.heap.size,1,none⟩ (.slice As sl.length ks)).alloc (.cells #[.int .i64 x7, .slice As sl.length ks] 93)) (w8.heap.size+1) 2 (some ⟨w8.heap.size,0,none⟩) 1 [.int .i64 x7, .slice As sl.length ks]:=by
         have:=c0.boxed (w8.setCell ⟨w7.heap.size,1,none⟩ (.slice As sl.length ks)) 93 #[.int .i64 x7, .slice As sl.length ks] 2 1 rfl;rw[World.size_setCell]at this;exact this
        have RB':=OI RB;try clear RB
        go_wp2_with (at_builtin;refine bS _ rfl (.tmp 69) (.tmp 71) _ rfl (w.heap.size+2) 93 j0 _ 2 32 Tryz.underlying36 hj0 hy0 hy1 hy2 rfl (by decide) (.slice Am ms.length km) ms.length xs rfl (HX1.out.alloc _) (w8.heap.size+1) (some ⟨w8.heap.size,0,none⟩) 1 1 [.int .i64 x7, .slice As sl.length ks] rfl RB'.out (by simp[Value.oneCell']) (by unfold maxLen;omega) (by omega) (by simp;omega) ?_;intro v10 w10 ho10 hg10 hat10;obtain⟨A10,k10,rfl,_⟩:=aj ho10;have VB:=V9.out.alloc (.cells #[.int .i64 x7, .slice As sl.length ks] 93);have hM10:=VB.mid.row (HX1.out.alloc _) (OO _) hg10;have hO10:=VB.own.moreM (HX1.out.alloc _) (pi HX2.out fun cs m _ hh=>gn (bh.of_below ((Oy _ _).alloc (OO _) _)) cs m hh) hg10 (cs:=[.int .i64 x7, .slice As sl.length ks]) (m:=((x7:Int),sl)) ⟨_,rfl,O9.out.alloc _⟩ rfl ho10 rfl;obtain⟨t0,t1,t2,t3,t4⟩:=c5 hM10.ins;have f10:=hM10.ins.frozen 2;have VN:=OI (show VA w (w10.setCell ⟨w.heap.size+1,2,none⟩ (.slice A10 (ms.length+1) k10)) g A n c bs at8 bad8 (.slice A1 ac.length k1) (.slice Av vs.length kv) (.slice A10 (ms.length+1) k10) (.slice none 0 0) ⟨ch,bo,st,ac,vs,ms++[((x7:Int),sl)],[],ov⟩ from⟨hM10.put 2 _ _ _ _ _ ov rfl,hO10.put (by omega)⟩);clear VB hM10 hO10 ho10 hg10 hat10 s0 s1 s2 s3 s4 f2 x80 x81 xf y0 y1 t0 t1 t3 t4)
        go_roundw
        case rel=>exact⟨rem,at8,bad8,_,_,by go_num,VN.out,by simp;omega,I8.out⟩
        case measure=>simp[intOf]
  case rest=>
   obtain⟨at9,bad9,ms,vm,hV9,hml,hI9⟩:=hcut;obtain⟨xs,hx1,_⟩:=hV9.own.mem;obtain⟨Am,km,em,_⟩:=aj hx1;simp only at em;subst em;have VA9:=OI hV9;have I9:=OI hI9;try clear hV9 hI9 hx1 VA6 I6
   go_wp2_with fail
   refine(fI g A n c bs at9 1 bad9 _ VA9.out.mid.rd (by omega) 1 rfl aF (HE.out _ VA9.out.mid.only).1).mono ?_;rintro e w11 ⟨nt,at11,bad11,rfl,h1,h2,h3⟩;have I11:=OI (show Inv bad11 T (UE bs (fun ts _=>some (⟨ch,bo,st,ac,vs,ms,ts,ov⟩:Rc)) nt at11 []) from eH (k:=fun x=>UE bs (fun ts _=>some (⟨ch,bo,st,ac,vs,ms,ts,ov⟩:Rc)) x.1 x.2 []) I9.out h3);have hnt:nt<256:=h3.2.1;have VA11:=OI (VA9.out.num h1 h2);try clear h1 h2 h3 VA9 I9
   go_upto_block 4 with(fail)
   go_cut [7] (fun _ W=>L3 w W g A n c bs T ch bo st (.slice A1 ac.length k1) (.slice Av vs.length kv) (.slice Am ms.length km) ov ac vs ms)
   case first=>
    go_wp2_with fail
    go_loopw [7] (fun v7 wr=> ∃(rem at_:Nat) (bad:Bool) (ts:List (List UInt8×Int)) (vt:Value),v7= .int .i64 rem/\VA w wr g A n c bs at_ bad (.slice A1 ac.length k1) (.slice Av vs.length kv) (.slice Am ms.length km) vt ⟨ch,bo,st,ac,vs,ms,ts,ov⟩/\ts.length+rem<=255/\Inv bad T (UE bs (fun ts _=>some (⟨ch,bo,st,ac,vs,ms,ts,ov⟩:Rc)) rem at_ ts)) (fun v7 _=>(intOf v7).toNat)
    case atStart=>exact⟨nt,at11,bad11,[],_,rfl,VA11.out,by simp;omega,I11.out⟩
    case round=>
     obtain⟨rem,at_,bad,ts,vt,rfl,hV,hlen,hI⟩:=hrel;have VV:=OI hV;have II:=OI hI;obtain⟨r0,r1,r2⟩:=hV.mid.rd.cells.c3;have hgl':=hV.mid.rd.cells.lt;cases rem with
     | zero=>
       try clear hV hI r0 r1 r2
       go_wp2_with fail
       go_meet
       exact⟨at_,bad,ts,vt,VV.out,II.out⟩
     | succ rem=>
       cases bad with
       | true=>
         try clear hV hI r0 r1
         go_wp2_with fail
         go_meet
         exact⟨at_,true,ts,vt,VV.out,yQ II.out⟩
       | false=>
         try clear hV hI r0 r1
         go_wp2_with fail
         refine(GT g A n c bs at_ false _ VV.out.mid.rd aF (HE.out _ VV.out.mid.only).1).mono ?_;rintro e w12 ⟨tn,at12,bad12,rfl,h1,h2,h3⟩;have I12:=OI (Je (k:=fun x=>(Bx bs x.2 8).bind fun y=>UE bs (fun ts _=>some (⟨ch,bo,st,ac,vs,ms,ts,ov⟩:Rc)) rem y.2 (ts++[(x.1,(y.1:Int))])) II.out h3);have htn:=h3.2;have hV12:=VV.out.num h1 h2;have V12:=OI (hV12.alloc (.cells #[.string ⟨tn.toArray⟩, .int .i64 0] 95));have X12:=OI (cU.new w12 95 #[.string ⟨tn.toArray⟩, .int .i64 0])
         have N12:Hid (∀k,vt.ownBlock=some k->k≠w12.heap.size):=OI (fun k hk=>by
          obtain⟨xs,hx,_⟩:=hV12.own.Z4;have:=(hx.lt k hk).2
          omega)
         have hl12:w.heap.size+2<=w12.heap.size:=by have:=hV12.mid.ins.lt;omega
         try clear h1 h2 h3 hV12 r2
         go_wp2_with fail
         refine(fI g A n c bs at12 8 bad12 _ V12.out.mid.rd (by omega) 8 rfl aF (HE.out _ V12.out.mid.only).1).mono ?_;rintro e w13 ⟨x13,at13,bad13,rfl,h1,h2,h3⟩;have I13:=OI (eH (k:=fun y=>UE bs (fun ts _=>some (⟨ch,bo,st,ac,vs,ms,ts,ov⟩:Rc)) rem y.2 (ts++[(tn,(y.1:Int))])) I12.out h3);have hX8:=X12.out.grown h2 (by simp;omega);have hV8:=V12.out.num h1 h2;have hV9:VA w (w13.setCell ⟨w12.heap.size,1,none⟩ (.int .i64 x13)) g A n c bs at13 bad13 (.slice A1 ac.length k1) (.slice Av vs.length kv) (.slice Am ms.length km) vt ⟨ch,bo,st,ac,vs,ms,ts,ov⟩:=⟨hV8.mid.far (by simpa using hl12) _,hV8.own.setT hX8 N12.out⟩;have hX9:=hX8.put 1 (.int .i64 x13);obtain⟨x80,x81⟩:=hX8.c2;have xf:=hX8.frozen 1;obtain⟨xt,hx1,hx2⟩:=hV9.own.Z4;obtain⟨At,kt,et,_⟩:=aj hx1;simp only at et;subst et;obtain⟨s0,s1,s2,s3,s4⟩:=c5 hV9.mid.ins;have f3:=hV9.mid.ins.frozen 3;simp only[Array.setIfInBounds]at hX9;obtain⟨y0,y1⟩:=hX9.c2;have hI9:=hV9.mid.ins.lt;have V9:=OI hV9;have HX1:=OI hx1;have HX2:=OI hx2;have hl8:w12.heap.size<w13.heap.size:=hX8.lt;try clear h1 h2 h3 hX8 hV8 hV9 hX9 hx1 hx2 V12 X12 I12
         obtain⟨j0,hj0,hy0,hy1,hy2⟩:=TB Tryz.infoTim
         have RB:c0 ((w13.setCell ⟨w12.heap.size,1,none⟩ (.int .i64 x13)).alloc (.cells #[.string ⟨tn.toArray⟩, .int .i64 x13] 95)) (w13.heap.size+1) 2 (some ⟨w13.heap.size,0,none⟩) 1 [.string ⟨tn.toArray⟩, .int .i64 x13]:=by
          have:=c0.boxed (w13.setCell ⟨w12.heap.size,1,none⟩ (.int .i64 x13)) 95 #[.string ⟨tn.toArray⟩, .int .i64 x13] 2 1 rfl;rw[World.size_setCell]at this;exact this
         have RB':=OI RB;try clear RB
         go_wp2_with (at_builtin;refine bS _ rfl (.tmp 101) (.tmp 103) _ rfl (w.heap.size+2) 95 j0 _ 2 24 Tryz.underlying37 hj0 hy0 hy1 hy2 rfl (by decide) (.slice At ts.length kt) ts.length xt rfl (HX1.out.alloc _) (w13.heap.size+1) (some ⟨w13.heap.size,0,none⟩) 1 1 [.string ⟨tn.toArray⟩, .int .i64 x13] rfl RB'.out (by simp[Value.oneCell']) (by unfold maxLen;omega) (by omega) (by simp;omega) ?_;intro v10 w10 ho10 hg10 hat10;obtain⟨A10,k10,rfl,_⟩:=aj ho10;have VB:=V9.out.alloc (.cells #[.string ⟨tn.toArray⟩, .int .i64 x13] 95);have hM10:=VB.mid.row (HX1.out.alloc _) (OO _) hg10;have hO10:=VB.own.moreT (HX1.out.alloc _) HX2.out hg10 (cs:=[.string ⟨tn.toArray⟩, .int .i64 x13]) (m:=(tn,(x13:Int))) ⟨rfl,htn⟩ rfl ho10 rfl;obtain⟨t0,t1,t2,t3,t4⟩:=c5 hM10.ins;have f10:=hM10.ins.frozen 3;have VN:=OI (show VA w (w10.setCell ⟨w.heap.size+1,3,none⟩ (.slice A10 (ts.length+1) k10)) g A n c bs at13 bad13 (.slice A1 ac.length k1) (.slice Av vs.length kv) (.slice Am ms.length km) (.slice A10 (ts.length+1) k10) ⟨ch,bo,st,ac,vs,ms,ts++[(tn,(x13:Int))],ov⟩ from⟨hM10.put 3 _ _ _ _ _ ov rfl,hO10.put (by omega)⟩);clear VB hM10 hO10 ho10 hg10 hat10 s0 s1 s2 s3 s4 f3 x80 x81 xf y0 y1 t0 t1 t2 t4)
         go_roundw
         case rel=>exact⟨rem,at13,bad13,_,_,by go_num,VN.out,by simp;omega,I13.out⟩
         case measure=>simp[intOf]
   case rest=>
    obtain⟨at14,bad14,ts,vt,hV14,hI14⟩:=hcut;obtain⟨xt,hx1,_⟩:=hV14.own.Z4;obtain⟨At,kt,et,_⟩:=aj hx1;simp only at et;subst et;obtain⟨s0,s1,s2,s3,s4⟩:=c5 hV14.mid.ins;obtain⟨cs2,hc2,hcs⟩:=hV14.mid.two;rw[QX]at hc2
    match cs2,hcs with
    |⟨[b0,b1,b2,b3,b4]⟩,_=>
    obtain⟨z0,z1,z2,z3,z4⟩:=c5 hc2;have zf0:=hc2.frozen 0;have zf1:=hc2.frozen 1;have zf2:=hc2.frozen 2;have zf3:=hc2.frozen 3;have zf4:=hc2.frozen 4;have HV:=OI hV14;have HI2:=OI hI14;try clear hV14 hI14 hx1 VA11 I11 hc2
    go_wp2_with fail
    refine TY (v:= .agg #[.slice A1 ac.length k1, .slice Av vs.length kv, .slice Am ms.length km, .slice At ts.length kt, .bool ov]) (by simp[results,results31,go_sem,z0,z1,z2,z3,z4]) rfl ?_;have F:=(((((HV.out.fin.put 0 (.slice A1 ac.length k1)).put 1 (.slice Av vs.length kv)).put 2 (.slice Am ms.length km)).put 3 (.slice At ts.length kt)).put 4 (.bool ov));exact⟨_,_,_,_,⟨ch,bo,st,ac,vs,ms,ts,ov⟩,at14,bad14,rfl,F.rd,F.only,F.own.lower (by omega),rfl,rfl,rfl,HI2.out⟩
end
end Go.Proofs.YtfcdkaolcdglmaaGreatDoor
