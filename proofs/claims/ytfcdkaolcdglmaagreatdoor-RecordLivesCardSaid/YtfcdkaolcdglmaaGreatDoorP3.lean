/- Operations that turn no memory: places, numbers, texts, equality. No program is named here. Values as others see them; stores. No program is named here. Operations that make rows. No program is named here. Operations that make rows, the rest; all operations together. No program is named here. Pieces, appends, made rows, lengths; all operations together. No program is named here. All operations together. No program is named here. What an operation leans on: operations that lean on nothing of one another may change places. No program is named here. -/
import Derived.Test.YtfcdkaolcdglmaaGreatDoorP2
set_option linter.unusedSimpArgs false
set_option maxHeartbeats 1000000
set_option linter.defProp false
namespace Go.Proofs.YtfcdkaolcdglmaaGreatDoor
open Go.RowKit
section
section
variable {P:Program} {x:rk} {s:St} {a:Act} {w:World} {m:k9} {o:Oper} {out:Out}
theorem i7{t e:TypeId}{c:TypeInfo}(w:World)(b p len cap:Nat)(k:IntKind)(i:Int)(h:P.underlying t=some (.slice e))(hi:P.info? e=some c)(d:0<=i)(f:i<len):
 (Instr.indexAt t (.slice (some ⟨b,p,none⟩) len cap) (.int k i)).run P w= .ok (.pointer (some ⟨b,p+i.toNat*c.size,none⟩)) w:=by
 have g:(sizeOf e).run P w= .ok c.size w:=by simp[sizeOf,typeInfo,hi]
 simp[Instr.indexAt,asIntOf,OV h,d,f,g,Addr.add_mid]
theorem rA{t:TypeId}{y i:Operand}(N:o.op= .indexAddr t y i)(B:dk x s a w m)(h:(aY P x.env s.f o).run s=some out):dh P x s a w o out:=by
 have z:=ao B y;have j:=ao B i;unfold aY at h;simp only[N]at h;unfold fv at h;split at h
 ·rename_i sz X k n e q eb ez n' z' H I L;rw[H]at z;rw[I]at j;have j:=j.lit_;obtain⟨S,ie,ze,U,q2,V,q4,q5⟩:=bF L;split at h
  ·rename_i J;obtain⟨G,b1,rfl⟩:=J;simp only[Rd.run,OH]at h;subst h;have hr:=z.seq_;generalize E:a.eval y=vy at*;cases hr with
   | seq A T l sz X b p u hn Y hA hz K O=>
     obtain rfl:=hA (by omega);have d:=i7 (P:=P) w b p T l k n S U G (by omega);refine .same B (v:= .pointer (some ⟨b,p+(n.toNat*q+0),none⟩)) ?_ rfl (.val (.ref q X n.toNat 0 b p u hz K O));unfold execOp;simp only[N,E,j,Oc,d,OX,PF,V,QT]
  simp[Rd.run]at h
 ·rename_i r W k n e q eb ez n' z' H I L;rw[H]at z;rw[I]at j;have j:=j.lit_;obtain⟨S,ie,ze,U,q2,V,q4,q5⟩:=bF L;simp only[Rd.row,Rd.run]at h;cases c:s.rows r with
  |none=>rw[c]at h;simp[Rd.run]at h
  | some row=>
    rw[c]at h;simp only at h;split at h
    ·rename_i f;obtain⟨f,Q⟩:=f;split at h
     ·rename_i J;obtain⟨G,b1,R⟩:=J;simp only[Rd.run,OH]at h;subst h;obtain⟨M,z⟩:=z.row_;have E:=z f row c;have k':=(B.rows r row c).cells Q;obtain⟨xs,k1,_⟩:=k'.own;obtain⟨g,l,C,_⟩:=k1.form (by omega);rw[C]at E;have d:=i7 (P:=P) w g 0 row.es.length l k n S U G (by omega);refine .same B (v:= .pointer (some ⟨g,n.toNat*row.sz+0,none⟩)) ?_ rfl (.loc r W n.toNat 0 rfl M fun _ Z D=>⟨g,by rw[C];rfl,by rw[c]at D;cases D;rfl⟩);unfold execOp;simp only[N,E,j,Oc,d,OX,PF,V,QT,PR,R]
     simp[Rd.run]at h
    simp[Rd.run]at h
 simp[Rd.run]at h
theorem kT(b:ByteArray):b.toList=bL b:=ByteArray.toList_eq b
theorem jW(b:ByteArray):b.size=(bL b).length:=by
 obtain⟨⟨l⟩⟩:=b;rfl
theorem sA(b:ByteArray):b=⟨(bL b).toArray⟩:=by
 obtain⟨⟨l⟩⟩:=b;rfl
theorem zh{t:TypeId}{y i:Operand}(u:o.op= .index t y i)(l:dk x s a w m)(h:(aY P x.env s.f o).run s=some out):dh P x s a w o out:=by
 have j:=ao l y;have g:=ao l i;unfold aY at h;simp only[u]at h;obtain⟨c,d,h⟩:=fg h;obtain rfl:=bE h;unfold pS at d;split at d
 ·rename_i str k n G H z A D;rw[z]at j;rw[A]at g;have j:=j.lit_;have g:=g.lit_;have E:=dE D;split at d
  ·rename_i B;split at d
   ·rename_i b r;cases d
    have p:str[n.toNat]? =some b:=by
     have q:n.toNat< (bL str).length:=(OG.1 r).1;have e:n.toNat<str.size:=by rw[jW];exact q
     have C:=(OG.1 r).2;rw[getElem?_pos str n.toNat e, <-C];rfl
    refine .same l (v:= .int .u8 b.toNat) ?_ rfl (.val (.lit _))
    have f:(Instr.index t (.string str) (.int k n)).run P w= .ok (.int .u8 b.toNat) w:=by
     simp only[Instr.index,asIntOf,Oc,PF,OX,OV E,OL B,p]
    unfold execOp;simp only[u,j,g,Oc,f,OX,PF]
   cases d
  cases d
 cases d
theorem az{d:BinOp}{t:TypeId}{x y:Operand}{b c:Value}(w:World)(e: ¬(b= .nilIface/\c= .nilIface))(f: ∀p q,¬(b= .agg p/\c= .agg q)):(eqGuard d t x y b c).run P w= .ok () w:=by
 cases d<;>first
  |rfl
  |(unfold eqGuard
    simp only[QA,On,P8];split
    ·exact absurd ⟨rfl,rfl⟩ e
    ·exact absurd ⟨rfl,rfl⟩ (f _ _)
    rfl)
theorem AO{b:BinOp}{t:TypeId}{x y:Operand}(w:World)(h:(cO x||cO y)=true):(eqGuard b t x y .nilIface .nilIface).run P w= .ok () w:=by
 cases x<;>cases y<;>cases b<;>first|rfl|(simp[cO]at h;done)|simp[eqGuard]
section
variable (w:World) (d:Nat) (t:TypeId)
theorem F3{b:Array (String×TypeId)}(h:P.underlying t=some (.interface b)):(Op.equalIn (d+1) t .nilIface .nilIface).run P w= .ok true w:=by simp[Op.equalIn,OV h]
theorem F5{b:Array (String×TypeId)}(h:P.underlying t=some (.interface b))(q:TypeId)(v:Value):(Op.equalIn (d+1) t (.iface q v) .nilIface).run P w= .ok false w:=by simp[Op.equalIn,OV h]
theorem F4{b:Array (String×TypeId)}(h:P.underlying t=some (.interface b))(q:TypeId)(v:Value):(Op.equalIn (d+1) t .nilIface (.iface q v)).run P w= .ok false w:=by simp[Op.equalIn,OV h]
theorem tV{e:TypeId}(h:P.underlying t=some (.slice e))(A:Option Addr)(n c f b:Nat):(Op.equalIn (d+1) t (.slice A n c) (.slice none f b)).run P w= .ok A.isNone w:=by cases A<;>simp[Op.equalIn,OV h]
theorem FZ{e:TypeId}(h:P.underlying t=some (.pointer e)):(Op.equalIn (d+1) t (.pointer none) (.pointer none)).run P w= .ok true w:=by simp[Op.equalIn,OV h]
theorem tT{e:TypeId}(h:P.underlying t=some (.pointer e))(q:Addr):(Op.equalIn (d+1) t (.pointer (some q)) (.pointer none)).run P w= .ok false w:=by simp[Op.equalIn,OV h]
theorem FY{e:TypeId}(h:P.underlying t=some (.pointer e))(q:Addr):(Op.equalIn (d+1) t (.pointer none) (.pointer (some q))).run P w= .ok false w:=by simp[Op.equalIn,OV h]
end
theorem br{t:TypeId}{b c:Value}{r:Bool}(f:binOp .eql t b c=(do pure (.bool (<-Op.equal t b c))))(h: ∀d,(Op.equalIn (d+1) t b c).run P w= .ok r w):(binOp .eql t b c).run P w= .ok (.bool r) w:=by
 have e:(Op.equal t b c).run P w= .ok r w:=h 9999;rw[f,Oc,e];rfl
theorem bq{t:TypeId}{b c:Value}{r:Bool}(f:binOp .neq t b c=(do pure (.bool (!(<-Op.equal t b c)))))(h: ∀d,(Op.equalIn (d+1) t b c).run P w= .ok r w):(binOp .neq t b c).run P w= .ok (.bool (!r)) w:=by
 have e:(Op.equal t b c).run P w= .ok r w:=h 9999;rw[f,Oc,e];rfl
theorem aI{b:BinOp}{t e:TypeId}{y z:Operand}(d:o.op= .binOp b t y z e){v:Value}(c:(eqGuard b t y z (a.eval y) (a.eval z)).run P w= .ok () w)(h:(binOp b t (a.eval y) (a.eval z)).run P w= .ok v w):(execOp a.eval o).run P w= .ok (.value v) w:=by
 unfold execOp;simp only[d,Oc,c,h,OX,PF]
theorem wx{t:TypeId}{l n:AV}{b:Bool}{u v:Value}(h:cT P t l n=some b)(j:RL w m s u l)(k:RL w m s v n):
 (∀(xs:Array Value)(o:Nat)(q:Value)(w:World),xs[o]? =some q->(part t xs o).run P w= .ok q w)/\ ∀(d:Nat)(w:World),(Op.equalIn (d+1) t u v).run P w= .ok b w:=by
 unfold cT at h;split at h
 ·split at h
  ·rename_i g;split at h
   ·rename_i p;cases h;have e:=j.lit_;have f:=k.lit_;subst p e f;have c:=oT g;exact⟨fun xs o q w i=>by simp[part,isAgg,OV c,i],fun d w=>run_equalIn_int w d t _ _ _ _ c⟩
   cases h
  cases h
 ·split at h
  ·rename_i g;cases h;have e:=j.lit_;have f:=k.lit_;subst e f;have c:=dE g;exact⟨fun xs o q w i=>by simp[part,isAgg,OV c,i],fun d w=>by rw[run_equalIn_string w d t _ _ c];simp[kT]⟩
  cases h
 ·split at h
  ·rename_i g;cases h;have e:=j.lit_;have f:=k.lit_;subst e f;have c:=lw g;exact⟨fun xs o q w i=>by simp[part,isAgg,OV c,i],fun d w=>TG w d t _ _ c⟩
  cases h
 cases h
theorem Dt{t:TypeId}{f g:AV}{b:Bool}{u:Value}(h:cT P t f g=some b)(_hu:RL w m s u f): ∀(xs:Array Value)(o:Nat)(q:Value)(w:World),xs[o]? =some q->(part t xs o).run P w= .ok q w:=by
 unfold cT at h;split at h
 ·split at h
  ·rename_i c;have d:=oT c;exact fun xs o q w e=>by simp[part,isAgg,OV d,e]
  cases h
 ·split at h
  ·rename_i c;have d:=dE c;exact fun xs o q w e=>by simp[part,isAgg,OV d,e]
  cases h
 ·split at h
  ·rename_i c;have d:=lw c;exact fun xs o q w e=>by simp[part,isAgg,OV d,e]
  cases h
 cases h
theorem ye{xs C:List AV}{j vs:List Value}(k:j.length=xs.length)(l:vs.length=C.length)(I: ∀(i:Nat)(v:Value)(c:AV),j[i]? =some v->xs[i]? =some c->RL w m s v c)(J: ∀(i:Nat)(v:Value)(c:AV),vs[i]? =some v->C[i]? =some c->RL w m s v c)(d:Nat):
 ∀(e:List Field)(n:List (Nat×TypeId×Nat))(b:Bool),e.mapM (fun f=>(P.info? f.type).map fun i=>(f.offset,f.type,i.size))=some n->e.all (fun f=>f.name≠ "_")=true->rX P xs C n=some b->(Op.eqFields (d+1) j.toArray vs.toArray e).run P w= .ok b w
 | [],n,b,g,_,h=>by
   simp only[List.mapM_nil,Rm,OH]at g;subst g;simp only[rX,OH]at h;subst h;rfl
 | f::e,n,b,g,z,h=>by
   simp only[Rs,SA,Rm]at g;cases t:P.info? f.type with
   |none=>simp[t]at g
   | some i=>
     cases B:e.mapM (fun f=>(P.info? f.type).map fun i=>(f.offset,f.type,i.size)) with
     |none=>simp[t,B]at g
     | some r=>
       simp only[t,B,O0,Oo,OH]at g;subst g;simp only[Sc,OJ]at z;simp only[rX]at h;split at h
       ·rename_i Q R G H;split at h
        ·rename_i p q L M;cases h;have u:f.offset<j.length:=by rw[k];exact(OG.1 G).1
         have y:f.offset<vs.length:=by rw[l];exact(OG.1 H).1
         have D:j[f.offset]? =some j[f.offset]:=OE u;have E:vs[f.offset]? =some vs[f.offset]:=OE y;obtain⟨K,O⟩:=wx L (I _ _ _ D G) (J _ _ _ E H);have N:=ye k l I J d e r q B z.2 M;have A:f.name≠ "_" :=by simpa using z.1
         simp only[Op.eqFields,OL A,Oc,K j.toArray f.offset _ w (by rw[S6];exact D),K vs.toArray f.offset _ w (by rw[S6];exact E),OX,O d w];cases p
         ·simp
         simpa using N
        cases h
       cases h
theorem dl{e:Type}{r b:Nat}{k:Row->Rd e}{s:St}{y:e}(h:(Rd.row r b k).run s=some y): ∃row,s.rows r=some row/\s.vs r=b/\row.sz≠0/\(k row).run s=some y:=by
 simp only[Rd.row,Rd.run]at h;cases c:s.rows r with
 |none=>rw[c]at h;simp[Rd.run]at h
 | some row=>
   rw[c]at h;simp only at h;split at h
   ·rename_i d;exact⟨row,rfl,d.1,d.2,h⟩
   simp[Rd.run]at h
theorem zk{L:BinOp}{t ty:TypeId}{y z:Operand}(D:o.op= .binOp L t y z ty)(C:dk x s a w m)(h:(aY P x.env s.f o).run s=some out):dh P x s a w o out:=by
 have j:=ao C y;have e:=ao C z;unfold aY at h;simp only[D]at h;unfold vI at h;split at h
 ·rename_i r ver i off H I;rw[H]at j;rw[I]at e;have e:=e.lit_;obtain⟨row,U,V,_,h'⟩:=dl h;try clear h
  have h:=h';try clear h'
  obtain⟨g,_,K⟩:=j.loc_.2 V row U;have l:(eqGuard L t y z (a.eval y) (a.eval z)).run P w= .ok () w:=by rw[K,e];exact az w (by simp) (by simp)
  split at h
  ·rename_i E;obtain rfl:=bE h;obtain⟨N,G⟩:=lv E;exact .same C (aI D l (by rw[K,e];exact br rfl fun d=>tT w d t G _)) rfl (.val (.lit _))
  ·rename_i E;obtain rfl:=bE h;obtain⟨N,G⟩:=lv E;exact .same C (aI D l (by rw[K,e];exact bq rfl fun d=>tT w d t G _)) rfl (.val (.lit _))
  simp[Rd.run]at h
 ·rename_i A X Q Y R H I;rw[H]at j;rw[I]at e;have j:=j.lit_;have e:=e.lit_;have l:(eqGuard L t y z (a.eval y) (a.eval z)).run P w= .ok () w:=by rw[j,e];exact az w (by simp) (by simp)
  split at h
  ·rename_i E;obtain rfl:=bE h;have G:=(bF E).1;exact .same C (aI D l (by rw[j,e];exact br rfl fun d=>tV w d t G A X Q Y R)) rfl (.val (.lit _))
  ·rename_i E;obtain rfl:=bE h;have G:=(bF E).1;exact .same C (aI D l (by rw[j,e];exact bq rfl fun d=>tV w d t G A X Q Y R)) rfl (.val (.lit _))
  simp[Rd.run]at h
 ·rename_i Z e0 es0 Y R H I;rw[H]at j;rw[I]at e;have j:=j.seq_;have e:=e.lit_;generalize O:a.eval y=vy at*;cases j with
  | seq A X Q Z es b o u hn hcap hA hzz M hrr=>
    have hA:=hA (by simp at hn;omega);subst hA;have l:(eqGuard L t y z (a.eval y) (a.eval z)).run P w= .ok () w:=by rw[O,e];exact az w (by simp) (by simp)
    split at h
    ·rename_i E;obtain rfl:=bE h;have G:=(bF E).1;exact .same C (aI D l (by rw[O,e];exact br rfl fun d=>tV w d t G _ X Q Y R)) rfl (.val (.lit _))
    ·rename_i E;obtain rfl:=bE h;have G:=(bF E).1;exact .same C (aI D l (by rw[O,e];exact bq rfl fun d=>tV w d t G _ X Q Y R)) rfl (.val (.lit _))
    simp[Rd.run]at h
 obtain⟨c,B,h⟩:=fg h;obtain rfl:=bE h;unfold Ia at B;split at B
 ·rename_i k p k' q H I;rw[H]at j;rw[I]at e;have j:=j.lit_;have e:=e.lit_;have l:(eqGuard L t y z (a.eval y) (a.eval z)).run P w= .ok () w:=by rw[j,e];exact az w (by simp) (by simp)
  split at B<;>(try cases B;done)<;>(split at B<;>(try cases B;done))<;>rename_i J<;>cases B
  ·exact .same C (aI D l (v:= .int k (k.wrap (p+q))) (by rw[j,e];subst J;simp[binOp,Op.intArith])) rfl (.val (.lit _))
  ·exact .same C (aI D l (v:= .int k (k.wrap (p-q))) (by rw[j,e];subst J;simp[binOp,Op.intArith])) rfl (.val (.lit _))
  ·exact .same C (aI D l (v:= .int k (k.wrap (p*q))) (by rw[j,e];subst J;simp[binOp,Op.intArith])) rfl (.val (.lit _))
  ·obtain⟨J,hq⟩:=J;exact .same C (aI D l (v:= .int k (k.wrap (p.tdiv q))) (by rw[j,e];subst J;simp[binOp,Op.intDiv,hq])) rfl (.val (.lit _))
  ·obtain⟨J,hq⟩:=J;exact .same C (aI D l (v:= .int k (p.tmod q)) (by rw[j,e];subst J;simp[binOp,Op.intDiv,hq])) rfl (.val (.lit _))
  ·exact .same C (aI D l (v:= .bool (p==q)) (by rw[j,e];subst J;simp[binOp,Op.intCmp])) rfl (.val (.lit _))
  ·exact .same C (aI D l (v:= .bool (p != q)) (by rw[j,e];subst J;simp[binOp,Op.intCmp])) rfl (.val (.lit _))
  ·exact .same C (aI D l (v:= .bool (decide (p<q))) (by rw[j,e];subst J;simp[binOp,Op.intCmp])) rfl (.val (.lit _))
  ·exact .same C (aI D l (v:= .bool (decide (p<=q))) (by rw[j,e];subst J;simp[binOp,Op.intCmp])) rfl (.val (.lit _))
  ·exact .same C (aI D l (v:= .bool (decide (p>q))) (by rw[j,e];subst J;simp[binOp,Op.intCmp])) rfl (.val (.lit _))
  ·exact .same C (aI D l (v:= .bool (decide (p>=q))) (by rw[j,e];subst J;simp[binOp,Op.intCmp])) rfl (.val (.lit _))
  ·exact .same C (aI D l (v:= .int k (tc .and k p q)) (by rw[j,e];subst J;simp[binOp,Op.intBits,tc])) rfl (.val (.lit _))
  ·exact .same C (aI D l (v:= .int k (tc .or k p q)) (by rw[j,e];subst J;simp[binOp,Op.intBits,tc])) rfl (.val (.lit _))
  ·exact .same C (aI D l (v:= .int k (tc .xor k p q)) (by rw[j,e];subst J;simp[binOp,Op.intBits,tc])) rfl (.val (.lit _))
  ·exact .same C (aI D l (v:= .int k (tc .andNot k p q)) (by rw[j,e];subst J;simp[binOp,Op.intBits,tc])) rfl (.val (.lit _))
  ·exact .same C (aI D l (v:= .int k (k.wrap (p*2^min q.toNat k.bits))) (by rw[j,e];simp[binOp,Op.shift,Int.not_lt.2 J])) rfl (.val (.lit _))
  exact .same C (aI D l (v:= .int k (p.fdiv (2^min q.toNat k.bits))) (by rw[j,e];simp[binOp,Op.shift,Int.not_lt.2 J])) rfl (.val (.lit _))
 ·rename_i p q H I;rw[H]at j;rw[I]at e;have j:=j.lit_;have e:=e.lit_;have l:(eqGuard L t y z (a.eval y) (a.eval z)).run P w= .ok () w:=by rw[j,e];exact az w (by simp) (by simp)
  split at B
  ·split at B
   ·rename_i hle;cases B;refine .same C (aI D l (v:= .string ⟨(bL p++bL q).toArray⟩) ?_) rfl (.val (.lit _));rw[j,e];have:=Ld (P:=P) (bL p) (bL q) hle w;rw[<-sA, <-sA]at this;simpa[binOp]using this
   cases B
  ·cases B;exact .same C (aI D l (v:= .bool (bL p==bL q)) (by rw[j,e];simp[binOp,Op.stringOp,kT])) rfl (.val (.lit _))
  ·cases B;exact .same C (aI D l (v:= .bool (!(bL p==bL q))) (by rw[j,e];simp[binOp,Op.stringOp,kT])) rfl (.val (.lit _))
  ·cases B;exact .same C (aI D l (v:= .bool (Op.bytesLess (bL p) (bL q))) (by rw[j,e];simp[binOp,Op.stringOp,kT])) rfl (.val (.lit _))
  ·cases B;exact .same C (aI D l (v:= .bool (Op.bytesLess (bL p) (bL q)||bL p==bL q)) (by rw[j,e];simp[binOp,Op.stringOp,kT])) rfl (.val (.lit _))
  ·cases B;exact .same C (aI D l (v:= .bool (!(Op.bytesLess (bL p) (bL q)||bL p==bL q))) (by rw[j,e];simp[binOp,Op.stringOp,kT])) rfl (.val (.lit _))
  ·cases B;exact .same C (aI D l (v:= .bool (!Op.bytesLess (bL p) (bL q))) (by rw[j,e];simp[binOp,Op.stringOp,kT])) rfl (.val (.lit _))
  cases B
 ·rename_i p q H I;rw[H]at j;rw[I]at e;have j:=j.lit_;have e:=e.lit_;have l:(eqGuard L t y z (a.eval y) (a.eval z)).run P w= .ok () w:=by rw[j,e];exact az w (by simp) (by simp)
  split at B
  ·rename_i E;cases B;have G:=lw E;exact .same C (aI D l (by rw[j,e];exact br rfl fun d=>TG w d t p q G)) rfl (.val (.lit _))
  ·rename_i E;cases B;have G:=lw E;exact .same C (aI D l (by rw[j,e];exact bq rfl fun d=>TG w d t p q G)) rfl (.val (.lit _))
  cases B
 ·rename_i H I;rw[H]at j;rw[I]at e;have j:=j.lit_;have e:=e.lit_
  have l:(cO y||cO z)=true->(eqGuard L t y z (a.eval y) (a.eval z)).run P w= .ok () w:=fun hh=>by
   rw[j,e];exact AO w hh
  split at B
  ·rename_i E M;cases B;obtain⟨N,G⟩:=je E;exact .same C (aI D (l M) (by rw[j,e];exact br rfl fun d=>F3 w d t G)) rfl (.val (.lit _))
  ·rename_i E M;cases B;obtain⟨N,G⟩:=je E;exact .same C (aI D (l M) (by rw[j,e];exact bq rfl fun d=>F3 w d t G)) rfl (.val (.lit _))
  cases B
 ·rename_i ti ci H I;rw[H]at j;rw[I]at e;obtain⟨u,j,_⟩:=j.iface_;have e:=e.lit_;have l:(eqGuard L t y z (a.eval y) (a.eval z)).run P w= .ok () w:=by rw[j,e];exact az w (by simp) (by simp)
  split at B
  ·rename_i E;cases B;obtain⟨N,G⟩:=je E;exact .same C (aI D l (by rw[j,e];exact br rfl fun d=>F5 w d t G _ _)) rfl (.val (.lit _))
  ·rename_i E;cases B;obtain⟨N,G⟩:=je E;exact .same C (aI D l (by rw[j,e];exact bq rfl fun d=>F5 w d t G _ _)) rfl (.val (.lit _))
  cases B
 ·rename_i ti ci H I;rw[H]at j;rw[I]at e;obtain⟨u,e,_⟩:=e.iface_;have j:=j.lit_;have l:(eqGuard L t y z (a.eval y) (a.eval z)).run P w= .ok () w:=by rw[j,e];exact az w (by simp) (by simp)
  split at B
  ·rename_i E;cases B;obtain⟨N,G⟩:=je E;exact .same C (aI D l (by rw[j,e];exact br rfl fun d=>F4 w d t G _ _)) rfl (.val (.lit _))
  ·rename_i E;cases B;obtain⟨N,G⟩:=je E;exact .same C (aI D l (by rw[j,e];exact bq rfl fun d=>F4 w d t G _ _)) rfl (.val (.lit _))
  cases B
 ·rename_i H I;rw[H]at j;rw[I]at e;have j:=j.lit_;have e:=e.lit_;have l:(eqGuard L t y z (a.eval y) (a.eval z)).run P w= .ok () w:=by rw[j,e];exact az w (by simp) (by simp)
  split at B
  ·rename_i E;cases B;obtain⟨N,G⟩:=lv E;exact .same C (aI D l (by rw[j,e];exact br rfl fun d=>FZ w d t G)) rfl (.val (.lit _))
  ·rename_i E;cases B;obtain⟨N,G⟩:=lv E;exact .same C (aI D l (by rw[j,e];exact bq rfl fun d=>FZ w d t G)) rfl (.val (.lit _))
  cases B
 ·rename_i Z es i off H I;rw[H]at j;rw[I]at e;have e:=e.lit_;have hr:=j.ref_;generalize K:a.eval y=vy at*;cases hr with
  | ref Z es i off b p u hz' M hrv=>
    have l:(eqGuard L t y z (a.eval y) (a.eval z)).run P w= .ok () w:=by rw[K,e];exact az w (by simp) (by simp)
    split at B
    ·rename_i E;cases B;obtain⟨N,G⟩:=lv E;exact .same C (aI D l (by rw[K,e];exact br rfl fun d=>tT w d t G _)) rfl (.val (.lit _))
    ·rename_i E;cases B;obtain⟨N,G⟩:=lv E;exact .same C (aI D l (by rw[K,e];exact bq rfl fun d=>tT w d t G _)) rfl (.val (.lit _))
    cases B
 ·rename_i Z es i off H I;rw[H]at j;rw[I]at e;have j:=j.lit_;have hr:=e.ref_;generalize K:a.eval z=vz at*;cases hr with
  | ref Z es i off b p u hz' M hrv=>
    have l:(eqGuard L t y z (a.eval y) (a.eval z)).run P w= .ok () w:=by rw[K,j];exact az w (by simp) (by simp)
    split at B
    ·rename_i E;cases B;obtain⟨N,G⟩:=lv E;exact .same C (aI D l (by rw[K,j];exact br rfl fun d=>FY w d t G _)) rfl (.val (.lit _))
    ·rename_i E;cases B;obtain⟨N,G⟩:=lv E;exact .same C (aI D l (by rw[K,j];exact bq rfl fun d=>FY w d t G _)) rfl (.val (.lit _))
    cases B
 ·rename_i xs ys H I;rw[H]at j;rw[I]at e;obtain⟨us,G,hul,_,huc⟩:=j.agg_;obtain⟨vs,K,hvl,_,hvc⟩:=e.agg_
  have W: ∀ {fs:List (Nat×TypeId×Nat)}{n:Nat}{z':List Value}{b:Bool},eg P t=some ⟨.struct fs true,n,z'⟩->rX P xs ys fs=some b->(eqGuard L t y z (a.eval y) (a.eval z)).run P w= .ok () w/\(Op.equalIn 10000 t (.agg us.toArray) (.agg vs.toArray)).run P w= .ok b w:=fun {fs n z' b} E S=>by
   obtain⟨f,hf,hm,he⟩:=eC E;have he:=he.symm;simp only[OJ,PT]at he;obtain⟨⟨h1,h2⟩,h3⟩:=he;have T:P.fieldsOf t=f:=by simp[Program.fieldsOf,hf]
   refine⟨?_,?_⟩
   ·rw[G,K];exact run_eqGuard_agg w L t y z _ _ h1
   rw[run_equalIn_agg w 9999 t _ _ (by rw[T];exact hf) h2,T];exact ye hul hvl huc hvc 9998 _ _ _ hm h3 S
  split at B
  ·rename_i E;obtain⟨b,S,rfl⟩:=P6.1 B;obtain⟨k1,k2⟩:=W E S;exact .same C (aI D k1 (v:= .bool b) (by rw[G,K,run_eql_struct,k2];rfl)) rfl (.val (.lit _))
  ·rename_i E;obtain⟨b,S,rfl⟩:=P6.1 B;obtain⟨k1,k2⟩:=W E S;exact .same C (aI D k1 (v:= .bool (!b)) (by rw[G,K,run_neq_struct,k2];rfl)) rfl (.val (.lit _))
  cases B
 cases B
end
end
section
def gs(a b:List CT)(s:St):dd (a++b) s=dd b (dd a s):=by
 induction a generalizing s with
 |nil=>rfl
 |cons e l c=>exact c _
def cd(l:List Nat)(s:St):(dd (g4 l) s).rows=s.rows/\(dd (g4 l) s).vs=s.vs/\(dd (g4 l) s).f=s.f:=by
 induction l generalizing s with
 |nil=>exact⟨rfl,rfl,rfl⟩
 |cons r l a=>exact a (s.show r)
def GL(l:List Nat)(s:St)(r:Nat)(h:l.all (· != r)=true):(dd (g4 l) s).esc r=s.esc r:=by
 induction l generalizing s with
 |nil=>rfl
 | cons q l a=>
   simp only[Sc,OJ,RX,ne_eq]at h;refine(a (s.show q) h.2).trans ?_;simp[St.show,na,Py h.1]
def RL.shown{w:World}{m:k9}{s:St}{v:Value}{c:AV}(h:RL w m s v c)(l:List Nat){S':Nat->Nat->Prop}(g: ∀b o,m.S b o->S' b o):RL w ⟨S',m.ρ⟩ (dd (g4 l) s) v c:=by
 obtain⟨e,f,_⟩:=cd l s;refine h.mono (fun b o i=>⟨g b o i, .rfl⟩) (fun r=>by rw[f];exact OO _) fun r a _ d=>⟨a,by rw[e]at d;exact d,rfl,rfl⟩
def fd{b c:Type}{q:Rd b}{k:b->Rd c}{s:St}{y:c}(h:(q.bind k).run s=some y): ∃z,q.run s=some z/\(k z).run s=some y:=by
 rw[Rd.run_bind]at h;cases a:q.run s with
 |none=>rw[a]at h;cases h
 |some z=>rw[a]at h;exact⟨z,rfl,h⟩
def lD{f:Type}{sz:Nat} : ∀(d:List (List f)),(∀l∈d,l.length=sz)-> ∀(i j:Nat)(l:List f)(u:f),d[i]? =some l->l[j]? =some u->d.flatten[i*sz+j]? =some u
 |[],_,i,j,l,u,h,_=>by simp at h
 | e::b,c,0,j,l,u,h,a=>by
   have h:e=l:=by simpa using h
   subst h;have m:j<e.length:=(OG.1 a).1;simp only[Ro,Qp,PR];rw[Oq m,a]
 | e::b,c,i+1,j,l,u,h,a=>by
   have h:b[i]? =some l:=by simpa using h
   have k:e.length=sz:=c e (by simp);have o:=lD b (fun l n=>c l (by simp[n])) i j l u h a;have g:(i+1)*sz+j-sz=i*sz+j:=by rw[P7,Q7];omega
   have p:sz<=(i+1)*sz+j:=by rw[P7,Q7];omega
   simp only[Ro];rw[Og (by omega),k,g];exact o
def qh{c:AV}{s s':St}(b:s'.rows=s.rows)(d:s'.vs=s.vs):(cS c).run s'=(cS c).run s:=by
 cases c<;>simp only[cS,Rd.row,Rd.run]
 ·rw[b,d];rename_i r a;cases s.rows r with
  |none=>rfl
  | some row=>
    simp only;split<;>(try split)<;>rfl
 ·rw[b,d];rename_i r a i off;cases s.rows r with
  |none=>rfl
  | some row=>
    simp only;split<;>(try split)<;>rfl
 ·rw[b,d];rename_i r a e;cases s.rows r with
  |none=>rfl
  | some row=>
    simp only;split<;>(try split)<;>rfl
def gU{s s':St}(a:s'.rows=s.rows)(b:s'.vs=s.vs): ∀cs:List AV,(eJ cs).run s'=(eJ cs).run s
 |[]=>rfl
 | c::cs=>by
   simp only[eJ,Rd.run_bind,qh a b,gU a b cs];rfl
section
variable {x:rk} {a:Act} {w:World}
theorem tq(b p k:Nat):(⟨b,p,none⟩:Addr).add k=⟨b,p+k,none⟩:=by unfold Addr.add;split<;>simp_all
theorem RV.cut{S:Nat->Nat->Prop}{w:World}{v:Value}{sz lo:Nat}{es:List (List AV)}(h:RV S w v (.seq sz es))(C:lo<=es.length):RV S w (UO v (lo*sz) lo) (.seq sz (es.drop lo)):=by
 cases h with
 | seq A n k sz es b o u D p t z g y=>
   have d: ∀(i j:Nat)(c:AV),bt (es.drop lo) i j=some c->bt es (i+lo) j=some c:=fun i j c g=>by
    unfold bt at g |-;rw[PY,SQ lo i]at g;exact g
   refine .seq _ (n-lo) (k-lo) sz (es.drop lo) b (o+lo*sz) (fun i j=>u (i+lo) j) (by simp;omega) (by omega) (fun B=> ?_) (fun i e q=>z _ e (by rw[PY]at q;exact q)) (fun i j c f=> ?_) (fun i j c f=>y _ _ _ (d i j c f))
   ·rw[OK (by omega),t (by omega),O0,tq]
   obtain⟨l,m,s⟩:=g _ _ _ (d i j c f);have r:o+((i+lo)*sz+j)=o+lo*sz+(i*sz+j):=by rw[P7];omega
   rw[r]at l m;exact⟨l,m,s⟩
theorem RL.plain{s:St}{m:k9}{c:AV}{u:Value}(d:RL w m s u c)(b:c.plain=true):RV m.S w u c:=by
 cases d with
 |val h=>exact h
 |agg=>simp[AV.plain]at b
 |tuple=>simp[AV.plain]at b
 |row=>simp[AV.plain]at b
 |loc=>simp[AV.plain]at b
 |mp=>simp[AV.plain]at b
 |sub=>simp[AV.plain]at b
 |clo=>simp[AV.plain]at b
theorem wZ{s:St}{m:k9}{c:AV}{y:AV×List Nat}{v:Value}(h:(cS c).run s=some y)(H:dk x s a w m)(k:RL w m s v c):
 ∃S',dk x (dd (g4 y.2) s) a w ⟨S',m.ρ⟩/\(∀b o,m.S b o->S' b o)/\RV S' w v y.1:=by
 have plain: ∀ {c:AV},RV m.S w v c->y=(c,[])-> ∃S',dk x (dd (g4 y.2) s) a w ⟨S',m.ρ⟩/\(∀b o,m.S b o->S' b o)/\RV S' w v y.1:=fun M e=>by
  subst e;exact⟨m.S,H,fun _ _ h=>h,M⟩
 cases c with
 | row r J=>
   obtain⟨row,l,C,d,h⟩:=dl h;split at h
   ·rename_i E;simp only[Rd.run,OH]at h;subst h;obtain⟨S',z,A,B⟩:=H.show r row l d E;have:=k.row_.2 C row l;subst this;exact⟨S',z,A,B⟩
   simp[Rd.run]at h
 | loc r J i off=>
   obtain⟨row,l,C,d,h⟩:=dl h;split at h
   ·rename_i E;simp only[Rd.run,OH]at h;subst h
    obtain⟨S',z,A,_,B⟩:=H.show_ r row l d (fun p j c u D n=>by
     by_cases G:row.pure=true
     ·rw[OL G]at n;exact n
     ·rw[OK G]at n;have I:row.es.all (·.all AV.plain)=true:=by simpa[G]using E
      unfold bt at D;cases K:row.es[p]? with
      |none=>rw[K]at D;cases D
      | some e=>
        rw[K]at D;have f:=(OP.1 ((OP.1 I) e (OM K))) c (OM D);cases n with
        |val h=>exact h
        |agg=>simp[AV.plain]at f
        |tuple=>simp[AV.plain]at f
        |row=>simp[AV.plain]at f
        |loc=>simp[AV.plain]at f
        |mp=>simp[AV.plain]at f
        |sub=>simp[AV.plain]at f
        |clo=>simp[AV.plain]at f)
    obtain⟨g,L,q⟩:=k.loc_.2 C row l;subst q;exact⟨S',z,A,B g L i off⟩
   simp only[Rd.run,OH]at h;subst h
   obtain⟨S',z,A,_,B⟩:=H.showF AV.soft r row l d (fun p j c u D n=>by
    unfold AV.soft;by_cases f:c.plain=true
    ·rw[OL f];by_cases G:row.pure=true
     ·rw[OL G]at n;exact n
     rw[OK G]at n;exact n.plain f
    rw[OK f]
    exact .any u)
   obtain⟨g,L,q⟩:=k.loc_.2 C row l;subst q;exact⟨S',z,A,B g L i off⟩
 | sub r J N=>
   obtain⟨row,l,C,d,h⟩:=dl h;split at h
   ·rename_i E;simp only[Rd.run,OH]at h;subst h;obtain⟨S',z,A,B⟩:=H.show r row l d E.1;have:=k.sub_.2 C row l;subst this;exact⟨S',z,A,B.cut E.2⟩
   simp[Rd.run]at h
 |own=>simp[cS,Rd.run]at h
 |agg=>simp[cS,Rd.run]at h
 |tuple=>simp[cS,Rd.run]at h
 |mp=>simp[cS,Rd.run]at h
 |clo=>simp[cS,Rd.run]at h
 |fmap=>exact plain (by cases k with|val h=>exact h) (by simpa[cS,Rd.run]using h.symm)
 |full=>exact plain (by cases k with|val h=>exact h) (by simpa[cS,Rd.run]using h.symm)
 |news=>exact plain (by cases k with|val h=>exact h) (by simpa[cS,Rd.run]using h.symm)
 |any=>exact plain (.any v) (by simpa[cS,Rd.run]using h.symm)
 |lit u=>exact plain (by cases k with|val h=>exact h) (by simpa[cS,Rd.run]using h.symm)
 |iface t u=>exact plain (by cases k with|val h=>exact h) (by simpa[cS,Rd.run]using h.symm)
 |seq=>exact plain (by cases k with|val h=>exact h) (by simpa[cS,Rd.run]using h.symm)
 |ref=>exact plain (by cases k with|val h=>exact h) (by simpa[cS,Rd.run]using h.symm)
theorem nN: ∀ {cs:List AV}{vs:List Value}{s:St}{m:k9}{y:List AV×List Nat},(eJ cs).run s=some y->dk x s a w m->vs.length=cs.length->(∀(i:Nat)(v:Value)(c:AV),vs[i]? =some v->cs[i]? =some c->RL w m s v c)->
 ∃S',dk x (dd (g4 y.2) s) a w ⟨S',m.ρ⟩/\(∀b o,m.S b o->S' b o)/\y.1.length=cs.length/\ ∀(i:Nat)(v:Value)(c:AV),vs[i]? =some v->y.1[i]? =some c->RV S' w v c
 | [],vs,s,m,y,h,f,g,j=>by
   simp only[eJ,Rd.run,OH]at h;subst h;exact⟨m.S,f,fun _ _ h=>h,rfl,fun i v c _ D=>by simp at D⟩
 |c::cs,[],s,m,y,h,f,g,j=>by simp at g
 | c::cs,v::vs,s,m,y,h,f,g,j=>by
   simp only[eJ]at h;obtain⟨q,B,h⟩:=fd h;obtain⟨I,C,h⟩:=fd h;simp only[Rd.run,OH]at h;subst h;obtain⟨J,G,t,H⟩:=wZ B f (j 0 v c rfl rfl);obtain⟨z,A,_⟩:=cd q.2 s;have l:(eJ cs).run (dd (g4 q.2) s)=some I:=by rw[<-C];exact gU z A cs
   obtain⟨u,E,r,p3,p4⟩:=nN l G (by simpa using g) (fun i p k e d=>(j (i+1) p k (by simpa using e) (by simpa using d)).shown q.2 t);refine⟨u,by simp only[g4,Oa,gs];exact E,fun b o n=>r b o (t b o n),by simp[p3],fun i p k e d=> ?_⟩;cases i with
   | zero=>
     simp only[PK,OH]at e d;subst e d;exact H.mono fun b o n=>⟨r b o n, .rfl⟩
   |succ i=>exact p4 i p k (by simpa using e) (by simpa using d)
theorem ou{s:St}{m:k9}{c:AV}{y:AV×List Nat}{v:Value}(h:(fz c).run s=some y)(i:dk x s a w m)(l:RL w m s v c):
 ∃S',dk x (dd (g4 y.2) s) a w ⟨S',m.ρ⟩/\(∀b o,m.S b o->S' b o)/\RV S' w v y.1:=by
 cases c with
 | agg t=>
   simp only[fz]at h;obtain⟨z,d,h⟩:=fd h;simp only[Rd.run,OH]at h;subst h;obtain⟨r,e,k,f,j⟩:=l.agg_;obtain⟨S',n,p,u,q⟩:=nN d i k j;subst e;exact⟨S',n,p, .agg r _ (by omega) f q⟩
 | clo g t=>
   simp only[fz]at h;obtain⟨z,d,h⟩:=fd h;simp only[Rd.run,OH]at h;subst h;obtain⟨r,e,k,j⟩:=l.clo_;obtain⟨S',n,p,u,q⟩:=nN d i k j;subst e;exact⟨S',n,p, .clo g r _ (by omega) q⟩
 |_=>exact wZ (by simpa only[fz]using h) i l
end
def cells_one{v:Value}(h:v.oneCell'=true):v.cells= #[v]:=by
 cases v<;>first|rfl|cases h
def nV{w:World}{m:k9}{s:St}{v:Value}{c:AV}{cs:List AV}(h:c.asCells=some cs)(b:RL w m s v c):
 ∃vs:List Value,v.cells=vs.toArray/\vs.length=cs.length/\(∀v∈vs,v.oneCell'=true)/\ ∀(i:Nat)(v:Value)(c:AV),vs[i]? =some v->cs[i]? =some c->RL w m s v c:=by
 have one:v.oneCell'=true->cs=[c]-> ∃vs:List Value,v.cells=vs.toArray/\vs.length=cs.length/\(∀v∈vs,v.oneCell'=true)/\ ∀(i:Nat)(v:Value)(c:AV),vs[i]? =some v->cs[i]? =some c->RL w m s v c:=fun a e=>by
  subst e;refine⟨[v],by rw[cells_one a],rfl,by simpa using a,fun i B y f k=> ?_⟩;cases i with
  |zero=>simp at f k;subst f k;exact b
  |succ i=>simp at f
 cases c with
 | agg o=>
   simp only[AV.asCells,OH]at h;subst h;obtain⟨vs,e,x,a,q⟩:=b.agg_;subst e;exact⟨vs,rfl,x,a,q⟩
 |any=>simp[AV.asCells]at h
 |tuple=>simp[AV.asCells]at h
 |own=>simp[AV.asCells]at h
 | lit u=>
   simp only[AV.asCells]at h;split at h
   ·rename_i a;cases h;have:=b.lit_;subst this;exact one a rfl
   cases h
 | iface t u=>
   simp only[AV.asCells,OH]at h;obtain⟨A,e,_⟩:=b.iface_;exact one (by rw[e];rfl) h.symm
 | seq p l=>
   simp only[AV.asCells,OH]at h;have d:=b.seq_;exact one (by cases d;rfl) h.symm
 | ref p l i off=>
   simp only[AV.asCells,OH]at h;have d:=b.ref_;exact one (by cases d;rfl) h.symm
 | row r j=>
   simp only[AV.asCells,OH]at h;exact one (by cases b with|val h=>cases h|row _ _ a=>exact a) h.symm
 | loc r j i off=>
   simp only[AV.asCells,OH]at h;exact one (by cases b with|val h=>cases h|loc _ _ _ _ a=>exact a) h.symm
 | mp r j=>
   simp only[AV.asCells,OH]at h;exact one (by cases b with|val h=>cases h|mp _ _ a=>exact a) h.symm
 | sub r j z=>
   simp only[AV.asCells,OH]at h;exact one (by cases b with|val h=>cases h|sub _ _ _ a=>exact a) h.symm
 | clo g o=>
   simp only[AV.asCells,OH]at h;obtain⟨vs,e,_⟩:=b.clo_;exact one (by rw[e];rfl) h.symm
 | fmap l=>
   simp only[AV.asCells,OH]at h;have d:=b.fmap_;exact one (by cases d;rfl) h.symm
 | full p l=>
   simp only[AV.asCells,OH]at h;have d:=b.full_;exact one (by cases d;rfl) h.symm
 | news n p l=>
   simp only[AV.asCells,OH]at h;have d:=b.news_;exact one (by cases d;rfl) h.symm
def RV.rl{w:World}{m:k9}{s:St}{v:Value}{c:AV}(h:RV m.S w v c):RL w m s v c:= .val h
def tl{S:Nat->Nat->Prop}{w:World}{v:Value}{c:AV}{cs:List AV}(h:c.asCells=some cs)(M:RV S w v c):
 ∃vs:List Value,v.cells=vs.toArray/\vs.length=cs.length/\(∀v∈vs,v.oneCell'=true)/\ ∀(i:Nat)(v:Value)(c:AV),vs[i]? =some v->cs[i]? =some c->RV S w v c:=by
 cases M with
 |any=>simp[AV.asCells]at h
 |tuple=>simp[AV.asCells]at h
 | agg vs z D y p=>
   simp only[AV.asCells,OH]at h;subst h;exact⟨vs,rfl,D,y,p⟩
 | lit u=>
   simp only[AV.asCells]at h;split at h
   ·rename_i y;cases h;refine⟨[v],by rw[cells_one y],rfl,by simpa using y,fun i q j a d=> ?_⟩;cases i with
    |zero=>simp at a d;subst a d;exact .lit v
    |succ i=>simp at a
   cases h
 | iface t u j L=>
   simp only[AV.asCells,OH]at h;subst h;refine⟨[.iface t u],rfl,rfl,by simp[Value.oneCell'],fun i q j a d=> ?_⟩;cases i with
   |zero=>simp at a d;subst a d;exact .iface t u _ L
   |succ i=>simp at a
 | seq A n e l f b o u E s B x p G=>
   simp only[AV.asCells,OH]at h;subst h;refine⟨[.slice A n e],rfl,rfl,by simp[Value.oneCell'],fun i q j a d=> ?_⟩;cases i with
   |zero=>simp at a d;subst a d;exact .seq A n e l f b o u E s B x p G
   |succ i=>simp at a
 | ref l f i off b o u x p G=>
   simp only[AV.asCells,OH]at h;subst h;refine⟨[.pointer (some ⟨b,o+(i*l+off),none⟩)],rfl,rfl,by simp[Value.oneCell'],fun i q j a d=> ?_⟩;cases i with
   |zero=>simp at a d;subst a d;exact .ref l f _ off b o u x p G
   |succ i=>simp at a
 | clo g vs z D p=>
   simp only[AV.asCells,OH]at h;subst h;refine⟨[.func (.func g) #[] vs.toArray],rfl,rfl,by simp[Value.oneCell'],fun i q j a d=> ?_⟩;cases i with
   |zero=>simp at a d;subst a d;exact .clo g vs _ D p
   |succ i=>simp at a
 | fmap g r m f I J E x K H=>
   simp only[AV.asCells,OH]at h;subst h;refine⟨[.map (some g)],rfl,rfl,by simp[Value.oneCell'],fun i q j a d=> ?_⟩;cases i with
   |zero=>simp at a d;subst a d;exact .fmap g r m f I J E x K H
   |succ i=>simp at a
 | full A n l f C=>
   simp only[AV.asCells,OH]at h;subst h;refine⟨[.slice A n n],rfl,rfl,by simp[Value.oneCell'],fun i q j a d=> ?_⟩;cases i with
   |zero=>simp at a d;subst a d;exact .full A n l f C
   |succ i=>simp at a
 | news A n k e l f B C=>
   simp only[AV.asCells,OH]at h;subst h;refine⟨[.slice A k e],rfl,rfl,by simp[Value.oneCell'],fun i q j a d=> ?_⟩;cases i with
   |zero=>simp at a d;subst a d;exact .news A n k e l f B C
   |succ i=>simp at a
section
variable {P:Program} {x:rk} {s:St} {a:Act} {w:World} {m:k9} {o:Oper} {out:Out}
theorem kO{t:TypeId}{g p:Nat}{e:TypeId}{b:Array Value}{v:Value}{vs:List Value}(w:World)(k:w.heap[g]? =some (.cells b e (0,0)))(n:v.cells=vs.toArray)(f:(P.info? t).map (·.size)=some vs.length)(c:p+vs.length<=b.size)(j: ∀v∈vs,v.oneCell'=true):
 (Instr.storeAt t (.pointer (some ⟨g,p,none⟩)) v).run P w= .ok () (w.setRow g (b.toList.take p++vs++b.toList.drop (p+vs.length)).toArray):=by
 have d:=TH P g p e vs 0 b w k (by simpa using c) j;cases h:P.info? t with
 |none=>rw[h]at f;cases f
 | some i=>
   rw[h]at f;have l:vs.length=i.size:=by simpa using f.symm
   simp only[QT]at d;simp[Instr.storeAt,Instr.sureAddr,storeVar,sizeOf,typeInfo,h,n,l,d]
theorem zf{t:TypeId}{y z:Operand}(S:o.op= .store t y z)(I:dk x s a w m)(h:(aY P x.env s.f o).run s=some out):dh P x s a w o out:=by
 have Z:=ao I y;have hz:=ao I z;unfold aY at h;simp only[S]at h;unfold pQ at h;split at h
 ·rename_i r ver i off d e1 hd;rw[e1]at Z;obtain⟨row,A,E,D,h⟩:=dl h;obtain⟨g,X,C⟩:=Z.loc_.2 E row A;obtain⟨k,n,zz⟩:=d;obtain⟨td,hu,hk,Y⟩:=xx hd;simp only[Rd.run]at h;cases l:s.esc r with
  |true=>rw[l]at h;simp[Rd.run]at h
  | false=>
    rw[l]at h;simp only[On,P8]at h;cases J:row.es[i]? with
    |none=>rw[J]at h;simp[Rd.run]at h
    | some e=>
      rw[J]at h;simp only at h;split at h
      ·rename_i T;obtain⟨q,hq,h⟩:=fd h;cases b:q.1.asCells with
       |none=>rw[b]at h;simp[Rd.run]at h
       | some N=>
         rw[b]at h;simp only at h;split at h
         ·rename_i f;obtain⟨u,p,R⟩:=f;simp only[Rd.run,OH]at h;subst h;obtain⟨S',q1,q2,q3⟩:=ou hq I hz;obtain⟨U,V,G,H,W⟩:=tl b q3;obtain⟨er,ev,_⟩:=cd q.2 s;obtain⟨O,K,L,M⟩:=q1.store r row (by rw[er];exact A) D (by rw[GL _ _ _ R];exact l) i off e J N U G p H (fun j v c C Q=>by rw[OL T];exact W j v c C Q) g X;have B:=kO (P:=P) (t:=t) w K V (by rw[Y,G];simp[u]) L H;refine⟨.skip,_,_,undef,?_, .inr ⟨rfl,rfl⟩,by rw[gs];exact M, .val (.any _)⟩;unfold execOp;simp only[S,C,Oc,B,OX,PF]
         simp[Rd.run]at h
      ·rename_i T;cases b:(gt x.env s.f z).asCells with
       |none=>rw[b]at h;simp[Rd.run]at h
       | some N=>
         rw[b]at h;simp only at h;split at h
         ·rename_i f;obtain⟨u,p⟩:=f;simp only[Rd.run,OH]at h;subst h;obtain⟨U,V,G,H,W⟩:=nV b hz;obtain⟨O,K,L,M⟩:=I.store r row A D l i off e J N U G p H (fun j v c C Q=>by rw[OK T];exact W j v c C Q) g X;have B:=kO (P:=P) (t:=t) w K V (by rw[Y,G];simp[u]) L H;refine⟨.skip,_,_,undef,?_, .inr ⟨rfl,rfl⟩,M, .val (.any _)⟩;unfold execOp;simp only[S,C,Oc,B,OX,PF]
         simp[Rd.run]at h
 simp[Rd.run]at h
end
end
section
section
variable {P:Program} {x:rk} {s:St} {a:Act} {w:World} {m:k9} {o:Oper} {out:Out}
theorem LK{d:Option Nat}{t:TypeId}{cs:List AV}{vs:List Value}(q:dk x s a w m)(h:(mA d t cs).run s=some out)(n:vs.length=cs.length)(p: ∀v∈vs,v.oneCell'=true)
 (r: ∀(i:Nat)(v:Value)(c:AV),vs[i]? =some v->cs[i]? =some c->RL w m s v c):
 ∃m',dk x (dd out.Z2 s) a (w.alloc (.cells vs.toArray t)) m'/\RL (w.alloc (.cells vs.toArray t)) m' (dd out.Z2 s) (.pointer (some ⟨w.heap.size,0,none⟩)) out.val:=by
 unfold mA at h;cases d with
 |none=>simp[Rd.run]at h
 | some d=>
   simp only at h;split at h
   ·rename_i f;simp only[Rd.run,OH]at h;subst h
    have g:=q.newRow d ⟨cs.length,[cs],t,false⟩ vs f (by simp[maxLen]) (fun i e k=>by
     cases i with
     |zero=>simp at k;rw[<-k]
     |succ i=>simp at k) (by simpa using n) p (fun i j c b=>by
     unfold bt at b;cases i with
     | zero=>
       have b:cs[j]? =some c:=by simpa using b
       have l:j<vs.length:=by rw[n];exact(OG.1 b).1
       exact⟨vs[j],by simp[OE l],by simpa using r j _ c (OE l) b⟩
     |succ i=>simp at b)
    refine⟨_,g, .loc d (s.vs d+1) 0 0 rfl (by simp[dd,CT.app,St.renew,aE]) fun _ row u=>⟨w.heap.size,by simp[aE,Value.ownBlock],by simp⟩⟩
   simp[Rd.run]at h
theorem zl{t:TypeId}(l:o.op= .alloc t)(p:dk x s a w m)(h:(aY P x.env s.f o).run s=some out):dh P x s a w o out:=by
 unfold aY at h;simp only[l]at h;cases e:eg P t with
 |none=>rw[e]at h;simp[Rd.run]at h
 | some d=>
   rw[e]at h;simp only at h;split at h
   ·rename_i r;obtain⟨i,E,z,q,D,k,B,C,j⟩:=gF e;have n: ∀v∈d.zero,v.oneCell'=true:=fun v f=>(OP.1 r.2) v f
    obtain⟨u,y,A⟩:=LK p h (vs:=d.zero) (by simp) n (fun i v c f b=>by
     rw[OS,f]at b;simp only[O0,OH]at b;subst b
     exact .val (.lit v))
    refine⟨_,_,u,_,?_, .inl rfl,y,A⟩;have g:z.cells=d.zero.toArray:=by rw[<-j]
    unfold execOp;simp[l,Instr.alloc,zeroValue,typeInfo,q,k,newVar,newRow,g]
   simp[Rd.run]at h
theorem GJ{t:TypeId}{y:Operand}(d:o.op= .box t y)(c:dk x s a w m)(h:(aY P x.env s.f o).run s=some out):dh P x s a w o out:=by
 have e:=ao c y;unfold aY at h;simp only[d]at h;obtain⟨p,b,h⟩:=fg h;obtain⟨q,j,k,l,n⟩:=nV b e;obtain⟨f,g,i⟩:=LK c h k l n;refine⟨_,_,f,_,?_, .inl rfl,g,i⟩;unfold execOp;simp[d,Instr.box,newVar,newRow,j]
/-! Parts -/
theorem zd{b:Type}(l:List b)(p:Nat)(v:b)(vs:List b)(h:p+(vs.length+1)<=l.length):ef (l.set p v) (p+1) vs=ef l p (v::vs):=by
 apply PM;intro k;rw[bj _ _ _ (by simp;omega),bj _ _ _ (by simp;omega)];simp only[OU];by_cases c:k<p
 ·rw[OL (by omega),OL c,RG (by omega)]
 by_cases e:k=p
 ·subst e;rw[OL (by omega),OK (by omega),OL (by omega),Rf (by omega)];simp
 rw[OK (by omega),OK c];by_cases d:k<p+1+vs.length
 ·rw[OL d,OL (by omega),show k-p=(k-(p+1))+1 by omega,Pw]
 rw[OK d,OK (by omega),RG (by omega)]
theorem C3{b:Type}(l:List b)(p:Nat)(_h:p<=l.length):ef l p ([]:List b)=l:=by
 simp[ef]
theorem oE(off:Nat): ∀(vs:List Value)(k:Nat)(b:Array Value),off+k+vs.length<=b.size->(vs.zipIdx k).foldl (fun(cs:Array Value) p=>cs.setIfInBounds (off+p.2) p.1) b=(ef b.toList (off+k) vs).toArray
 |[],k,b,h=>by simp[C3 _ _ (show off+k<=b.toList.length by simpa using h)]
 | v::vs,k,b,h=>by
   simp only[List.zipIdx_cons,Sl];rw[oE off vs (k+1) _ (by simp at h |-;omega)];simp only[Array.toList_setIfInBounds];rw[show off+(k+1)=off+k+1 by omega,zd _ _ _ _ (by simp at h |-;omega)]
theorem wj{b:Nat->Option (Nat×Nat)}{l vs:List Value}{i off size:Nat}{v:Value}{rest:List (Nat×Value)}(j:b i=some (off,size))(d:v.cells=vs.toArray)(h:vs.length=size)(c:off+vs.length<=l.length):
 Instr.fill b l.toArray ((i,v)::rest)=Instr.fill b (ef l off vs).toArray rest:=by
 have f:(decide (v.cells.size≠size)||decide (off+v.cells.size>l.toArray.size))=false:=by
  rw[d];simp[h];omega
 have g:Array.foldl (fun(e:Array Value)(p:Value×Nat)=>e.setIfInBounds (off+p.2) p.1) l.toArray v.cells.zipIdx=(ef l off vs).toArray:=by
  rw[d];have:=oE off vs 0 l.toArray (by simpa using c);simpa[Sy]using this
 simp only[Instr.fill,j,g];rw[OK (by simpa using f)]
theorem wm{R:Value->AV->Prop}(J: ∀ {v:Value}{c:AV}{cs:List AV},c.asCells=some cs->R v c-> ∃vs:List Value,v.cells=vs.toArray/\vs.length=cs.length/\(∀v∈vs,v.oneCell'=true)/\ ∀(i:Nat)(v:Value)(c:AV),vs[i]? =some v->cs[i]? =some c->R v c)
 (E:List (Nat×TypeId×Nat))(e:Nat->Option (Nat×Nat))(K: ∀(i off:Nat)(t:TypeId)(n:Nat),E[i]? =some (off,t,n)->e i=some (off,n)):
 ∀(ps:List (Nat×AV))(pv:List (Nat×Value))(cs:List AV)(l:List Value)(d:List AV),mM E cs ps=some d->pv.map (·.1)=ps.map (·.1)->(∀(i:Nat)(p:Nat×Value)(q:Nat×AV),pv[i]? =some p->ps[i]? =some q->R p.2 q.2)->
  l.length=cs.length->(∀v∈l,v.oneCell'=true)->(∀(i:Nat)(v:Value)(c:AV),l[i]? =some v->cs[i]? =some c->R v c)->
  ∃z:List Value,Instr.fill e l.toArray pv=some z.toArray/\z.length=d.length/\(∀v∈z,v.oneCell'=true)/\ ∀(i:Nat)(v:Value)(c:AV),z[i]? =some v->d[i]? =some c->R v c
 | [],pv,cs,l,d,h,r,_,D,A,B=>by
   have:pv=[]:=by simpa using r
   subst this;simp only[mM,OH]at h;subst h;exact⟨l,rfl,D,A,B⟩
 |(i,y)::ps,[],cs,l,d,h,r,_,D,A,B=>by simp at r
 |(i,y)::ps,(j,v)::pv,cs,l,d,h,r,C,D,A,B=>by
   simp only[PE,Qc]at r;obtain⟨rfl,r⟩:=r;simp only[mM]at h;split at h
   ·rename_i off S n N O Q;split at h
    ·rename_i T;obtain⟨U,G⟩:=T;obtain⟨vs,Z,w2,w3,w4⟩:=J Q (C 0 (j,v) (j,y) rfl rfl);have f:off+vs.length<=l.length:=by omega
     have g:off+N.length<=cs.length:=G
     obtain⟨z,V,W,X,Y⟩:=wm J E e K ps pv (ef cs off N) (ef l off vs) d h r (fun i p q H I=>C (i+1) p q (by simpa using H) (by simpa using I)) (by rw[dP _ _ _ f,dP _ _ _ g,D])
      (fun u hu=>by
       simp only[ef,Of]at hu;rcases hu with(hu|hu)|hu
       ·exact A u (Ph hu)
       ·exact w3 u hu
       exact A u (Qf hu))
      (fun k u c hu b=>by
       rw[bj _ _ _ f]at hu;rw[bj _ _ _ g]at b;by_cases L:k<off
       ·rw[OL L]at hu b;exact B k u c hu b
       rw[OK L]at hu b;by_cases M:k<off+vs.length
       ·rw[OL M]at hu;rw[OL (by omega)]at b;exact w4 _ u c hu b
       rw[OK M]at hu;rw[OK (by omega)]at b
       exact B k u c hu b)
     exact⟨z,by rw[wj (K j off S n O) Z (by omega) f];exact V,W,X,Y⟩
    cases h
   cases h
theorem wK: ∀(b:List Field)(c:List (Nat×TypeId×Nat)),b.mapM (fun f=>(P.info? f.type).map fun i=>(f.offset,f.type,i.size))=some c->b.mapM (fun f=>(P.info? f.type).map fun i=>(f.offset,i.size))=some (c.map fun q=>(q.1,q.2.2))
 |[],c,h=>by simp at h;subst h;simp
 | f::b,c,h=>by
   simp only[Rs,SA,Rm]at h |-;cases e:P.info? f.type with
   |none=>simp[e]at h
   | some g=>
     cases d:b.mapM (fun f=>(P.info? f.type).map fun i=>(f.offset,f.type,i.size)) with
     |none=>simp[e,d]at h
     | some r=>
       simp[e,d]at h;subst h;rw[wK b r d];rfl
theorem zj{t:TypeId}{b:Array (Nat×Operand)}(I:o.op= .build t b)(E:dk x s a w m)(h:(aY P x.env s.f o).run s=some out):dh P x s a w o out:=by
 unfold aY at h;simp only[I]at h;split at h
 ·rename_i k eq n z H;split at h
  ·rename_i U;obtain⟨V,A⟩:=U;obtain⟨D,N,h⟩:=fg h;obtain rfl:=bE h;obtain⟨i,td,J,Q,T,B,hk,hs,e⟩:=gF H;obtain⟨f,S,r,_⟩:=eC H;have l:=wK (P:=P) f.toList k r;have e:J.cells.toList=z:=e
   have d:=wm (R:=RL w m s) (fun K L=>nV K L) k (fun i=>(k.map fun q=>(q.1,q.2.2)).toArray[i]?) (fun i off t n O=>by simp[O]) _ (b.toList.map fun p=>(p.1,a.eval p.2)) _ z D N (by simp) (fun i p q g u=>by
    rw[OS]at g u;cases j:b.toList[i]? with
    |none=>rw[j]at g;cases g
    | some W=>
      rw[j]at g u;cases g;cases u;exact ao E W.2) (by simp) (fun v y=>(OP.1 A) v y) (fun i v c y G=>by
    rw[OS,y]at G;cases G
    exact .val (.lit v))
   obtain⟨C,X,Y,Z,r4⟩:=d
   have M:P.built t (b.map fun(i,x)=>(i,a.eval x)).toList=some C.toArray:=by
    unfold Program.built;rw[Q,S];simp only[B,l];rw[show J.cells=z.toArray by simp[<-e]];simpa using X
   refine .same E (v:= .agg C.toArray) ?_ rfl (.agg C D Y Z r4);unfold execOp;simp only[I,Oc,run_build w t _ _ M,OX,PF]
  simp[Rd.run]at h
 simp[Rd.run]at h
end
end
section
def NG{k:Nat}(h:k=0)(f:Nat->Value):(Array.range k).map f= #[]:=by
 subst h;apply Array.ext<;>simp
structure D0(S:Nat->Nat->Prop)(w:World)(sz:Nat)(l:List Value)(es:List (List AV)):Prop where
 len:l.length=es.length*sz
 one: ∀v∈l,v.oneCell'=true
 ZQ: ∀(i:Nat)(e:List AV),es[i]? =some e->e.length=sz
 cell: ∀(i j:Nat)(c:AV),bt es i j=some c-> ∃u,l[i*sz+j]? =some u/\RV S w u c
def D0.mono{S S':Nat->Nat->Prop}{w w':World}{sz:Nat}{l:List Value}{es:List (List AV)}(h:D0 S w sz l es)(e: ∀b o,S b o->S' b o/\k0 w w' b o):D0 S' w' sz l es:=
 ⟨h.len,h.one,h.ZQ,fun i j c f=>by obtain⟨u,a,d⟩:=h.cell i j c f;exact⟨u,a,d.mono e⟩⟩
def D0.rep{S:Nat->Nat->Prop}{w:World}{sz:Nat}{a:List Value}(n:Nat)(l:a.length=sz)(q: ∀v∈a,v.oneCell'=true)(f:0<sz):
 D0 S w sz ((Array.range (n*sz)).map (a.toArray[· % a.toArray.size]!)).toList (List.replicate n (a.map .lit)):=by
 have d: ∀k,k<n*sz->(((Array.range (n*sz)).map (a.toArray[· % a.toArray.size]!)).toList)[k]? =some (a.getD (k%sz) undef):=fun k h=>by
  have o:k%sz<a.length:=by rw[l];exact Rt _ f
  simp[h,l];rw[OE o];simp
 refine⟨by simp,fun v s=> ?_,fun i e g=> ?_,fun i j c b=> ?_⟩
 ·obtain⟨k,h,rfl⟩:=Pe s;have m:k<n*sz:=by simpa using h
  have:=d k m;rw[OE h]at this;injection this with this
  rw[this];have o:k%sz<a.length:=by rw[l];exact Rt _ f
  simp only[List.getD,OE o,Pk];exact q _ (PV _)
 ·rw[R7]at g;split at g
  ·cases g;simpa using l
  cases g
 unfold bt at b;rw[R7]at b;split at b
 ·rename_i r;have b:(a.map AV.lit)[j]? =some c:=b;have p:j<sz:=by have:=(OG.1 b).1;simp at this;omega
  rw[OS]at b;refine⟨a.getD j undef,?_,?_⟩
  ·rw[d _ (kg r p),QU i sz,Nat.mul_add_mod,Qw p]
  rw[OE (by omega)]at b;simp only[O0,OH]at b;subst b;simp only[List.getD,OE (show j<a.length by omega),Pk];exact .lit _
 cases b
def D0.set{S:Nat->Nat->Prop}{w:World}{sz:Nat}{l:List Value}{es:List (List AV)}(h:D0 S w sz l es)(i:Nat)(hi:i<es.length)(m:List AV)(vs:List Value)(y:m.length=sz)(q:vs.length=sz)(t: ∀v∈vs,v.oneCell'=true)
 (x: ∀(j:Nat)(v:Value)(c:AV),vs[j]? =some v->m[j]? =some c->RV S w v c):i*sz+vs.length<=l.length/\D0 S w sz (ef l (i*sz) vs) (es.set i m):=by
 have b:i*sz+vs.length<=l.length:=by
  have:(i+1)*sz<=es.length*sz:=Oz _ hi;rw[P7,Q7]at this;rw[h.len,q];exact this
 have k: ∀(p:Nat)(e:List AV),(es.set i m)[p]? =some e->e.length=sz:=fun p e hp=>by
  rw[Pg]at hp;by_cases n:i=p
  ·rw[OL n,OL hi]at hp;cases hp;exact y
  rw[OK n]at hp;exact h.ZQ p e hp
 refine⟨b,by rw[dP _ _ _ b,h.len];simp,fun u hu=> ?_,k,fun p j c a=> ?_⟩
 ·simp only[ef,Of]at hu;rcases hu with(hu|hu)|hu
  ·exact h.one u (Ph hu)
  ·exact t u hu
  exact h.one u (Qf hu)
 have f:=eL k a;simp only[QO]at f;rw[bj _ _ _ b];by_cases g:p=i
 ·subst g
  have d:m[j]? =some c:=by
   unfold bt at a;rw[Rf hi]at a;exact a
  have o:j<vs.length:=by rw[q];exact f.2
  refine⟨vs[j],?_,x j _ c (OE o) d⟩;rw[OK (by omega),OL (by omega),show p*sz+j-p*sz=j by omega,OE o]
 have d:bt es p j=some c:=by
  unfold bt at a |-;rw[RG (Py g)]at a;exact a
 obtain⟨u,s,z⟩:=h.cell p j c d;refine⟨u,?_,z⟩;by_cases r:p*sz+j<i*sz
 ·rw[OL r];exact s
 rw[OK r,OK ?_]
 ·exact s
 intro A;rcases QN p i with hp|hp
 ·have:(p+1)*sz<=i*sz:=Oz _ hp;rw[P7,Q7]at this;omega
 have:(i+1)*sz<=p*sz:=Oz _ (by omega);rw[P7,Q7]at this;omega
def wl{S:Nat->Nat->Prop}{w:World}{sz:Nat} : ∀(ps:List (Nat×AV))(pv:List (Nat×Value))(es:List (List AV))(l:List Value)(a:List (List AV)),jD sz es ps=some a->pv.map (·.1)=ps.map (·.1)->
 (∀(i:Nat)(p:Nat×Value)(q:Nat×AV),pv[i]? =some p->ps[i]? =some q->RV S w p.2 q.2)->D0 S w sz l es->
 ∃g:List Value,Instr.fill (fun i=>some (i*sz,sz)) l.toArray pv=some g.toArray/\D0 S w sz g a
 | [],pv,es,l,a,h,b,_,f=>by
   have:pv=[]:=by simpa using b
   subst this;simp only[jD,OH]at h;subst h;exact⟨l,rfl,f⟩
 |(i,y)::ps,[],es,l,a,h,b,_,f=>by simp at b
 |(i,y)::ps,(j,v)::pv,es,l,a,h,b,e,f=>by
   simp only[PE,Qc]at b;obtain⟨rfl,b⟩:=b;simp only[jD]at h;cases c:y.asCells with
   |none=>rw[c]at h;cases h
   | some C=>
     rw[c]at h;simp only at h;split at h
     ·rename_i s;obtain⟨m,n⟩:=s;obtain⟨x,z,D,A,B⟩:=tl c (e 0 (j,v) (j,y) rfl rfl);obtain⟨d,k⟩:=f.set j n C x m (by omega) A B;obtain⟨g,t,u⟩:=wl ps pv _ _ a h b (fun i p q o r=>e (i+1) p q (by simpa using o) (by simpa using r)) k;exact⟨g,by rw[wj (off:=j*sz) rfl z (by omega) d];exact t,u⟩
     cases h
section
variable {x:rk} {a:Act} {w:World}
theorem tG{s s':St}(b:s'.rows=s.rows)(d:s'.vs=s.vs)(c:AV):(fz c).run s'=(fz c).run s:=by
 cases c with
 | agg e=>
   simp only[fz,Rd.run_bind,gU b d];rfl
 | clo g e=>
   simp only[fz,Rd.run_bind,gU b d];rfl
 | _=>
   simp only[fz];exact qh b d
theorem oD{s s':St}(b:s'.rows=s.rows)(d:s'.vs=s.vs): ∀ps:List (Nat×AV),(eI ps).run s'=(eI ps).run s
 |[]=>rfl
 |(i,c)::ps=>by
   simp only[eI,Rd.run_bind,tG b d,oD b d ps];rfl
theorem tH: ∀ {ps:List (Nat×AV)}{pv:List (Nat×Value)}{s:St}{m:k9}{y:List (Nat×AV)×List Nat},(eI ps).run s=some y->dk x s a w m->pv.map (·.1)=ps.map (·.1)->
 (∀(i:Nat)(p:Nat×Value)(q:Nat×AV),pv[i]? =some p->ps[i]? =some q->RL w m s p.2 q.2)->
 ∃S',dk x (dd (g4 y.2) s) a w ⟨S',m.ρ⟩/\(∀b o,m.S b o->S' b o)/\pv.map (·.1)=y.1.map (·.1)/\ ∀(i:Nat)(p:Nat×Value)(q:Nat×AV),pv[i]? =some p->y.1[i]? =some q->RV S' w p.2 q.2
 | [],pv,s,m,y,h,l,d,_=>by
   have:pv=[]:=by simpa using d
   subst this;simp only[eI,Rd.run,OH]at h;subst h;exact⟨m.S,l,fun _ _ h=>h,rfl,fun i p q e _=>by simp at e⟩
 |(i,c)::ps,[],s,m,y,h,l,d,_=>by simp at d
 |(i,c)::ps,(j,v)::pv,s,m,y,h,l,d,f=>by
   simp only[PE,Qc]at d;obtain⟨rfl,d⟩:=d;simp only[eI]at h;obtain⟨t,D,h⟩:=fd h;obtain⟨J,E,h⟩:=fd h;simp only[Rd.run,OH]at h;subst h;obtain⟨K,H,z,I⟩:=ou D l (f 0 (j,v) (j,c) rfl rfl);obtain⟨B,C,_⟩:=cd t.2 s;have n:(eI ps).run (dd (g4 t.2) s)=some J:=by rw[<-E];exact oD B C ps
   obtain⟨A,G,u,p3,p4⟩:=tH n H d (fun i p q e g=>(f (i+1) p q (by simpa using e) (by simpa using g)).shown t.2 z);refine⟨A,by simp only[g4,Oa,gs];exact G,fun b o r=>u b o (z b o r),by simp[p3],fun k p q e g=> ?_⟩;cases k with
   | zero=>
     simp only[PK,OH]at e g;subst e g;exact I.mono fun b o r=>⟨u b o r, .rfl⟩
   |succ k=>exact p4 k p q (by simpa using e) (by simpa using g)
end
section
variable {P:Program} {x:rk} {s:St} {a:Act} {w:World} {m:k9} {o:Oper} {out:Out}
theorem qW{d:Nat}{e:TypeId}{sz:Nat}{es:List (List AV)}{l:List Value}(p:dk x s a w m)(f:0<sz)(b:es.length<=maxLen)(g:D0 m.S w sz l es):
 ∃m',dk x (dd [.renew d ⟨sz,es,e,true⟩] s) a (w.alloc (.cells l.toArray e)) m'/\RL (w.alloc (.cells l.toArray e)) m' (dd [.renew d ⟨sz,es,e,true⟩] s) (.slice (some ⟨w.heap.size,0,none⟩) es.length es.length) (.row d (s.vs d+1)):=by
 have h:=p.newRow d ⟨sz,es,e,true⟩ l f b g.ZQ g.len g.one (fun i j c q=>by
  obtain⟨u,k,n⟩:=g.cell i j c q
  exact⟨u,k,by simpa using n⟩)
 exact⟨_,h, .row d (s.vs d+1) rfl (by simp[dd,CT.app,St.renew,aE]) fun _ row r=>by simp[aE]⟩
theorem pJ{t:TypeId}{n:Nat}{c:Array (Nat×Operand)}(W:o.op= .buildSlice t n c)(R:dk x s a w m)(h:(aY P x.env s.f o).run s=some out):dh P x s a w o out:=by
 unfold aY at h;simp only[W]at h;split at h
 ·rename_i e b eb l n' z' d hd U;split at h
  ·rename_i hc;obtain⟨K,g,L,T⟩:=hc;have G: ∀v∈l,v.oneCell'=true:=fun v hv=>(OP.1 L) v hv;obtain⟨q,E,h⟩:=fd h;obtain⟨r,V,h⟩:=fg h;simp only[Rd.run,OH]at h;subst h;obtain⟨hu,ie,Z,X,i2,i3,i4,i5⟩:=bF hd
   obtain⟨S',q1,q2,q3,q4⟩:=tH (pv:=c.toList.map fun p=>(p.1,a.eval p.2)) E R (by simp) (fun i p q C E=>by
    rw[OS]at C E;cases D:c.toList[i]? with
    |none=>rw[D]at C;cases C
    | some pp=>
      rw[D]at C E;cases C;cases E
      exact ao R pp.2)
   obtain⟨Y,O,r2⟩:=wl (S:=S') (w:=w) (sz:=b) q.1 (c.toList.map fun p=>(p.1,a.eval p.2)) _ _ r V q3 q4 (D0.rep n K G g);obtain⟨e1,e2,_⟩:=cd q.2 s
   have f:r.length=n:=by
    have: ∀(H:List (Nat×AV))(r j:List (List AV)),jD b r H=some j->j.length=r.length:=by
     intro H
     induction H with
     |nil=>intro r j h;simp only[jD,OH]at h;rw[h]
     | cons p H ih=>
       intro r j h;obtain⟨i,y⟩:=p;simp only[jD]at h;split at h
       ·split at h
        ·rw[ih _ _ h];simp
        cases h
       cases h
    rw[this _ _ _ V];simp
   have hnm:n<=16777216:=by
    rcases QN 16777216 n with B|B
    ·have:n*1<=n*b:=Nat.mul_le_mul_left _ g;omega
    exact B
   obtain⟨m',p1,p2⟩:=qW (d:=d) (e:=e) q1 g (by rw[f];unfold maxLen;omega) r2;refine⟨_,_,m',_,?_, .inl rfl,by rw[gs];exact p1,by rw[gs];have:=p2;rw[e2]at this;exact this⟩;have M:Z.cells=l.toArray:=by simp[<-i5]
   have hs:(sizeOf e).run P w= .ok b w:=by simp[sizeOf,typeInfo,X,i3]
   have N:(zeroValue e).run P w= .ok Z w:=by simp[zeroValue,typeInfo,X,i2]
   have u: ¬(n*b>2^24):=by omega
   have k:((Array.range (n*b)).map (l.toArray[· % l.toArray.size]!))=((Array.range (n*b)).map (l.toArray[· % l.toArray.size]!)).toList.toArray:=PP.symm;unfold execOp;simp only[W,Instr.buildSlice,Oc,OV hu,OX,hs,Sem.run_ite,OK u];by_cases I:n*b=0
   ·have J:n=0:=by
     rcases Nat.mul_eq_zero.1 I with B|B
     ·exact B
     omega
    subst J;have Q: ∀z:Array Value,((Array.range (0*b)).map (z[· % z.size]!))= #[]:=fun z=>NG (Qp _) _;rw[Q]at O
    have A:Instr.fill (fun i=>some (i*b,b)) #[] (c.map fun(i,x)=>(i,a.eval x)).toList=some Y.toArray:=by
     simpa using O
    simp only[OL I,PF,OX,Q,A];simp[newRow,f]
   have A:Instr.fill (fun i=>some (i*b,b)) ((Array.range (n*b)).map (l.toArray[· % l.toArray.size]!)) (c.map fun(i,x)=>(i,a.eval x)).toList=some Y.toArray:=by
    rw[k];simpa using O
   simp only[OK I,N,Oc,OX,PF,M,A];simp[newRow,f]
  simp[Rd.run]at h
 simp[Rd.run]at h
theorem lI{t:TypeId}{y:Operand}(f:o.op= .makeInterface t y)(c:dk x s a w m)(h:(aY P x.env s.f o).run s=some out):dh P x s a w o out:=by
 have p:=ao c y;unfold aY at h;simp only[f]at h;split at h
 ·simp[Rd.run]at h
 ·rename_i d b g;obtain⟨B,v,D,i,l,_,e,_⟩:=gF g;obtain⟨q,j,h⟩:=fd h;simp only[Rd.run,OH]at h;subst h;obtain⟨A,r,C,u⟩:=ou j c p;refine⟨_,w,_, .iface t (a.eval y),?_, .inl rfl,r, .val (.iface t _ _ u)⟩;unfold execOp;obtain⟨k,n,z⟩:=d
  cases v<;>first
   |(simp only[su,OH]at e;exact absurd (by rw[<-e]) (b _ _))
   |simp[f,Instr.makeInterface,OV l]
 simp[Rd.run]at h
end
end
section
section
variable {P:Program} {x:rk} {s:St} {a:Act} {w:World} {m:k9} {o:Oper} {out:Out}
def tt(w:World)(m:k9)(s:St):Option Value->Option AV->Prop
 |none,none=>True
 |some u,some c=>RL w m s u c
 |_,_=>False
theorem pC{w':World}{m':k9}{s':St}{l d k:Nat}{y:Option AV}{v:Option Value}(h:An l d y=some k)(b:tt w' m' s' v y):
 (y=none/\v=none/\k=d)\/ ∃e i,v=some (.int e i)/\0<=i/\i<=l/\k=i.toNat:=by
 cases y with
 | none=>
   cases v with
   |none=>simp only[An,OH]at h;exact .inl ⟨rfl,rfl,h.symm⟩
   |some u=>exact b.elim
 | some c=>
   cases v with
   |none=>exact b.elim
   | some u=>
     have b:RL w' m' s' u c:=b;cases c with
     | lit val=>
       have:=b.lit_;subst this;cases u with
       | int e i=>
         simp only[An]at h;split at h
         ·rename_i f;cases h;exact .inr ⟨e,i,rfl,f.1,f.2,rfl⟩
         cases h
       |_=>simp[An]at h
     |_=>simp[An]at h
theorem kP{isS:Bool}{n cap:Nat}{lo hi:Option Value}{l h:Nat}(p:n<=cap)(q:(hi=none/\h=n)\/ ∃b i,hi=some (.int b i)/\0<=i/\i<=n/\h=i.toNat)
 (r:(lo=none/\l=0)\/ ∃b i,lo=some (.int b i)/\0<=i/\i<=h/\l=i.toNat):(Instr.sliceBounds isS n cap lo hi none).run P w= .ok (l,h,cap) w/\l<=h/\h<=n:=by
 have f:h<=n:=by rcases q with⟨_,e⟩|⟨b,i,_,d,k,e⟩<;>omega
 have g:l<=h:=by rcases r with⟨_,e⟩|⟨b,i,_,d,k,e⟩<;>omega
 refine⟨?_,g,f⟩;rcases q with⟨rfl,rfl⟩|⟨b,i,rfl,d,k,rfl⟩<;>rcases r with⟨rfl,rfl⟩|⟨c,j,rfl,t,u,rfl⟩
 ·simp[Instr.sliceBounds]
 ·simp[Instr.sliceBounds,Ru w c j h _ t u]
 ·simp[Instr.sliceBounds,Ru w b i cap _ d (by omega)]
 simp[Instr.sliceBounds,Ru w b i cap _ d (by omega),Ru w c j i.toNat _ t u]
theorem yz(b:dk x s a w m)(lo:Option Operand):tt w m s (lo.map a.eval) (lo.map (gt x.env s.f)):=by
 cases lo with
 |none=>trivial
 |some y=>exact ao b y
structure UZ(s s':St):Prop where
 f: ∀t,s'.f t=s.f t\/s'.f t= .any
 rows: ∀r,s'.rows r=s.rows r\/s'.rows r=none
 vs:s'.vs=s.vs
 esc:s'.esc=s.esc
theorem dk.less{x:rk}{s s':St}{a:Act}{w:World}{m:k9}(h:dk x s a w m)(i:UZ s s'):dk x s' a w m:=by
 have k: ∀r c,s'.vs r=s.vs r->s'.rows r=some c-> ∃row,s.rows r=some row/\row.sz=c.sz/\m.ρ r=m.ρ r:=fun r c _ f=>by
  rcases i.rows r with e|e
  ·exact⟨c,by rw[<-e];exact f,rfl,rfl⟩
  rw[e]at f;cases f
 have d: ∀r c,s'.rows r=some c->s.rows r=some c:=fun r c f=>by
  rcases i.rows r with e|e
  ·rw[<-e];exact f
  rw[e]at f;cases f
 have g: ∀r,s.vs r<=s'.vs r:=fun r=>by rw[i.vs];exact OO _
 refine⟨h.bel,h.low,h.ZR,h.sub,h.env,h.ZV,h.ZU,h.ZT,h.ZP,fun t=> ?_,fun r row f=> ?_,fun r q row c l n=>h.inj r q row c (d _ _ l) (d _ _ n),h.ZG,h.toV g,h.toK g k,h.ZX,h.fix,fun r row f=>h.Z3 r row (d r row f)⟩
 ·rcases i.f t with e|e
  ·rw[e];exact(h.slot t).mono (fun b o j=>⟨j, .rfl⟩) g k
  rw[e];exact .val (.any _)
 exact(h.rows r row (d r row f)).mono (fun b o j=>⟨j, .rfl⟩) g k rfl (fun _ _=>rfl) (by rw[i.esc]) (fun _ _ _ p=>p)
theorem dk.cut{x:rk}{s:St}{a:Act}{w:World}{m:k9}(h:dk x s a w m)(r n:Nat)(row:Row)(O:s.rows r=some row)(S:row.sz≠0)(W:row.pure=true)(K:s.esc r=false)(V:n<=row.es.length):
 ∃A len cap,m.ρ r= .slice A len cap/\len=row.es.length/\n<=cap/\len<=cap/\(∀k,A.map (·.add k)=A.map (·.add k))/\(A=none\/ ∃g,A=some ⟨g,0,none⟩)/\dk x (s.renew r { row with es:=row.es.take n } (s.esc r)) a w ⟨m.S,na m.ρ r (.slice A n cap)⟩:=by
 have k:=(h.rows r row O).cells S;obtain⟨Z,X,k2,k3⟩:=k.own
 have h0:dk x { s with rows:=na s.rows r none } a w m:=h.less ⟨fun _=> .inl rfl,fun q=>by
  by_cases e:q=r
  ·right;simp[e,aE]
  left;simp[ct _ _ _ e],rfl,rfl⟩
 have Q: ∀q d,({ s with rows:=na s.rows r none } :St).rows q=some d->q≠r/\s.rows q=some d:=fun q d B=>by
  by_cases e:q=r
  ·subst e;simp[aE]at B
  exact⟨e,by simpa[ct _ _ _ e]using B⟩
 have T:({ s with rows:=na s.rows r none } :St).renew r { row with es:=row.es.take n } (s.esc r)=s.renew r { row with es:=row.es.take n } (s.esc r):=by
  simp only[St.renew,St.mk.injEq,true_and,TM]
  funext q
  by_cases e:q=r
  ·subst e;simp[aE]
  simp[ct _ _ _ e]
 have z: ∀i j c,bt (row.es.take n) i j=some c->bt row.es i j=some c/\i<n:=fun i j c y=>by
  unfold bt at y |-;rw[Om]at y;split at y
  ·rename_i t;exact⟨y,t⟩
  simp at y
 have D:(row.es.take n).length=n:=by rw[OZ];omega
 have v: ∀A len cap,m.ρ r= .slice A len cap->(∀b,(Value.slice A n cap).ownBlock=some b->(m.ρ r).ownBlock=some b)->w.ownsRow x.w.heap.size row.e row.sz (.slice A n cap) n (Z.take (n*row.sz))->dk x (s.renew r { row with es:=row.es.take n } (s.esc r)) a w ⟨m.S,na m.ρ r (.slice A n cap)⟩:=fun A len cap hm f E=>by
  have U:=h0.renew r { row with es:=row.es.take n } (s.esc r) (.slice A n cap) m.S (Oy _ _) (fun b o l=>⟨l, .rfl⟩) (fun b o l=> .inl l) (fun q d B R g p=>by
   obtain⟨e1,I⟩:=Q q d R
   exact⟨rfl,fun e=>h.inj r q row d O I (Py e1) g (f g e) p,fun o l=>l⟩)
   (.inl ⟨k.pos,(fun i G t=>by
    have t:(row.es.take n)[i]? =some G:=t;rw[Om]at t;split at t
    ·exact k.len i G t
    ·cases t),(by
    refine⟨Z.take (n*row.sz),by simp only[aE,D];exact E,fun u hu=>k2 u (Ph hu),fun i j c y=> ?_⟩;obtain⟨C,c2⟩:=z i j c y;obtain⟨u,u1,Y⟩:=k3 i j c C;rw[OL W]at Y
    have hj:j<row.sz:=by
     unfold bt at C;cases B:row.es[i]? with
     |none=>rw[B]at C;cases C
     | some G=>
       rw[B]at C;rw[<-k.len i G B];exact(OG.1 C).1
    have L:i*row.sz+j<n*row.sz:=by
     calc i*row.sz+j<i*row.sz+row.sz:=by omega
      _=(i+1)*row.sz:=by rw[P7,Q7]
      _<=n*row.sz:=Oz _ c2
    exact⟨u,by rw[Om,OL L];exact u1,by rw[OL W];exact Y⟩),(fun l g p o ho=>by
    simp only[aE,St.renew]at l p;rw[K]at l;cases l),(fun g p o ho=>by
    simp only[aE]at p;exact k.fresh K g (f g p) o),(fun l g p o=>by
    simp only[aE,St.renew]at l p
    exact k.fresh K g (f g p) o)⟩) (fun b hf=>⟨rfl,fun _ l=>l,fun e=>h.Z3 r row O b (f b e) hf⟩)
  rw[T]at U;exact U
 rcases X.2 with⟨e,e0⟩|⟨g,cap,H,e,I,e3,e4,e5,e6,e7⟩
 ·have M:n=0:=by omega
  subst M;refine⟨none,0,0,e,e0.symm,OO _,OO _,fun _=>rfl, .inl rfl,v none 0 0 e (fun b J=>by simp[Value.ownBlock]at J) ?_⟩;rw[Qp];exact Pr _ _ _ _
 have N:row.es.length<=cap:=e4;refine⟨some ⟨g,0,none⟩,row.es.length,cap,e,rfl,by omega,N,fun _=>rfl, .inr ⟨g,rfl⟩,v _ _ cap e (fun b J=>by rw[e];exact J) ⟨?_, .inr ⟨g,cap,H,rfl,I,e3,by omega,e5,e6,?_⟩⟩⟩
 ·rw[OZ,X.1,Qd (Oz _ V)]
 rw[<-e7,Sz,Qd (Oz _ V)]
theorem GI{t e:TypeId}{j M n:Nat}{z N:List Value}{y:Operand}{lo hi:Option Operand}{r k:Nat}{E:IntKind}{i:Int}{row:Row}(U:o.op= .slice t y lo hi none)(Q:dk x s a w m)(R:eg P t=some ⟨.slice e j M N,n,z⟩)(Y:RL w m s (a.eval y) (.row r k))(q:tt w m s (lo.map a.eval) none)(c:tt w m s (hi.map a.eval) (some (.lit (.int E i))))
 (S:s.esc r=false)(J:s.rows r=some row)(f:s.vs r=k)(H:row.sz≠0)(V:row.pure=true)(G:0<=i)(T:i<=row.es.length)(B:out=⟨.row r (k+1),[.grow r { row with es:=row.es.take i.toNat }]⟩):dh P x s a w o out:=by
 obtain⟨K,ie,ze,Z,i2,i3,i4,i5⟩:=bF R;have X:a.eval y=m.ρ r:=Y.row_.2 f row J;obtain⟨A,d,b,q1,q2,q3,q4, -,q5,q6⟩:=Q.cut r i.toNat row J H V S (by omega)
 have v:lo.map a.eval=none:=by
  cases D:lo.map a.eval with
  |none=>rfl
  |some u=>rw[D]at q;exact q.elim
 have p:hi.map a.eval=some (.int E i):=by
  cases D:hi.map a.eval with
  |none=>rw[D]at c;exact c.elim
  |some u=>rw[D]at c;have c:RL w m s u (.lit (.int E i)):=c;rw[c.lit_]
 obtain⟨C,p1,p2⟩:=kP (P:=P) (w:=w) (isS:=true) (n:=d) (cap:=b) (lo:=lo.map a.eval) (hi:=hi.map a.eval) (l:=0) (h:=i.toNat) q4
  (.inr ⟨E,i,p,G,by omega,rfl⟩) (.inl ⟨v,rfl⟩)
 have W:(sizeOf e).run P w= .ok j w:=by simp[sizeOf,typeInfo,Z,i3]
 have O:(if b=0 then A else A.map (·.add (0*j)))=A:=by
  split
  ·rfl
  rcases q5 with rfl|⟨g,rfl⟩
  ·rfl
  rw[Qp,O0,add_plain]
 have I:(Instr.sliceAt t (.slice A d b) (lo.map a.eval) (hi.map a.eval) none).run P w= .ok (.slice A i.toNat b) w:=by
  have:(Instr.sliceAt t (.slice A d b) (lo.map a.eval) (hi.map a.eval) none).run P w=(Instr.slice t (.slice A d b) (lo.map a.eval) (hi.map a.eval) none).run P w:=by
   simp[Instr.sliceAt,OV K]
  rw[this];simp only[Instr.slice,OV K,Oc,OX,C,W,PF,Rw];rw[O]
 subst B;refine⟨_,w,_, .slice A i.toNat b,?_, .inl rfl,q6,?_⟩
 ·unfold execOp;simp only[U,X,q1,SH,Oc,I,OX,PF]
 subst f;exact .row r (s.vs r+1) rfl (by simp[dd,CT.app,St.renew,aE]) fun _ L _=>by simp[aE]
theorem jx{t e:TypeId}{d eb n:Nat}{z ez:List Value}{y:Operand}{lo hi:Option Operand}(ho:o.op= .slice t y lo hi none)(hS:dk x s a w m)(hd:eg P t=some ⟨.slice e d eb ez,n,z⟩)(hy:RL w m s (a.eval y) (gt x.env s.f y))(N:tt w m s (lo.map a.eval) (lo.map (gt x.env s.f)))(M:tt w m s (hi.map a.eval) (hi.map (gt x.env s.f)))
 (h:(iW d (gt x.env s.f y) (lo.map (gt x.env s.f)) (hi.map (gt x.env s.f))).run s=some out):dh P x s a w o out:=by
 obtain⟨W,ie,ze,i1,i2,i3,i4,i5⟩:=bF hd;unfold iW at h;obtain⟨q,hq,h⟩:=fd h;split at h
 ·rename_i sz E r;split at h
  ·rename_i R;subst R;cases K:An E.length E.length (hi.map (gt x.env s.f)) with
   |none=>rw[K]at h;simp[Rd.run]at h
   | some B=>
     rw[K]at h;simp only at h;cases C:An B 0 (lo.map (gt x.env s.f)) with
     |none=>rw[C]at h;simp[Rd.run]at h
     | some l=>
       rw[C]at h;simp only[Rd.run,OH]at h;subst h;have Y:=pC K M;have Z:=pC C N;obtain⟨S',q1,q2,X⟩:=ou hq hS hy;rw[r]at X;generalize hv:a.eval y=vy at*;cases X with
       | seq A v f sz E b p u hn G hA hz L O=>
         obtain⟨I,p1,p2⟩:=kP (P:=P) (w:=w) (isS:=true) (n:=v) (cap:=f) (lo:=lo.map a.eval) (hi:=hi.map a.eval) (l:=l) (h:=B) G
          (by rcases Y with⟨_,r,D⟩ | ⟨S,i,r,D,T,J⟩
              ·exact .inl ⟨r,by omega⟩
              exact .inr ⟨S,i,r,D,by omega,J⟩)
          (by rcases Z with⟨_,r,D⟩ | ⟨S,i,r,D,T,J⟩
              ·exact .inl ⟨r,D⟩
              exact .inr ⟨S,i,r,D,T,J⟩)
         have hs:(sizeOf e).run P w= .ok d w:=by simp[sizeOf,typeInfo,i1,i3]
         have Q:(Instr.sliceAt t (.slice A v f) (lo.map a.eval) (hi.map a.eval) none).run P w= .ok (.slice (if f=l then A else A.map (·.add (l*d))) (B-l) (f-l)) w:=by
          have:(Instr.sliceAt t (.slice A v f) (lo.map a.eval) (hi.map a.eval) none).run P w=(Instr.slice t (.slice A v f) (lo.map a.eval) (hi.map a.eval) none).run P w:=by
           simp[Instr.sliceAt,OV W]
          rw[this];simp only[Instr.slice,OV W,Oc,OX,I,hs,PF]
         refine⟨_,w,_, .slice (if f=l then A else A.map (·.add (l*d))) (B-l) (f-l),?_, .inl rfl,q1, .val ?_⟩
         ·unfold execOp;simp only[ho,hv,SH,Oc,Q,OX,PF]
         have g: ∀(i j:Nat)(c:AV),bt ((E.drop l).take (B-l)) i j=some c->bt E (i+l) j=some c/\i<B-l:=fun i j c k=>by
          unfold bt at k |-;rw[Om]at k;split at k
          ·rename_i hi;rw[PY,SQ l i]at k;exact⟨k,hi⟩
          simp at k
         refine .seq _ (B-l) (f-l) d ((E.drop l).take (B-l)) b (p+l*d) (fun i j=>u (i+l) j) (by simp;omega) (by omega) (fun h0=> ?_) (fun i e H=> ?_) (fun i j c k=> ?_) (fun i j c k=>O _ _ _ (g i j c k).1)
         ·rw[OK (by omega),hA (by omega),O0,add_plain]
         ·rw[Om]at H;split at H
          ·rw[PY]at H;exact hz _ e H
          cases H
         obtain⟨U,V,h3⟩:=L _ _ _ (g i j c k).1;have ea:p+((i+l)*d+j)=p+l*d+(i*d+j):=by rw[P7];omega
         rw[ea]at U V;exact⟨U,V,h3⟩
  simp[Rd.run]at h
 simp[Rd.run]at h
theorem GH{t e:TypeId}{d W n:Nat}{z X:List Value}{y:Operand}{lo hi:Option Operand}{r p:Nat}{I:IntKind}{i:Int}{row:Row}(Z:o.op= .slice t y lo hi none)(R:dk x s a w m)(Y:eg P t=some ⟨.slice e d W X,n,z⟩)(hy:RL w m s (a.eval y) (.row r p))(c:tt w m s (lo.map a.eval) (some (.lit (.int I i))))(B:tt w m s (hi.map a.eval) none)
 (N:s.rows r=some row)(f:s.vs r=p)(O:row.sz≠0)(J:d=row.sz)(K:0<=i)(L:i<=row.es.length):dh P x s a w o ⟨.sub r p i.toNat,[]⟩:=by
 obtain⟨S,ie,ze,i1,i2,i3,i4,i5⟩:=bF Y;have hv:a.eval y=m.ρ r:=hy.row_.2 f row N;have k:=(R.rows r row N).cells O;obtain⟨xs,k1,_⟩:=k.own
 obtain⟨A,b,j,q⟩: ∃A b,m.ρ r= .slice A row.es.length b/\row.es.length<=b:=by
  rcases k1.2 with⟨e,V⟩|⟨g,b,U,e,_,_,M,_⟩
  ·exact⟨none,0,by rw[e,V],by omega⟩
  exact⟨_,b,e,M⟩
 have D:lo.map a.eval=some (.int I i):=by
  cases H:lo.map a.eval with
  |none=>rw[H]at c;exact c.elim
  |some u=>rw[H]at c;have c:RL w m s u (.lit (.int I i)):=c;rw[c.lit_]
 have C:hi.map a.eval=none:=by
  cases H:hi.map a.eval with
  |none=>rfl
  |some u=>rw[H]at B;exact B.elim
 obtain⟨G,p1,p2⟩:=kP (P:=P) (w:=w) (isS:=true) (n:=row.es.length) (cap:=b) (lo:=lo.map a.eval) (hi:=hi.map a.eval) (l:=i.toNat) (h:=row.es.length) q (.inl ⟨C,rfl⟩) (.inr ⟨I,i,D,K,L,rfl⟩);have hs:(sizeOf e).run P w= .ok d w:=by simp[sizeOf,typeInfo,i1,i3]
 have Q:(Instr.sliceAt t (.slice A row.es.length b) (lo.map a.eval) (hi.map a.eval) none).run P w= .ok (UO (.slice A row.es.length b) (i.toNat*d) i.toNat) w:=by
  have:(Instr.sliceAt t (.slice A row.es.length b) (lo.map a.eval) (hi.map a.eval) none).run P w=(Instr.slice t (.slice A row.es.length b) (lo.map a.eval) (hi.map a.eval) none).run P w:=by
   simp[Instr.sliceAt,OV S]
  rw[this];simp only[Instr.slice,OV S,Oc,OX,G,hs,PF,UO]
 subst f J;refine .same R (v:=UO (m.ρ r) (i.toNat*row.sz) i.toNat) ?_ rfl (.sub r _ i.toNat (by rw[j];rfl) (OO _) fun _ T E=>by rw[N]at E;cases E;rfl);rw[j];unfold execOp;simp only[Z,hv,j,SH,Oc,Q,OX,PF]
theorem zg{t:TypeId}{y:Operand}{lo hi:Option Operand}(E:o.op= .slice t y lo hi none)(j:dk x s a w m)(h:(aY P x.env s.f o).run s=some out):dh P x s a w o out:=by
 have g:=ao j y;have d:=yz j lo;have c:=yz j hi;unfold aY at h;simp only[E]at h;unfold pR at h;split at h
 ·rename_i str n z e C;rw[e]at g;have g:=g.lit_;have R:=dE C;cases M:An (bL str).length (bL str).length (hi.map (gt x.env s.f)) with
  |none=>rw[M]at h;simp[Rd.run]at h
  | some D=>
    rw[M]at h;simp only at h;cases A:An D 0 (lo.map (gt x.env s.f)) with
    |none=>rw[A]at h;simp[Rd.run]at h
    | some l=>
      rw[A]at h;simp only[Rd.run,OH]at h;subst h;have S:=pC M c;have T:=pC A d
      obtain⟨H,Y,Z⟩:=kP (P:=P) (w:=w) (isS:=false) (n:=str.size) (cap:=str.size) (lo:=lo.map a.eval) (hi:=hi.map a.eval) (l:=l) (h:=D) (OO _)
       (by rcases S with⟨_,k,p⟩ | ⟨I,i,k,p,J,K⟩
           ·exact .inl ⟨k,by rw[jW];exact p⟩
           exact .inr ⟨I,i,k,p,by rw[jW];exact J,K⟩)
       (by rcases T with⟨_,k,p⟩ | ⟨I,i,k,p,J,K⟩
           ·exact .inl ⟨k,p⟩
           exact .inr ⟨I,i,k,p,J,K⟩)
      refine .same j (v:= .string ⟨(((bL str).drop l).take (D-l)).toArray⟩) ?_ rfl (.val (.lit _))
      have V:str.extract l D=⟨(((bL str).drop l).take (D-l)).toArray⟩:=by
       have:=xi (bL str) l D;rwa [<-sA]at this
      have O:(Instr.sliceAt t (.string str) (lo.map a.eval) (hi.map a.eval) none).run P w= .ok (.string (str.extract l D)) w:=by
       rw[run_sliceAt_string w t _ _ _ _ R];simp[Instr.slice,OV R,H]
      unfold execOp;simp only[E,g,SH,Oc,O,OX,PF,V]
 ·rename_i e U W X n z C;split at h
  ·rename_i r Q I i L u q;simp only[Rd.run]at h;by_cases b:s.esc r=true
   ·rw[OL b]at h;exact jx E j C g d c h
   have b:s.esc r=false:=by simpa using b
   rw[OK (by simp[b])]at h;obtain⟨row,N,f,G,h⟩:=dl h;split at h
   ·rename_i B;simp only[Rd.run,OH]at h;rw[L]at g;rw[u]at d;rw[q]at c;exact GI E j C g d c b N f G B.2.1 B.2.2.1 B.2.2.2 h.symm
   simp[Rd.run]at h
  ·rename_i r Q I i L u q;simp only[Rd.run]at h;by_cases b:s.esc r=true
   ·rw[OL b]at h;exact jx E j C g d c h
   have b:s.esc r=false:=by simpa using b
   rw[OK (by simp[b])]at h;obtain⟨row,N,f,G,h⟩:=dl h;split at h
   ·rename_i B;simp only[Rd.run,OH]at h;subst h;rw[L]at g;rw[u]at d;rw[q]at c;exact GH E j C g d c N f G B.1 B.2.2.1 B.2.2.2
   simp[Rd.run]at h
  exact jx E j C g d c h
 simp[Rd.run]at h
theorem qL{t:TypeId}{y mx:Operand}{lo hi:Option Operand}{e:TypeId}{g V:Nat}{W zz:List Value}{nn:Nat}{D O:IntKind}{j:Nat}{q:AV×List Nat}{es:List (List AV)}
 (ho:o.op= .slice t y lo hi (some mx))(z:dk x s a w m)(Y:eg P t=some ⟨.slice e g V W,nn,zz⟩)(H:lo.map (gt x.env s.f)=none)(G:hi.map (gt x.env s.f)=some (.lit (.int D (j:Int))))(I:gt x.env s.f mx= .lit (.int O (j:Int)))
 (hq:(fz (gt x.env s.f y)).run s=some q)(U:q.1= .seq g es)(hj:j<=es.length):dh P x s a w o ⟨.full g (es.take j),g4 q.2⟩:=by
 have hy:=ao z y;have v:=yz z lo;have d:=yz z hi;have n:=ao z mx;rw[H]at v;rw[G]at d;rw[I]at n;have n:=n.lit_;obtain⟨T,ie,ze,i1,i2,i3,i4,i5⟩:=bF Y
 have C:lo.map a.eval=none:=by
  cases E:lo.map a.eval with
  |none=>rfl
  |some u=>rw[E]at v;exact v.elim
 have B:hi.map a.eval=some (.int D j):=by
  cases E:hi.map a.eval with
  |none=>rw[E]at d;exact d.elim
  |some u=>rw[E]at d;have d:RL w m s u (.lit (.int D j)):=d;rw[d.lit_]
 obtain⟨S',q1,q2,Q⟩:=ou hq z hy;rw[U]at Q;generalize hv:a.eval y=vy at*;have q4:=Q;cases Q with
 | seq A len f sz es b p u Z S R hz K M=>
   subst Z;have hs:(sizeOf e).run P w= .ok g w:=by simp[sizeOf,typeInfo,i1,i3]
   have J:(if j=0 then A else A.map (·.add (0*g)))=A:=by
    split
    ·rfl
    rw[R (by omega),Qp,O0,add_plain];rfl
   have X:(Instr.sliceBounds true es.length f none (some (.int D j)) (some (.int O j))).run P w= .ok (0,j,j) w:=by
    simp[Instr.sliceBounds,Ru w O (j:Int) f _ (by omega) (by omega),Ru w D (j:Int) j _ (by omega) (by omega)]
   have N:(Instr.sliceAt t (.slice A es.length f) (lo.map a.eval) (hi.map a.eval) (some (a.eval mx))).run P w= .ok (.slice A j j) w:=by
    have:(Instr.sliceAt t (.slice A es.length f) (lo.map a.eval) (hi.map a.eval) (some (a.eval mx))).run P w=(Instr.slice t (.slice A es.length f) (lo.map a.eval) (hi.map a.eval) (some (a.eval mx))).run P w:=by
     simp[Instr.sliceAt,OV T]
    rw[this,n,C,B];simp only[Instr.slice,OV T,Oc,OX,X,hs,PF,Rw];rw[J]
   have l: ∀(i k:Nat)(c:AV),bt (es.take j) i k=some c->bt es i k=some c:=fun i k c r=>by
    unfold bt at r |-;by_cases h:i<j
    ·rwa [Q9 h]at r
    rw[Rv (by omega)]at r;simp at r
   refine⟨_,w,_, .slice A j j,?_, .inl rfl,q1, .val (.full A j _ (es.take j) ?_)⟩
   ·unfold execOp;simp only[ho,hv,O0,Oc,N,OX,PF]
   exact .seq A j j _ (es.take j) b p u (by rw[OZ];omega) (OO _) (fun h=>R (by omega)) (fun i e L=>hz i e (by
    by_cases h:i<j
    ·rwa [Q9 h]at L
    rw[Rv (by omega)]at L
    simp at L)) (fun i k c r=>K i k c (l i k c r)) (fun i k c r=>M i k c (l i k c r))
theorem C8{t:TypeId}{y mx:Operand}{lo hi:Option Operand}(g:o.op= .slice t y lo hi (some mx))(p:dk x s a w m)(h:(aY P x.env s.f o).run s=some out):dh P x s a w o out:=by
 unfold aY at h;simp only[g]at h;unfold vG at h;split at h
 ·rename_i e v B D n z G i H k r c b d;obtain⟨q,u,h⟩:=fd h;split at h
  ·rename_i I C l;split at h
   ·rename_i f;simp only[Rd.run,OH]at h;subst h;obtain⟨rfl,rfl,rfl⟩:=f;have:=qL g p r c b d u l (OO _);rwa [Ob]at this
   split at h
   ·rename_i f;simp only[Rd.run,OH]at h;subst h;obtain⟨rfl,rfl,A,E⟩:=f;obtain⟨j,rfl⟩:=QG A;exact qL g p r c b d u l (by omega)
   simp[Rd.run]at h
  simp[Rd.run]at h
 simp[Rd.run]at h
theorem U'{S:Nat->Nat->Prop}{v:Value}{c:AV}{s0:St}{q:Nat×List (List AV)}(h:(jS c).run s0=some q)(z:RV S w v c):
 ∃A n cap l,v= .slice A n cap/\n=q.2.length/\(0<n-> ∃b p,A=some ⟨b,p,none⟩/\ ∀(j:Nat)(u:Value),l[j]? =some u->w.cell? ⟨b,p+j,none⟩=some u)/\D0 S w q.1 l q.2:=by
 cases c with
 | seq d G=>
   simp only[jS,Rd.run,OH]at h;subst h;cases z with
   | seq A n cap d G b o u O L R K H U=>
     have N: ∀k,k<n*d-> ∃i j c,i<n/\j<d/\k=i*d+j/\bt G i j=some c:=fun k y=>by
      have f:0<d:=Nat.pos_of_ne_zero fun e=>by subst e;omega
      have M:k/d<n:=(Nat.div_lt_iff_lt_mul f).2 y;have t:k%d<d:=Rt _ f;have E:k/d<G.length:=by omega
      refine⟨k/d,k%d,(G[k/d])[k%d]'(by rw[K _ _ (OE E)];exact t),M,t,(R8 k d).symm,?_⟩;unfold bt;rw[OE E];simp
     have C: ∀(k:Nat)(v:Value),((List.range (n*d)).map fun k=>u (k/d) (k%d))[k]? =some v->k<n*d/\v=u (k/d) (k%d):=fun k v y=>by
      have r:k<n*d:=by
       have:=(OG.1 y).1;simpa using this
      rw[OS,Pn r]at y;exact⟨r,by simpa using y.symm⟩
     have g: ∀i j,j<d->(i*d+j)/d=i/\(i*d+j)%d=j:=fun i j t=>by
      have f:0<d:=by omega
      exact⟨by rw[QU,Nat.mul_add_div f,S9 t,QT],by rw[QU,Nat.mul_add_mod,Qw t]⟩
     refine⟨A,n,cap,(List.range (n*d)).map fun k=>u (k/d) (k%d),rfl,O.symm,fun I=>⟨_,_,R I,fun j v t=> ?_⟩,by simp[O],fun v z=> ?_,K,fun i j c D=> ?_⟩
     ·obtain⟨r,rfl⟩:=C j v t;obtain⟨i,k,c,Q,B,rfl,J⟩:=N j r;rw[(g i k B).1,(g i k B).2];exact(H i k c J).2.1
     ·obtain⟨k,y,rfl⟩:=Pe z;obtain⟨r,e⟩:=C k _ (OE y);obtain⟨i,j,c,Q,B,rfl,J⟩:=N k r;rw[e,(g i j B).1,(g i j B).2];exact(H i j c J).2.2
     obtain⟨M,t⟩:=eL K D;refine⟨u i j,?_,U i j c D⟩;rw[OS,Pn (kg (by omega) t)];simp only[O0,(g i j t).1,(g i j t).2]
 | lit u=>
   cases z;simp only[jS]at h;split at h
   ·rename_i e;cases e
   ·rename_i A k e;cases e;simp only[Rd.run,OH]at h;subst h;exact⟨A,0,k,[],rfl,rfl,fun I=>absurd I (by omega),rfl,fun v z=>by simp at z,fun i e T=>by simp at T,fun i j c H=>by simp[bt]at H⟩
   ·rename_i e;cases e
   simp[Rd.run]at h
 |row=>cases z
 |_=>simp[jS,Rd.run]at h
theorem D0.resize{S:Nat->Nat->Prop}{sz b:Nat}{l:List Value}{es:List (List AV)}(h:D0 S w sz l es)(d:sz=b\/es=[]):D0 S w b l es:=by
 rcases d with rfl|rfl
 ·exact h
 exact⟨by simpa using h.len,h.one,fun i e d=>by simp at d,fun i j c f=>by simp[bt]at f⟩
theorem lF{t c:TypeId}{y z:Operand}(d:o.op= .call { callee:= .builtin .append,args:= #[y,z],argTypes:= #[t,t] })(b:o.type=c){v:Value}{w':World}(h:(Builtin.append_ #[t,t] c #[a.eval y,a.eval z]).run P w= .ok v w'):
 (execOp a.eval o).run P w= .ok (.value v) w':=by
 subst b;unfold execOp;simp only[d,resolve,invoke,builtin,Oc,PF,OX,R5,PE,Pv,h]
theorem IP{t:TypeId}{y z:Operand}(ho:o.op= .call { callee:= .builtin .append,args:= #[y,z],argTypes:= #[t,t] })(hS:dk x s a w m)(h:(jo P o.dst t (gt x.env s.f y) (gt x.env s.f z)).run s=some out):dh P x s a w o out:=by
 have hy:=ao hS y;have hz:=ao hS z;unfold jo at h;split at h
 ·rename_i e E eb ez n0 z0 hd;obtain⟨hu,ie,ze,i1,i2,i3,i4,i5⟩:=bF hd;split at h
  ·simp[Rd.run]at h
  rename_i hcond;obtain⟨hz1,hpos'⟩:=TA.1 hcond;have hz1:ez.length=E:=SR.1 hz1;have S:0<E:=by omega
  obtain⟨q,hq,h⟩:=fd h;obtain⟨r,hr,h⟩:=fd h;split at h
  ·simp[Rd.run]at h
  rename_i hsz;obtain⟨S',D,q2,q3⟩:=ou hq hS hz;obtain⟨A,n,cap,l,hv,hn,hA0,hE0⟩:=U' hr q3
  have hA:0<n-> ∃ad,A=some ad/\ ∀(j:Nat)(u:Value),l[j]? =some u->w.cell? (ad.add j)=some u:=fun h0=>by
   obtain⟨b,p,e,N⟩:=hA0 h0;exact⟨_,e,fun j u hj=>by rw[add_plain];exact N j u hj⟩
  have Q:D0 S' w E l r.2:=hE0.resize (by
   by_cases he:r.1=E
   ·exact .inl he
   exact .inr (SR.1 fun hne=>hsz ⟨he,hne⟩))
  obtain⟨e1,e2,_⟩:=cd q.2 s
  have hzc:ze.cells.size=E:=by
   have:ze.cells.toList.length=E:=by rw[i5];exact hz1
   simpa using this
  split at h
  ·
   rename_i ey;rw[ey]at hy;have hy:=hy.lit_;split at h
   ·rename_i d hdst;split at h
    ·rename_i hb;obtain⟨W,hb2⟩:=hb;simp only[Rd.run,OH]at h;subst h;obtain⟨U,Z,L,I,O⟩:=fG (P:=P) w x.w.heap.size t o.type e ie ze E eb hu i1 i2 i3 i4 hzc S (.slice none 0 0) 0 [] (Pr w x.w.heap.size e E) A n cap l (by rw[Q.len,hn]) hA Q.one (by unfold maxLen;omega) (by rw[PR,hn];exact W) D.bel.size
     have hb':Below x.w.heap.size w Z:=by
      rcases O with⟨_,O⟩|⟨_,O⟩
      ·exact(Oy _ _).grown O D.bel.size (fun q hq=>by simp[Value.ownBlock]at hq)
      exact(Oy _ _).grown O D.bel.size (fun q hq=>by cases hq)
     have C: ∀k,k<w.heap.size->Z.heap[k]? =w.heap[k]? :=fun k hk=>by
      rcases O with⟨_,O⟩|⟨_,O⟩
      ·exact O.block k hk (by simp[Value.ownBlock])
      exact O.block k hk (by simp)
     have J: ∀g,U.ownBlock=some g->g=w.heap.size:=fun g f=>by
      rcases O with⟨hv',_⟩|⟨hv',_⟩
      ·rw[hv']at f;simp[Value.ownBlock]at f
      rw[hv']at f;injection f with f;exact f.symm
     have B: ∀b o,S' b o->S' b o/\k0 w Z b o:=fun b o v=>⟨v, .block (C b (D.low b o v))⟩
     have hS2:=D.renew d ⟨E,r.2,e,true⟩ false U S' hb' B (fun b o v=> .inl v) (fun k Y hk hrk g hgk=>by
      have R:=((D.rows k Y hrk).blk hgk).2
      exact⟨C g R,fun v=>by have:=J g v;omega,fun o v=>v⟩)
      (.inl ⟨S,Q.ZQ,⟨l,by simp only[aE];have:=I;rw[PR,QE,hn]at this;exact this,Q.one,fun i j c N=>by
       obtain⟨u,u1,u2⟩:=Q.cell i j c N
       exact⟨u,u1,by simpa using u2.mono B⟩⟩,(fun he=>by simp[St.renew,aE]at he),(fun g f o ho2 v=>by
        simp only[aE]at f;have:=J g f;have:=D.low g o v;omega),(fun _ g f o v=>by
        simp only[aE]at f;have:=J g f;have:=D.low g o v
        omega)⟩) (fun b hf=>⟨C b (D.fxlt hf),fun _ v=>v,fun e=>by have:=J b e;have:=D.fxlt hf;omega⟩)
     have V:U.oneCell'=true:=by
      rcases I.2 with⟨ee,_⟩|⟨g,cp,cur,ee,_⟩<;>rw[ee]<;>rfl
     refine⟨_,Z,_,U,?_, .inl rfl,by rw[gs];exact hS2,?_⟩
     ·exact lF ho rfl (by rw[hy,hv];exact L)
     rw[gs];refine .row d (s.vs d+1) V ?_ fun _ row hr=> ?_
     ·simp[dd,CT.app,St.renew,aE,e2]
     simp[aE]
    simp[Rd.run]at h
   simp[Rd.run]at h
  ·rename_i rr ver ey;rw[ey]at hy;obtain⟨row,X,hver,hrz,h⟩:=dl h;have hvy:=hy.row_.2 hver row X;split at h
   ·rename_i hb;obtain⟨hp,M,hee,W,hb2⟩:=hb;simp only[Rd.run,OH]at h;subst h;have k:=(D.rows rr row (by rw[e1];exact X)).cells hrz;obtain⟨xs,k1,k2,k3⟩:=k.own;obtain⟨U,Z,L,I,O⟩:=fG (P:=P) w x.w.heap.size t o.type e ie ze E eb hu i1 i2 i3 i4 hzc S (m.ρ rr) row.es.length xs (by rw[<-hee, <-M];exact k1) A n cap l (by rw[Q.len,hn]) hA Q.one (by unfold maxLen;omega) (by rw[hn];exact W) D.bel.size
    obtain⟨S2,p1,p2⟩:=D.grow rr row (by rw[e1];exact X) hrz hp r.2 xs l U k1 k2 (fun i j c N=>by
     obtain⟨u,u1,u2⟩:=k3 i j c N;rw[OL hp]at u2
     exact⟨u,u1,u2⟩) (by rw[M];exact Q.ZQ) Q.one (by rw[M];exact Q.len) (fun i j c N=>by rw[M];exact Q.cell i j c N) (by rw[M,hee, <-hn];exact I) O
    have V:U.oneCell'=true:=by
     rcases I.2 with⟨ee,_⟩|⟨g,cp,cur,ee,_⟩<;>rw[ee]<;>rfl
    refine⟨_,Z,_,U,?_, .inl rfl,by rw[gs];exact p1,?_⟩
    ·exact lF ho rfl (by rw[hvy,hv];exact L)
    rw[gs];refine .row rr (ver+1) V ?_ fun _ row hr=> ?_
    ·simp[dd,CT.app,St.renew,aE,e2,hver]
    simp[aE]
   simp[Rd.run]at h
  ·
   rename_i H G ey;rw[ey]at hy;have hy:=hy.full_;split at h
   ·rename_i d hdst;split at h
    ·rename_i hb;obtain⟨rfl,hm0,W,hb2⟩:=hb;simp only[Rd.run,OH]at h;subst h;generalize hvy:a.eval y=vy at*;cases hy with
     | full A0 n0 sz0 es0 hy0=>
       obtain⟨A1,n1,cap1,l1,hv1,T,hA1,K⟩:=U' (c:= .seq H G) (s0:=s) rfl (hy0.mono fun b o v=>⟨q2 b o v, .rfl⟩);cases hv1;have K:D0 S' w H l1 G:=K;have T:_=G.length:=T
       obtain⟨U,Z,L,I,hg1,O⟩:=rD (P:=P) w x.w.heap.size t o.type e ie ze H eb hu i1 i2 i3 i4 hzc A0 n0 l1 (by rw[K.len,T]) (fun h0=>by
        obtain⟨b,p,e,N⟩:=hA1 h0
        exact⟨_,e,fun j u hj=>by rw[add_plain];exact N j u hj⟩) A n cap l (by rw[Q.len,hn]) hA (by omega) (by rw[T,hn];unfold maxLen;omega) (by rw[T,hn];exact W) D.bel.size
       have hb':Below x.w.heap.size w Z:=(Oy _ _).grown O D.bel.size (fun q hq=>by cases hq);have C: ∀k,k<w.heap.size->Z.heap[k]? =w.heap[k]? :=fun k hk=>O.block k hk (by simp)
       have J: ∀g,U.ownBlock=some g->g=w.heap.size:=fun g f=>by
        rw[hg1]at f;injection f with f;exact f.symm
       have B: ∀b o,S' b o->S' b o/\k0 w Z b o:=fun b o v=>⟨v, .block (C b (D.low b o v))⟩
       have hS2:=D.renew d ⟨H,G++r.2,e,true⟩ false U S' hb' B (fun b o v=> .inl v) (fun k Y hk hrk g hgk=>by
        have R:=((D.rows k Y hrk).blk hgk).2
        exact⟨C g R,fun v=>by have:=J g v;omega,fun o v=>v⟩)
        (.inl ⟨S,(fun i e' hi=>by
         have hi:(G++r.2)[i]? =some e':=hi;by_cases R:i<G.length
         ·rw[Oq R]at hi;exact K.ZQ i e' hi
         ·rw[Og (by omega)]at hi;exact Q.ZQ _ e' hi),⟨l1++l,by
          simp only[aE,ON];rw[T,hn]at I
          exact I,(fun u hu=>by
           rcases Of.1 hu with hu|hu
           ·exact K.one u hu
           exact Q.one u hu),fun i j c N=>by
         have N:bt (G++r.2) i j=some c:=N;rw[mU]at N;split at N
         ·rename_i R;obtain⟨u,u1,u2⟩:=K.cell i j c N;exact⟨u,by rw[Oq (OG.1 u1).1];exact u1,by simpa using u2.mono B⟩
         rename_i R;obtain⟨u,u1,u2⟩:=Q.cell _ j c N;refine⟨u,?_,by simpa using u2.mono B⟩
         have hle:l1.length<=i*H+j:=by
          rw[K.len];exact O3 (Oz _ (by omega)) (TN _ _)
         rw[Og hle,K.len];rw[<-u1]
         congr 1
         have:i*H=(i-G.length)*H+G.length*H:=by rw[<-P7];congr 1;omega
         show i*H+j-G.length*H=_;omega⟩,(fun he=>by simp[St.renew,aE]at he),(fun g f o ho2 v=>by
         simp only[aE]at f;have:=J g f;have:=D.low g o v;omega),(fun _ g f o v=>by
         simp only[aE]at f;have:=J g f;have:=D.low g o v
         omega)⟩) (fun b hf=>⟨C b (D.fxlt hf),fun _ v=>v,fun e=>by have:=J b e;have:=D.fxlt hf;omega⟩)
       have V:U.oneCell'=true:=by
        rcases I.2 with⟨ee,_⟩|⟨g,cp,cur,ee,_⟩<;>rw[ee]<;>rfl
       refine⟨_,Z,_,U,?_, .inl rfl,by rw[gs];exact hS2,?_⟩
       ·exact lF ho rfl (by rw[hvy,hv];exact L)
       rw[gs];refine .row d (s.vs d+1) V ?_ fun _ row hr=> ?_
       ·simp[dd,CT.app,St.renew,aE,e2]
       simp[aE]
    simp[Rd.run]at h
   simp[Rd.run]at h
  simp[Rd.run]at h
 simp[Rd.run]at h
end
end
section
/-! Maps of the call's own -/
def LN(a b:List UInt8):((⟨⟨a⟩⟩:ByteArray) ==⟨⟨b⟩⟩)=(a==b):=by
 show ((⟨a⟩:Array UInt8) ==⟨b⟩)=_;simp
section
variable {P:Program} {x:rk} {s:St} {a:Act} {w:World} {m:k9} {o:Oper} {out:Out}
theorem RL.mp_{v:Value}{r b:Nat}(h:RL w m s v (.mp r b)):b<=s.vs r/\(s.vs r=b-> ∀row,s.rows r=some row-> ∃g,(m.ρ r).ownBlock=some g/\v= .map (some g)):=by
 cases h with
 |val h=>cases h
 |mp r b d c h=>exact⟨c,h⟩
theorem Rg{e:Type}{r b:Nat}{k:Row->Rd e}{y:e}(h:(Rd.map r b k).run s=some y): ∃row,s.rows r=some row/\s.vs r=b/\row.sz=0/\(k row).run s=some y:=by
 simp only[Rd.map,Rd.run]at h;cases c:s.rows r with
 |none=>rw[c]at h;simp[Rd.run]at h
 | some row=>
   rw[c]at h;simp only at h;split at h
   ·rename_i d;exact⟨row,rfl,d.1,d.2,h⟩
   simp[Rd.run]at h
theorem t6{t:TypeId}{f g:AV}{b:Bool}{v:Value}(em:Bool)(n:Nat)(h:cT P t f g=some b)(e:RL w m s v f): ∀w':World,(Instr.checkKey em (n+1) t v).run P w'= .ok () w':=by
 intro w';unfold cT at h;split at h
 ·split at h
  ·rename_i c;rw[e.lit_];have d:=oT c;simp[Instr.checkKey,OV d]
  cases h
 ·split at h
  ·rename_i c;rw[e.lit_];have d:=dE c;simp[Instr.checkKey,OV d]
  cases h
 ·split at h
  ·rename_i c;rw[e.lit_];have d:=lw c;simp[Instr.checkKey,OV d]
  cases h
 cases h
theorem jb{N:TypeId}{c O:AV}{b:Bool}{v:Value}(em:Bool)(h:cH P N c O=some b)(M:RL w m s v c):(Instr.checkKey em 10000 N v).run P w= .ok () w:=by
 unfold cH at h;split at h
 ·rename_i Q n z J;split at h
  ·rename_i W X;split at h
   ·rename_i k;obtain⟨f,R,l,u⟩:=eC J;have u:=u.symm;simp only[OJ,PT]at u;obtain⟨y,rfl,I,_,t⟩:=M.agg_;try clear k J
    rw[show (10000:Nat)=9999+1 from rfl,Instr.checkKey];simp only[Oc,OV R,OX];rw[<-Array.forIn_toList];have d:=u.2;generalize f.toList=L at l d
    induction L generalizing Q b with
    |nil=>simp
    | cons q L j=>
      simp only[Rs,SA,Rm]at l;cases D:P.info? q.type with
      |none=>simp[D]at l
      | some i=>
        cases e:L.mapM (fun f=>(P.info? f.type).map fun i=>(f.offset,f.type,i.size)) with
        |none=>simp[D,e]at l
        | some r=>
          simp only[D,e,O0,Oo,OH]at l;subst l;simp only[Sc,OJ]at d;simp only[rX]at h;split at h
          ·rename_i S T B U;split at h
           ·rename_i p V K g;have E:q.offset<y.length:=by rw[I];exact(OG.1 B).1
            have A:y[q.offset]? =some y[q.offset]:=OE E;have H:=Dt K (t _ _ _ A B);have C:=t6 em 9998 K (t _ _ _ A B) w;have G:q.name≠ "_" :=by simpa using d.1
            simp only[List.forIn_cons,Oc,G,ne_eq,not_false_eq_true,PW,OX,H y.toArray q.offset _ w (by rw[S6];exact A),C,PF];first|exact j _ g e d.2|exact j _ _ g e d.2|exact j _ e d.2 g|exact j _ _ e d.2 g|exact j _ e g d.2|exact j _ _ e g d.2|exact j _ g d.2 e|exact j _ _ l d.2 g
           cases h
          cases h
   cases h
  cases h
 exact t6 em 9999 h M w
theorem Ku{e:TypeId}{c p:AV}{b:Bool}{u v:Value}(h:cH P e c p=some b)(r:RL w m s u c)(t:RL w m s v p):(Op.equal e u v).run P w= .ok b w:=by
 unfold cH at h;split at h
 ·rename_i D n z B;split at h
  ·rename_i I J;split at h
   ·obtain⟨f,q,C,g⟩:=eC B;have g:=g.symm;simp only[OJ,PT]at g;obtain⟨⟨E,y⟩,A⟩:=g;have d:P.fieldsOf e=f:=by simp[Program.fieldsOf,q]
    obtain⟨G,rfl,j,_,i⟩:=r.agg_;obtain⟨H,rfl,l,_,k⟩:=t.agg_;show (Op.equalIn 10000 e _ _).run P w=_;rw[run_equalIn_agg w 9999 e _ _ (by rw[d];exact q) y,d];exact ye j l i k 9998 _ _ _ C A h
   cases h
  cases h
 exact(wx h r t).2 9999 w
theorem KW{t:TypeId}{d:TypeDesc}{c k:AV}{b:Bool}{u v:Value}(g:P.underlying t=some d)(h:cT P t c k=some b)(i:RL w m s u c)(j:RL w m s v k):Instr.sameNow d u v=some b:=by
 unfold cT at h;split at h
 ·split at h
  ·rename_i e;split at h
   ·rename_i l;cases h;rw[i.lit_,j.lit_];have f:=oT e;rw[g]at f;cases f;simp[Instr.sameNow,l]
   cases h
  cases h
 ·split at h
  ·rename_i e;cases h;rw[i.lit_,j.lit_];have f:=dE e;rw[g]at f;cases f;rename_i a b _ _ _;obtain⟨⟨a⟩⟩:=a;obtain⟨⟨b⟩⟩:=b;simp only[Instr.sameNow,bL,OH];exact LN a b
  cases h
 ·split at h
  ·rename_i e;cases h;rw[i.lit_,j.lit_];have f:=lw e;rw[g]at f;cases f;simp[Instr.sameNow]
  cases h
 cases h
theorem FB{k:TypeId}{d:TypeDesc}{c g:AV}{b:Bool}{u v:Value}(i:P.underlying k=some d)(h:cH P k c g=some b)(l:RL w m s u c)(p:RL w m s v g):Instr.sameNow d u v=none\/Instr.sameNow d u v=some b:=by
 unfold cH at h;split at h
 ·rename_i q n z e;obtain⟨f,j,_⟩:=eC e;rw[i]at j;cases j;left;cases u<;>rfl
 exact .inr (KW i h l p)
theorem uz{e:TypeId}{c f:AV}{b:Bool}(h:cH P e c f=some b): ∃d,P.underlying e=some d:=by
 cases g:eg P e with
 | none=>
   have j:cT P e c f=none:=by
    unfold cT;repeat' split
    all_goals simp_all
   simp only[cH,g,j]at h;cases h
 | some n=>
   obtain⟨i,l,p,_,k,_⟩:=gF g;exact⟨l,k⟩
theorem Vg{B:TypeId}{d:TypeDesc}{C:Value}{k:AV}(D:P.underlying B=some d)(u:RL w m s C k): ∀(b:List MapEntry)(es:List (List AV))(i:Nat)(c:Option Nat),b.length=es.length->
 (∀(j:Nat)(e:List AV),es[j]? =some e-> ∃f l z,b[j]? =some f/\e=[l,z]/\RV m.S w f.key l)->tR P B k es i=some c->
 ∃r:Option (Nat×Value),(Instr.findNow d C b i=none\/Instr.findNow d C b i=some r)/\(Instr.findAsking B C b i).run P w= .ok r w/\
  match c with|none=>r=none|some j=> ∃f,i<=j/\b[j-i]? =some f/\r=some (j,f.val)/\ ∃l z,es[j-i]? =some [l,z]/\cH P B k l=some true
 | [],[],i,c,_,_,h=>by
   simp only[tR,OH]at h;subst h;exact⟨none, .inr rfl,rfl,rfl⟩
 |[],_::_,i,c,v,_,h=>by simp at v
 |_::_,[],i,c,v,_,h=>by simp at v
 | f::b,e::es,i,c,v,J,h=>by
   obtain⟨N,l,z,I,rfl,A⟩:=J 0 e rfl;simp only[PK,OH]at I;subst I;simp only[tR]at h;split at h
   ·rename_i t;simp only[OH]at h;subst h;refine⟨some (i,f.val),?_,?_,⟨f,OO _,by simp,rfl,l,z,by simp,t⟩⟩
    ·rcases FB D t u (RL.val A) with q|q
     ·left;simp[Instr.findNow,q]
     right;simp[Instr.findNow,q]
    simp only[Instr.findAsking,Oc,Ku t u (RL.val A),OX,PW];rfl
   ·rename_i t
    obtain⟨r,y,Q,K⟩:=Vg D u b es (i+1) c (by simpa using v) (fun j M O=>by
     obtain⟨g,n,p,L,E,G⟩:=J (j+1) M (by simpa using O)
     exact⟨g,n,p,by simpa using L,E,G⟩) h
    refine⟨r,?_,?_,?_⟩
    ·rcases FB D t u (RL.val A) with q|q
     ·left;simp[Instr.findNow,q]
     rcases y with y|y
     ·left;simp[Instr.findNow,q,y]
     right;simp[Instr.findNow,q,y]
    ·simp only[Instr.findAsking,Oc,Ku t u (RL.val A),OX,On,P8];exact Q
    ·cases c with
     |none=>exact K
     | some j=>
       obtain⟨g,L,E,G,n,p,R,S⟩:=K;have H:j-i=(j-(i+1))+1:=by omega
       exact⟨g,by omega,by rw[H];simpa using E,G,n,p,by rw[H];simpa using R,S⟩
   cases h
theorem e9{p:TypeId}{v:Value}{k:AV}(i: ∃d,P.underlying p=some d)(A:RL w m s v k){b:Array MapEntry}{es:List (List AV)}{f:Option Nat}(B:b.size=es.length)
 (y: ∀(j:Nat)(e:List AV),es[j]? =some e-> ∃c g n,b[j]? =some c/\e=[g,n]/\RV m.S w c.key g)(h:tR P p k es 0=some f):
 ∃r:Option (Nat×Value),(Instr.findKey p v b.toList).run P w= .ok r w/\
  match f with|none=>r=none|some j=> ∃c,b[j]? =some c/\r=some (j,c.val)/\ ∃g n,es[j]? =some [g,n]/\cH P p k g=some true:=by
 obtain⟨d,i⟩:=i
 obtain⟨r,l,C,u⟩:=Vg i A b.toList es 0 f (by simpa using B) (fun j e z=>by
  obtain⟨c,g,n,D,q,t⟩:=y j e z
  exact⟨c,g,n,by simpa using D,q,t⟩) h
 refine⟨r,?_,?_⟩
 ·unfold Instr.findKey;rcases l with l|l
  ·simp only[Oc,OV i,OX,l];exact C
  simp only[Oc,OV i,OX,l];rfl
 ·cases f with
  |none=>exact u
  | some j=>
    obtain⟨c,_,q,t,E⟩:=u;exact⟨c,by simpa using q,t,by simpa using E⟩
theorem F8{t:TypeId}{c f:AV}{u v:Value}(h:cT P t c f=some true)(d:RL w m s u c)(e:RL w m s v f):u=v/\ ∀n,Instr.sameBits n u u=true:=by
 unfold cT at h;split at h
 ·split at h
  ·split at h
   ·rename_i g;simp only[OH,P4]at h;rw[d.lit_,e.lit_,g,h];exact⟨rfl,fun n=>by cases n<;>simp[Instr.sameBits]⟩
   cases h
  cases h
 ·split at h
  ·rename_i a b _ _ _ _;obtain⟨⟨a⟩⟩:=a;obtain⟨⟨b⟩⟩:=b;simp only[bL,OH,P4]at h;rw[d.lit_,e.lit_,h];exact⟨rfl,fun n=>by cases n<;>simp[Instr.sameBits,LN]⟩
  cases h
 ·split at h
  ·simp only[OH,P4]at h;rw[d.lit_,e.lit_,h];exact⟨rfl,fun n=>by cases n<;>simp[Instr.sameBits]⟩
  cases h
 cases h
theorem Ky{xs l:List AV} : ∀ {c:List (Nat×TypeId×Nat)}{i:Nat},rX P xs l c=some true->ji i c=true-> ∀j,i<=j->j<i+c.length-> ∃t a b,xs[j]? =some a/\l[j]? =some b/\cT P t a b=some true
 |[],i,_,_,j,r,d=>by simp at d;omega
 |(o,t,n)::c,i,h,f,j,r,d=>by
   simp only[ji,OJ,P4]at f;simp only[rX]at h;split at h
   ·rename_i a b g k;split at h
    ·rename_i p q u v;simp only[OH,OJ]at h;obtain⟨rfl,rfl⟩:=h;by_cases e:j=i
     ·subst e;rw[f.1]at g k;exact⟨t,a,b,g,k,u⟩
     exact Ky v f.2 j (by omega) (by simp only[OU]at d;omega)
    cases h
   cases h
theorem zF{U:TypeId}{c G:AV}{u v:Value}(h:cH P U c G=some true)(K:RL w m s u c)(L:RL w m s v G):u=v/\(Instr.keyThatStays u v).run P w= .ok v w:=by
 have f:u=v->Instr.sameBits 10000 u u=true->u=v/\(Instr.keyThatStays u v).run P w= .ok v w:=fun e R=>by
  subst e;exact⟨rfl,by unfold Instr.keyThatStays;rw[OL R];rfl⟩
 unfold cH at h;split at h
 ·rename_i Y n z Z;split at h
  ·rename_i xs ys;split at h
   ·rename_i J;simp only[OJ,P4]at J;obtain⟨⟨⟨N,V⟩,W⟩,X⟩:=J;obtain⟨g,rfl,S,_,y⟩:=K.agg_;obtain⟨i,rfl,T,_,A⟩:=L.agg_
    have each: ∀j,j<n-> ∃q,g[j]? =some q/\i[j]? =some q/\ ∀k,Instr.sameBits k q q=true:=fun j d=>by
     obtain⟨t,p,q,b,D,E⟩:=Ky h N j (O6 _) (by omega);have H:g[j]? =some (g[j]'(by omega)):=OE _;have I:i[j]? =some (i[j]'(by omega)):=OE _;obtain⟨B,C⟩:=F8 E (y _ _ _ H b) (A _ _ _ I D);exact⟨_,H,by rw[I,B],C⟩
    have e:g=i:=by
     apply PM;intro j;by_cases d:j<n
     ·obtain⟨q,b,D,_⟩:=each j d;rw[b,D]
     rw[OT (by omega),OT (by omega)]
    subst e;refine f rfl ?_;rw[show (10000:Nat)=9999+1 from rfl];simp only[Instr.sameBits,TO,PQ,OP];rintro⟨p,q⟩ r;obtain⟨j,d,e⟩:=Pe r;simp only[List.getElem_zip,RU]at e;simp only[List.length_zip]at d;obtain⟨M,b,_,E⟩:=each j (by simp at d;omega);have l:j<g.length:=by simp at d;exact d
    rw[OE l]at b;simp only[OH]at b;have O:p=M:=by rw[<-e.1];simpa using b
    have Q:q=M:=by rw[<-e.2];simpa using b
    rw[O,Q];exact E 9999
   cases h
  cases h
 obtain⟨B,C⟩:=F8 h K L;exact f B (C 10000)
theorem uq{t:TypeId}(y:o.op= .makeMap t none)(f:dk x s a w m)(h:(aY P x.env s.f o).run s=some out):dh P x s a w o out:=by
 unfold aY at h;simp only[y]at h;unfold ja at h;split at h
 ·rename_i k e z n I d G D;simp only[Rd.run,OH]at h;subst h;have p:=f.bel.size;have j: ∀b o,m.S b o->m.S b o/\k0 w (w.alloc (.map #[] 0)) b o:=fun b o c=>⟨c, .block (Pj _ _ _ (f.low b o c))⟩
  have r:=f.renew d ⟨0,[],t,yx z⟩ false (.slice (some ⟨w.heap.size,0,none⟩) 0 0) m.S ((Oy _ _).alloc p _) j (fun b o c=> .inl c) (fun C q H A g u=>by
   have:=((f.rows C q A).blk u).2;refine⟨Pj _ _ _ this,?_,fun o c=>c⟩;simp[Value.ownBlock]
   omega)
   (.inr ⟨rfl,⟨w.heap.size, #[],0,by simp[aE],p,by show (w.heap.push (.map #[] 0))[w.heap.size]? =some _;simp,⟨rfl,rfl,fun i E h=>by simp at h⟩,fun i e B=>by simp at B⟩,fun g u o c=>by simp[aE,Value.ownBlock]at u;have:=f.low g o c;omega⟩) (fun b v=>⟨Pj _ _ _ (f.fxlt v),fun _ c=>c,fun e=>by have:=f.fxlt v;simp[Value.ownBlock]at e;omega⟩)
  refine⟨_,_,_, .map (some w.heap.size),?_, .inl rfl,r, .mp d (s.vs d+1) rfl (by simp[dd,CT.app,St.renew,aE]) fun _ row A=>⟨w.heap.size,by simp[aE,Value.ownBlock],rfl⟩⟩;unfold execOp;have l:(Instr.makeMap t none).run P w= .ok (.map (some w.heap.size)) (w.alloc (.map #[] 0)):=rfl;simp only[y,SH,Oc,l,OX,PF]
 simp[Rd.run]at h
theorem dk.mapAt(h:dk x s a w m){r k:Nat}{row:Row}{v:Value}(C:RL w m s v (.mp r k))(d:s.rows r=some row)(j:s.vs r=k)(n:row.sz=0):
 ∃g c b,v= .map (some g)/\m.ρ r= .slice (some ⟨g,0,none⟩) 0 0/\x.w.heap.size<=g/\w.heap[g]? =some (.map c b)/\Nd c b row.es.length/\
  ∀(i:Nat)(e:List AV),row.es[i]? =some e-> ∃l u q,c[i]? =some l/\e=[u,q]/\RV m.S w l.key u/\(if row.pure then RV m.S w l.val q else RL w m s l.val q):=by
 obtain⟨g,c,b,t,y,z,A,B⟩:=((h.rows r row d).map n).own;obtain⟨D,f,p⟩:=C.mp_.2 j row d;rw[t]at f;simp only[Value.ownBlock,OH]at f;subst f;exact⟨g,c,b,p,t,y,z,A,B⟩
theorem kN{e:TypeId}{b:TypeInfo}{z:Value}(hi:P.info? e=some b)(c:b.zero=some z)(w:World):(zeroValue e).run P w= .ok z w:=by
 simp[zeroValue,run_typeInfo w hi,c]
theorem iV{S:Nat->Nat->Prop}{w:World}(z:Value):RV S w z (AV.ofVal z):=by
 unfold AV.ofVal;split
 ·rename_i b;split
  ·rename_i f
   have:=RV.agg (S:=S) (w:=w) b.toList (b.toList.map .lit) (by simp) (fun v g=>OP.1 f v g) fun i v c e d=>by
    rw[OS,e]at d;cases d;exact .lit _
   simpa using this
  exact .any _
 exact .lit _
theorem RV.fmapAt{S:Nat->Nat->Prop}{w:World}{v:Value}{es:List (List AV)}(h:RV S w v (.fmap es)):
 ∃g b c,v= .map (some g)/\w.heap[g]? =some (.map b c)/\b.size=es.length/\
  ∀(i:Nat)(e:List AV),es[i]? =some e-> ∃l f j,b[i]? =some l/\e=[f,j]/\RV S w l.key f/\RV S w l.val j:=by
 cases h with
 | fmap g b c es y q n u r t=>
   refine⟨g,b,c,rfl,q,n,fun i e k=> ?_⟩;have d:i<b.size:=by rw[n];exact(OG.1 k).1
   have p:=u i e k
   match e,p with
   |[f,j],_=>exact⟨b[i],f,j,P5 d,rfl,r i _ f (P5 d) (by unfold bt;rw[k];rfl),t i _ j (P5 d) (by unfold bt;rw[k];rfl)⟩
theorem xX{t:TypeId}{y k:Operand}{ok:Bool}(J:o.op= .lookup t y k ok)(C:dk x s a w m)(h:(aY P x.env s.f o).run s=some out):dh P x s a w o out:=by
 have hy:=ao C y;have W:=ao C k;unfold aY at h;simp only[J]at h;unfold lS at h;split at h
 ·rename_i r ver kt et z n z' e1 hd;rw[e1]at hy;obtain⟨row,Z,hver,hsz,h⟩:=Rg h;obtain⟨g,A,O,L,_,_,I,hD,X⟩:=C.mapAt hy Z hver hsz;have Y:=hD.1;obtain⟨K,ie,hi,hz⟩:=rO hd;split at h
  ·rename_i R;obtain⟨Q,hc2⟩:=R;obtain⟨b,D⟩:=Qa.1 Q;have l:=jb (P:=P) (w:=w) (em:=A.isEmpty) D W
   have B: ∀(j:Nat)(e:List AV),row.es[j]? =some e-> ∃u H V,A[j]? =some u/\e=[H,V]/\RV m.S w u.key H:=fun j e hj=>by
    obtain⟨u,H,V,T,U,M,_⟩:=X j e hj;exact⟨u,H,V,T,U,M⟩
   have E:=uz D;split at h
   ·rename_i i S;obtain⟨rr,p,u,T,U,H,N,M,_⟩:=e9 E W Y B S;rw[M]at h;simp only[Rd.run,OH]at h;subst h;obtain⟨en2,kc2,vc2,p1,p2,_,p4⟩:=X i _ M;rw[T]at p1;cases p1;simp only[Qc,TM]at p2;obtain⟨_,rfl⟩:=p2;rw[U]at p
    have hval:RL w m s u.val N:=by
     split at p4
     ·exact .val p4
     exact p4
    cases ok with
    | false=>
      refine .same C (v:=u.val) ?_ rfl hval;unfold execOp;simp[J,L,Instr.lookup,OV K,PZ I,l,p]
    | true=>
      have hp:row.pure=true:=by simpa using hc2
      rw[OL hp]at p4;refine .same C (v:= .tuple #[u.val, .bool true]) ?_ rfl (.val ?_)
      ·unfold execOp;simp[J,L,Instr.lookup,OV K,PZ I,l,p]
      exact .tuple [u.val, .bool true] [N, .lit (.bool true)] rfl fun i v c d f=>by
       match i,d,f with
       |0,d,f=>simp at d f;subst d f;exact p4
       |1,d,f=>simp at d f;subst d f;exact .lit _
       |i+2,d,f=>simp at d
   ·rename_i S;obtain⟨rr,p,q⟩:=e9 E W Y B S;have q:rr=none:=q;subst q;simp only[Rd.run,OH]at h;subst h;have G:=kN (P:=P) hi hz w;cases ok with
    | false=>
      refine .same C (v:=z) ?_ rfl (.val (iV z));unfold execOp;simp[J,L,Instr.lookup,OV K,PZ I,l,p,G]
    | true=>
      refine .same C (v:= .tuple #[z, .bool false]) ?_ rfl (.val ?_)
      ·unfold execOp;simp[J,L,Instr.lookup,OV K,PZ I,l,p,G]
      exact .tuple [z, .bool false] [.ofVal z, .lit (.bool false)] rfl fun i v c d f=>by
       match i,d,f with
       |0,d,f=>simp at d f;subst d f;exact iV z
       |1,d,f=>simp at d f;subst d f;exact .lit _
       |i+2,d,f=>simp at d
   simp[Rd.run]at h
  simp[Rd.run]at h
 ·rename_i es kt et z n z' e1 hd;rw[e1]at hy;obtain⟨g,A,O,L,I,Y,X⟩:=hy.fmap_.fmapAt;obtain⟨K,ie,hi,hz⟩:=rO hd;split at h
  ·rename_i Q;obtain⟨b,D⟩:=Qa.1 Q;have l:=jb (P:=P) (w:=w) (em:=A.isEmpty) D W
   have B: ∀(j:Nat)(e:List AV),es[j]? =some e-> ∃u H V,A[j]? =some u/\e=[H,V]/\RV m.S w u.key H:=fun j e hj=>by
    obtain⟨u,H,V,T,U,M,_⟩:=X j e hj;exact⟨u,H,V,T,U,M⟩
   have E:=uz D;split at h
   ·rename_i i S;obtain⟨rr,p,u,T,U,H,N,M,_⟩:=e9 E W Y B S;rw[M]at h;simp only[Rd.run,OH]at h;subst h;obtain⟨en2,kc2,vc2,p1,p2,_,p4⟩:=X i _ M;rw[T]at p1;cases p1;simp only[Qc,TM]at p2;obtain⟨_,rfl⟩:=p2;rw[U]at p;cases ok with
    | false=>
      refine .same C (v:=u.val) ?_ rfl (.val p4);unfold execOp;simp[J,L,Instr.lookup,OV K,PZ I,l,p]
    | true=>
      refine .same C (v:= .tuple #[u.val, .bool true]) ?_ rfl (.val ?_)
      ·unfold execOp;simp[J,L,Instr.lookup,OV K,PZ I,l,p]
      exact .tuple [u.val, .bool true] [N, .lit (.bool true)] rfl fun i v c d f=>by
       match i,d,f with
       |0,d,f=>simp at d f;subst d f;exact p4
       |1,d,f=>simp at d f;subst d f;exact .lit _
       |i+2,d,f=>simp at d
   ·rename_i S;obtain⟨rr,p,q⟩:=e9 E W Y B S;have q:rr=none:=q;subst q;simp only[Rd.run,OH]at h;subst h;have G:=kN (P:=P) hi hz w;cases ok with
    | false=>
      refine .same C (v:=z) ?_ rfl (.val (iV z));unfold execOp;simp[J,L,Instr.lookup,OV K,PZ I,l,p,G]
    | true=>
      refine .same C (v:= .tuple #[z, .bool false]) ?_ rfl (.val ?_)
      ·unfold execOp;simp[J,L,Instr.lookup,OV K,PZ I,l,p,G]
      exact .tuple [z, .bool false] [.ofVal z, .lit (.bool false)] rfl fun i v c d f=>by
       match i,d,f with
       |0,d,f=>simp at d f;subst d f;exact iV z
       |1,d,f=>simp at d f;subst d f;exact .lit _
       |i+2,d,f=>simp at d
   simp[Rd.run]at h
  simp[Rd.run]at h
 simp[Rd.run]at h
theorem Nd.modify{c:Array MapEntry}{b n:Nat}(h:Nd c b n)(i:Nat)(f:MapEntry->MapEntry)(p: ∀e,(f e).born=e.born):Nd (c.modify i f) b n:=by
 refine⟨by simp[h.1],h.2.1,fun j k d=> ?_⟩;rw[Pu]at d;by_cases e:i=j
 ·rw[OL e]at d;obtain⟨g,l,rfl⟩:=P6.1 d;rw[p];exact h.2.2 j g l
 rw[OK e]at d;exact h.2.2 j k d
theorem Nd.push{c:Array MapEntry}{b n:Nat}(h:Nd c b n)(k v:Value):Nd (c.push { key:=k,val:=v,born:=b }) (b+1) (n+1):=by
 refine⟨by simp[h.1],by rw[h.2.1],fun j f d=> ?_⟩;rw[Qk]at d;by_cases e:j=c.size
 ·rw[OL e]at d;cases d;rw[h.2.1,e,h.1]
 rw[OK e]at d;exact h.2.2 j f d
theorem Nd.find{b:Array MapEntry}{c n:Nat}(h:Nd b c n){i:Nat}(hi:i<n):b.findIdx? (fun e=>((e.born:Nat):Int)==((i:Nat):Int))=some i:=by
 rw[Array.findIdx?_eq_some_iff_getElem];refine⟨by rw[h.1];exact hi,?_,fun j d=> ?_⟩
 ·have:=h.2.2 i _ (P5 (by rw[h.1];exact hi));simp[this]
 have:=h.2.2 j _ (P5 (by rw[h.1];omega));simp[this];omega
theorem dk.remap(h:dk x s a w m){r g:Nat}{row row':Row}{z ents':Array MapEntry}{t clock':Nat}(c:s.rows r=some row)(v:row.sz=0)(l:row'.sz=0)(B:m.ρ r= .slice (some ⟨g,0,none⟩) 0 0)(S:x.w.heap.size<=g)(Q:w.heap[g]? =some (.map z t))
 (U:Nd ents' clock' row'.es.length)(O: ∀(i:Nat)(e:List AV),row'.es[i]? =some e-> ∃y G E,ents'[i]? =some y/\e=[G,E]/\RV m.S w y.key G/\(if row'.pure then RV m.S w y.val E else RL w m s y.val E)):
 dk x (s.setRow r row') a { w with heap:=w.heap.setIfInBounds g (.map ents' clock') } m:=by
 have I:g<w.heap.size:=(Od.1 Q).1;have d: ∀k,k≠g->({ w with heap:=w.heap.setIfInBounds g (.map ents' clock') } :World).heap[k]? =w.heap[k]? :=fun k J=>by simp[Py J]
 have H:({ w with heap:=w.heap.setIfInBounds g (.map ents' clock') } :World).heap[g]? =some (.map ents' clock'):=by simp[I]
 have f:(m.ρ r).ownBlock=some g:=by rw[B];rfl
 have A:=((h.rows r row c).map v).fresh g f;have j: ∀b o,m.S b o->k0 w ({ w with heap:=w.heap.setIfInBounds g (.map ents' clock') } :World) b o:=fun b o p=> .block (d b fun e=>A o (e ▸ p));have u: ∀b o,m.S b o->m.S b o/\k0 w ({ w with heap:=w.heap.setIfInBounds g (.map ents' clock') } :World) b o:=fun b o p=>⟨p,j b o p⟩;refine h.reset r row row' c (by rw[v,l]) ⟨rfl,rfl,rfl,by simp,fun q Y=>d q (by omega)⟩ j (fun k C K J N n=>d N fun e=>h.inj r k row C c J (Py K) g f (e ▸ n)) (.inr ⟨l,⟨g,ents',clock',B,S,H,U,fun i e T=> ?_⟩,fun N n=>by rw[f]at n;cases n;exact A⟩) fun b R=>d b fun e=>h.Z3 r row c g f (e ▸ R);obtain⟨y,G,E,V,W,X,M⟩:=O i e T;refine⟨y,G,E,V,W,X.mono u,?_⟩;split at M
 ·rename_i L;rw[OL L];exact M.mono u
 rename_i L;rw[OK L];refine M.mono u (fun _=>OO _) fun k D _ p=> ?_;by_cases e:k=r
 ·subst e;simp only[St.setRow,aE,OH]at p;subst p;exact⟨row,c,by rw[v,l],rfl⟩
 simp only[St.setRow,ct _ _ _ e]at p;exact⟨D,p,rfl,rfl⟩
theorem qy{t:TypeId}{y k v:Operand}(ho:o.op= .mapUpdate t y k v)(M:dk x s a w m)(h:(aY P x.env s.f o).run s=some out):dh P x s a w o out:=by
 have hy:=ao M y;have O:=ao M k;have Z:=ao M v;unfold aY at h;simp only[ho]at h;unfold fq at h;split at h
 ·rename_i r ver kt et z n z' e1 hd;rw[e1]at hy;obtain⟨row,p,X,B,h⟩:=Rg h;obtain⟨g,d,c,hv,hρ,l,N,hD,hE⟩:=M.mapAt hy p X B;have hl:=hD.1;obtain⟨hu,ie,hi,hz⟩:=rO hd;split at h
  ·rename_i I;obtain⟨hc1,hc2,T⟩:=I;obtain⟨b,S⟩:=Qa.1 hc1;have D:=jb (P:=P) (w:=w) (em:=false) S O
   have R: ∀(j:Nat)(e:List AV),row.es[j]? =some e-> ∃E kc vc,d[j]? =some E/\e=[kc,vc]/\RV m.S w E.key kc:=fun j e f=>by
    obtain⟨E,kc,vc,Q,q2,q3,_⟩:=hE j e f;exact⟨E,kc,vc,Q,q2,q3⟩
   have V:=uz S;have U:=O.bare hc2
   have Y:if row.pure then RV m.S w (a.eval v) (gt x.env s.f v) else RL w m s (a.eval v) (gt x.env s.f v):=by
    cases hp:row.pure with
    | true=>
      rw[hp]at T;simp only[PW];exact Z.bare (by simpa using T)
    |false=>simp only[On,P8];exact Z
   split at h
   ·rename_i i hf;obtain⟨rr,C,E,Q,q2,kc,vc',q3,q4⟩:=e9 V O hl R hf;simp only[Rd.run,OH]at h;subst h;rw[q2]at C;obtain⟨en2,kc2,vc2,p1,p2,p3,p4⟩:=hE i _ q3;rw[Q]at p1;cases p1;simp only[Qc,TM]at p2;obtain⟨rfl,rfl⟩:=p2;obtain⟨A,_⟩:=zF q4 O (RL.val p3);have W:=(zF (P:=P) (w:=w) q4 O (RL.val p3)).2;have hil:i<d.size:=(Od.1 Q).1;have J:(Instr.keyThatStays E.key (a.eval k)).run P w= .ok (a.eval k) w:=by rw[<-A];rw[<-A]at W;exact W
    have u:(Instr.mapUpdate t (.map (some g)) (a.eval k) (a.eval v)).run P w= .ok () { w with heap:=w.heap.setIfInBounds g (.map (d.modify i fun e=>{ e with key:=a.eval k,val:=a.eval v }) c) } :=by
     unfold Instr.mapUpdate;simp only[Oc,OV hu,OX,PZ N,D,C,Q,O0,Pk,J];rw[Qi _ N]
    have H:=M.remap (ents':=d.modify i fun e=>{ e with key:=a.eval k,val:=a.eval v }) (clock':=c) (row':={ row with es:=row.es.set i [gt x.env s.f k,gt x.env s.f v] }) p B B hρ l N (by simpa using hD.modify i (fun e=>{ e with key:=a.eval k,val:=a.eval v }) fun _=>rfl) fun j e f=>by
     have f:(row.es.set i [gt x.env s.f k,gt x.env s.f v])[j]? =some e:=f;rw[Pg]at f;by_cases e0:i=j
     ·subst e0;rw[OL rfl,OL (by omega)]at f;cases f;exact⟨{ E with key:=a.eval k,val:=a.eval v },_,_,by simp[Pu,Q],rfl,U,Y⟩
     rw[OK e0]at f;obtain⟨G,K,L,r1,r2,r3,r4⟩:=hE j e f;exact⟨G,K,L,by simp[Pu,e0,r1],r2,r3,r4⟩
    refine⟨.skip,_,m,undef,?_, .inr ⟨rfl,rfl⟩,H, .val (.any _)⟩;unfold execOp;simp only[ho,hv,Oc,u,OX,PF]
   ·rename_i hf;obtain⟨rr,C,q⟩:=e9 V O hl R hf;have q:rr=none:=q;subst q;simp only[Rd.run,OH]at h;subst h
    have u:(Instr.mapUpdate t (.map (some g)) (a.eval k) (a.eval v)).run P w= .ok () { w with heap:=w.heap.setIfInBounds g (.map (d.push { key:=a.eval k,val:=a.eval v,born:=c }) (c+1)) } :=by
     unfold Instr.mapUpdate;simp only[Oc,OV hu,OX,PZ N,D,C];rw[Qi _ N]
    have H:=M.remap (ents':=d.push { key:=a.eval k,val:=a.eval v,born:=c }) (clock':=c+1) (row':={ row with es:=row.es++[[gt x.env s.f k,gt x.env s.f v]] }) p B B hρ l N (by simpa using hD.push (a.eval k) (a.eval v)) fun j e f=>by
     have f:(row.es++[[gt x.env s.f k,gt x.env s.f v]])[j]? =some e:=f;by_cases hjl:j<row.es.length
     ·rw[Oq hjl]at f;obtain⟨G,K,L,r1,r2,r3,r4⟩:=hE j e f;exact⟨G,K,L,by rw[Qk,OK (by omega)];exact r1,r2,r3,r4⟩
     have hje:j=row.es.length:=by
      have:=(OG.1 f).1;simp at this;omega
     subst hje;simp at f;subst f;exact⟨{ key:=a.eval k,val:=a.eval v,born:=c },_,_,by rw[Qk,OL hl.symm],rfl,U,Y⟩
    refine⟨.skip,_,m,undef,?_, .inr ⟨rfl,rfl⟩,H, .val (.any _)⟩;unfold execOp;simp only[ho,hv,Oc,u,OX,PF]
   simp[Rd.run]at h
  simp[Rd.run]at h
 simp[Rd.run]at h
theorem rb{t:TypeId}{y k:Operand}(ho:o.op= .mapEntry t y k)(V:dk x s a w m)(h:(aY P x.env s.f o).run s=some out):dh P x s a w o out:=by
 have hy:=ao V y;have X:=ao V k;unfold aY at h;simp only[ho]at h;unfold iJ at h;split at h
 ·rename_i r ver kt et z n z' e1 hd;rw[e1]at hy;obtain⟨row,A,hver,C,h⟩:=Rg h;obtain⟨g,f,d,hv,R,D,W,Y,hE⟩:=V.mapAt hy A hver C;have hl:=Y.1;obtain⟨hu,ie,hi,hz⟩:=rO hd;split at h
  ·rename_i N;obtain⟨hc1,hc2⟩:=N;obtain⟨b,hb1⟩:=Qa.1 hc1;have J:=jb (P:=P) (w:=w) (em:=false) hb1 X
   have Z: ∀(j:Nat)(e:List AV),row.es[j]? =some e-> ∃B kc vc,f[j]? =some B/\e=[kc,vc]/\RV m.S w B.key kc:=fun j e u=>by
    obtain⟨B,kc,vc,T,q2,q3,_⟩:=hE j e u;exact⟨B,kc,vc,T,q2,q3⟩
   have hkt:=uz hb1;have hkr:=X.bare hc2;split at h
   ·rename_i i hf;obtain⟨rr,H,B,T,q2,kc,I,q3,q4⟩:=e9 hkt X hl Z hf;rw[q3]at h;simp only[Rd.run,OH]at h;subst h;rw[q2]at H;obtain⟨en2,kc2,vc2,p1,p2,p3,p4⟩:=hE i _ q3;rw[T]at p1;cases p1;simp only[Qc,TM]at p2;obtain⟨rfl,rfl⟩:=p2;obtain⟨G,_⟩:=zF q4 X (RL.val p3);have hst:=(zF (P:=P) (w:=w) q4 X (RL.val p3)).2;have hil:i<f.size:=(Od.1 T).1;have Q:(Instr.keyThatStays B.key (a.eval k)).run P w= .ok (a.eval k) w:=by rw[<-G];rw[<-G]at hst;exact hst
    have M:B.born=i:=Y.2.2 i B T
    have E:(Instr.mapEntry t (.map (some g)) (a.eval k)).run P w= .ok (.tuple #[B.val, .int .i64 (i:Nat)]) { w with heap:=w.heap.setIfInBounds g (.map (f.modify i fun e=>{ e with key:=a.eval k }) d) } :=by
     unfold Instr.mapEntry;simp only[Oc,OV hu,OX,PZ W,J,H,T,O0,Pk,Q];rw[Qi _ W];simp[goInt,M]
    have L:=V.remap (ents':=f.modify i fun e=>{ e with key:=a.eval k }) (clock':=d) (row':={ row with es:=row.es.set i [gt x.env s.f k,I] }) A C C R D W (by simpa using Y.modify i (fun e=>{ e with key:=a.eval k }) fun _=>rfl) fun j e u=>by
     have u:(row.es.set i [gt x.env s.f k,I])[j]? =some e:=u;rw[Pg]at u;by_cases e0:i=j
     ·subst e0;rw[OL rfl,OL (by omega)]at u;cases u;exact⟨{ B with key:=a.eval k },_,_,by simp[Pu,T],rfl,hkr,p4⟩
     rw[OK e0]at u;obtain⟨K,S,U,r1,r2,r3,r4⟩:=hE j e u;exact⟨K,S,U,by simp[Pu,e0,r1],r2,r3,r4⟩
    have hval:RL w m s B.val I:=by
     split at p4
     ·exact .val p4
     exact p4
    refine⟨.value (.tuple #[B.val, .int .i64 (i:Nat)]),_,m, .tuple #[B.val, .int .i64 (i:Nat)],?_, .inl rfl,L,?_⟩
    ·unfold execOp;simp only[ho,hv,Oc,E,OX,PF]
    ·have hS': ∀b o,m.S b o->m.S b o/\k0 w ({ w with heap:=w.heap.setIfInBounds g (.map (f.modify i fun e=>{ e with key:=a.eval k }) d) } :World) b o:=fun b o O=>⟨O, .block (by
      have hne:b≠g:=fun e=>((V.rows r row A).map C).fresh g (by rw[R];rfl) o (e ▸ O)
      simp[Py hne])⟩
     refine RL.tuple [B.val, .int .i64 (i:Nat)] [I, .lit (.int .i64 (i:Nat))] rfl fun j v c l p=> ?_
     match j,l,p with
     | 0,l,p=>
       simp at l p;subst l p;refine hval.mono hS' (fun _=>OO _) fun k row2 _ O=> ?_;by_cases e:k=r
       ·subst e;simp only[dd,CT.app,St.setRow,aE,OH]at O;subst O;exact⟨row,A,rfl,rfl⟩
       simp only[dd,CT.app,St.setRow,ct _ _ _ e]at O;exact⟨row2,O,rfl,rfl⟩
     |1,l,p=>simp at l p;subst l p;exact .val (.lit _)
     |j+2,l,p=>simp at l
   ·rename_i hf;obtain⟨rr,H,q⟩:=e9 hkt X hl Z hf;have q:rr=none:=q;subst q;simp only[Rd.run,OH]at h;subst h;have hzr:=kN (P:=P) hi hz w
    have E:(Instr.mapEntry t (.map (some g)) (a.eval k)).run P w= .ok (.tuple #[z, .int .i64 (row.es.length:Nat)]) { w with heap:=w.heap.setIfInBounds g (.map (f.push { key:=a.eval k,val:=z,born:=d }) (d+1)) } :=by
     unfold Instr.mapEntry;simp only[Oc,OV hu,OX,PZ W,J,H,hzr];rw[Qi _ W];simp[goInt,Y.2.1]
    have L:=V.remap (ents':=f.push { key:=a.eval k,val:=z,born:=d }) (clock':=d+1) (row':={ row with es:=row.es++[[gt x.env s.f k, .ofVal z]] }) A C C R D W (by simpa using Y.push (a.eval k) z) fun j e u=>by
     have u:(row.es++[[gt x.env s.f k, .ofVal z]])[j]? =some e:=u;by_cases hjl:j<row.es.length
     ·rw[Oq hjl]at u;obtain⟨K,S,U,r1,r2,r3,r4⟩:=hE j e u;exact⟨K,S,U,by rw[Qk,OK (by omega)];exact r1,r2,r3,r4⟩
     ·have hje:j=row.es.length:=by
       have:=(OG.1 u).1;simp at this;omega
      subst hje;simp at u;subst u;refine⟨{ key:=a.eval k,val:=z,born:=d },_,_,by rw[Qk,OL hl.symm],rfl,hkr,?_⟩;cases hp:row.pure with
      |true=>exact iV z
      |false=>exact .val (iV z)
    refine⟨.value (.tuple #[z, .int .i64 (row.es.length:Nat)]),_,m, .tuple #[z, .int .i64 (row.es.length:Nat)],?_, .inl rfl,L, .val ?_⟩
    ·unfold execOp;simp only[ho,hv,Oc,E,OX,PF]
    exact .tuple [z, .int .i64 (row.es.length:Nat)] [.ofVal z, .lit (.int .i64 (row.es.length:Nat))] rfl fun i v c l p=>by
     match i,l,p with
     |0,l,p=>simp at l p;subst l p;exact iV z
     |1,l,p=>simp at l p;subst l p;exact .lit _
     |i+2,l,p=>simp at l
   simp[Rd.run]at h
  simp[Rd.run]at h
 simp[Rd.run]at h
theorem pI{t:TypeId}{y n v:Operand}(U:o.op= .entryStore t y n v)(q:dk x s a w m)(h:(aY P x.env s.f o).run s=some out):dh P x s a w o out:=by
 have V:=ao q y;have H:=ao q n;have D:=ao q v;unfold aY at h;simp only[U]at h;unfold eS at h;split at h
 ·rename_i r ver W n e1 e2;rw[e1]at V;rw[e2]at H;have H:=H.lit_;obtain⟨row,d,C,p,h⟩:=Rg h;obtain⟨g,c,b,hv,Q,i,N,K,T⟩:=q.mapAt V d C p;have hl:=K.1;split at h
  ·rename_i k;obtain⟨h0,u⟩:=k;split at h
   ·rename_i X vc0 Y;simp only[Rd.run,OH]at h;subst h;have A:n.toNat<row.es.length:=(OG.1 Y).1;have z:=K.find A;rw[show ((n.toNat:Nat):Int)=n by omega]at z
    have O:if row.pure then RV m.S w (a.eval v) (gt x.env s.f v) else RL w m s (a.eval v) (gt x.env s.f v):=by
     cases hp:row.pure with
     | true=>
       rw[hp]at u;simp only[PW];exact D.bare (by simpa using u)
     |false=>simp only[On,P8];exact D
    have B:(Instr.entryStore t (.map (some g)) (.int W n) (a.eval v)).run P w= .ok () { w with heap:=w.heap.setIfInBounds g (.map (c.modify n.toNat fun e=>{ e with val:=a.eval v }) b) } :=by
     have M:(asInt (.int W n)).run P w= .ok n w:=rfl;unfold Instr.entryStore;simp only[Oc,PZ N,OX,M,z];rw[Qi _ N]
    have L:=q.remap (ents':=c.modify n.toNat fun e=>{ e with val:=a.eval v }) (clock':=b) (row':={ row with es:=row.es.set n.toNat [X,gt x.env s.f v] }) d p p Q i N (by simpa using K.modify n.toNat (fun e=>{ e with val:=a.eval v }) fun _=>rfl) fun j e l=>by
     have l:(row.es.set n.toNat [X,gt x.env s.f v])[j]? =some e:=l;rw[Pg]at l;by_cases J:n.toNat=j
     ·subst J;rw[OL rfl,OL A]at l;cases l;obtain⟨f,E,G,R,I,S,Z⟩:=T _ _ Y;simp only[Qc,TM]at I;obtain⟨rfl,rfl⟩:=I;exact⟨{ f with val:=a.eval v },_,_,by simp[Pu,R],rfl,S,O⟩
     rw[OK J]at l;obtain⟨f,E,G,R,I,S,Z⟩:=T j e l;exact⟨f,E,G,by simp[Pu,J,R],I,S,Z⟩
    refine⟨.skip,_,m,undef,?_, .inr ⟨rfl,rfl⟩,L, .val (.any _)⟩;unfold execOp;simp only[U,hv,H,Oc,B,OX,PF]
   simp[Rd.run]at h
  simp[Rd.run]at h
 simp[Rd.run]at h
theorem AM{t b:TypeId}{y k:Operand}(c:o.op= .call { callee:= .builtin .delete,args:= #[y,k],argTypes:= #[t,b] }){v:Value}{w':World}(h:(Builtin.delete_ #[t,b] o.type #[a.eval y,a.eval k]).run P w= .ok v w'):(execOp a.eval o).run P w= .ok (.value v) w':=by
 unfold execOp;simp only[c,resolve,invoke,builtin,Oc,PF,OX,R5,PE,Pv,h]
theorem ID{t O:TypeId}{y k:Operand}(X:o.op= .call { callee:= .builtin .delete,args:= #[y,k],argTypes:= #[t,O] })(A:dk x s a w m)(h:(jm P t (gt x.env s.f y) (gt x.env s.f k)).run s=some out):dh P x s a w o out:=by
 have N:=ao A y;have M:=ao A k;unfold jm at h;split at h
 ·rename_i r ver kt et z n z' Q T;rw[Q]at N;obtain⟨row,l,u,K,h⟩:=Rg h;obtain⟨g,c,d,Z,hρ,E,B,R,S⟩:=A.mapAt N l u K;have W:=R.1;obtain⟨Y,ie,hi,hz⟩:=rO T;split at h
  ·rename_i G;obtain⟨b,f⟩:=Qa.1 G;have i:=jb (P:=P) (w:=w) (em:=c.isEmpty) f M
   have D: ∀(j:Nat)(e:List AV),row.es[j]? =some e-> ∃v C L,c[j]? =some v/\e=[C,L]/\RV m.S w v.key C:=fun j e V=>by
    obtain⟨v,C,L,q1,q2,q3,_⟩:=S j e V;exact⟨v,C,L,q1,q2,q3⟩
   have J:=uz f;split at h
   ·rename_i U;obtain⟨rr,H,q⟩:=e9 J M W D U;have q:rr=none:=q;subst q;simp only[Rd.run,OH]at h;subst h;have I:g<w.heap.size:=(Od.1 B).1
    have hw:({ w with heap:=w.heap.setIfInBounds g (.map c d) } :World)=w:=by
     have:w.heap.setIfInBounds g (.map c d)=w.heap:=by
      apply Array.ext_getElem?;intro q;rw[Array.getElem?_setIfInBounds];by_cases e:g=q
      ·subst e;rw[OL rfl,OL I,B]
      rw[OK e]
     rw[this]
    have p:(Builtin.delete_ #[t,O] o.type #[.map (some g),a.eval k]).run P w= .ok (.tuple #[]) w:=by
     simp[Builtin.delete_,OV Y,PZ B,i,H,Qi _ B,hw]
    exact⟨.value (.tuple #[]),w,m, .tuple #[],AM X (by rw[Z];exact p), .inl rfl,A, .val (.any _)⟩
   ·simp[Rd.run]at h
   simp[Rd.run]at h
  simp[Rd.run]at h
 simp[Rd.run]at h
end
section
variable {P:Program} {x:rk} {s:St} {a:Act} {w:World} {m:k9} {o:Oper} {out:Out}
theorem qz{t:TypeId}{l c:Operand}(C:o.op= .makeSlice t l c)(y:dk x s a w m)(h:(aY P x.env s.f o).run s=some out):dh P x s a w o out:=by
 have u:=ao y l;have r:=ao y c;unfold aY at h;simp only[C]at h;unfold vE at h;split at h
 ·rename_i e f eb g n0 z0 k n D n' d L el J B;rw[el]at u;rw[J]at r;have u:=u.lit_;have r:=r.lit_;obtain⟨M,V,G,O,Q,R,T,U⟩:=bF L;split at h
  ·simp[Rd.run]at h
  rename_i b;simp only[TA,SR]at b;obtain⟨H,Y,rfl,Z,c5,c6,I⟩:=b;simp only[Rd.run,OH]at h;subst h;have j:0<f:=by omega
  have A: ∀v∈g,v.oneCell'=true:=fun v N=>(OP.1 I) v N;have K:=D0.rep (S:=m.S) (w:=w) n.toNat H A j;obtain⟨W,X,E⟩:=qW (d:=d) (e:=e) y j (by simp[maxLen];omega) K;have q:(List.replicate n.toNat (g.map AV.lit)).length=n.toNat:=by simp
  rw[q]at E;have z:G.cells=g.toArray:=by simp[<-U]
  have p:(Instr.makeSlice t (.int k n) (.int D n)).run P w= .ok (.slice (some ⟨w.heap.size,0,none⟩) n.toNat n.toNat) (w.alloc (.cells ((Array.range (n.toNat*f)).map (g.toArray[· % g.toArray.size]!)) e)):=by
   have:=run_make (P:=P) w t e V G M O Q k D n n (by omega) (Si _) (by rw[T];omega) (by omega);rw[z,R]at this;exact this
  refine⟨_,_,W,_,?_, .inl rfl,X,E⟩;have i:((Array.range (n.toNat*f)).map (g.toArray[· % g.toArray.size]!))=((Array.range (n.toNat*f)).map (g.toArray[· % g.toArray.size]!)).toList.toArray:=PP.symm;rw[i]at p;unfold execOp;simp only[C,u,r,Oc,p,OX,PF]
 simp[Rd.run]at h
theorem gV{c b:TypeId}{y:Operand}(d:o.op= .convert c b y){v:Value}{w':World}(h:(convert c b (a.eval y)).run P w= .ok v w'):(execOp a.eval o).run P w= .ok (.value v) w':=by
 unfold execOp;simp only[d,Oc,h,OX,PF]
theorem qq: ∀(es:List (List AV))(l:List UInt8),DE es=some l->es.length=l.length/\ ∀(i:Nat)(b:UInt8),l[i]? =some b->bt es i 0=some (.lit (.int .u8 (b.toNat:Int)))
 | [],l,h=>by
   simp only[DE,OH]at h;subst h;exact⟨rfl,fun i b d=>by simp at d⟩
 | e::es,l,h=>by
   simp only[DE]at h;split at h
   ·rename_i b p d k;cases h;obtain⟨g,j⟩:=qq es p k;refine⟨by simp[g],fun i c f=> ?_⟩;cases i with
    | zero=>
      simp only[PK,OH]at f;subst f;unfold byteOf at d;split at d
      ·rename_i n;split at d
       ·rename_i q;cases d;simp only[bt,PK,Oo]
        congr 3
        simp;omega
       cases d
      cases d
    | succ i=>
      have:=j i c (by simpa using f);unfold bt at this |-;simpa using this
   cases h
theorem t8(l:List UInt8)(i j:Nat)(c:AV)(h:bt (l.map Vy) i j=some c):j=0/\ ∃b,l[i]? =some b/\c= .lit (.int .u8 (b.toNat:Int)):=by
 unfold bt at h;rw[OS]at h;cases d:l[i]? with
 |none=>rw[d]at h;cases h
 | some b=>
   rw[d]at h;cases j with
   |zero=>simp[Vy]at h;exact⟨rfl,b,rfl,h.symm⟩
   |succ j=>simp[Vy]at h
theorem uu{I G:TypeId}{y:Operand}(ho:o.op= .convert I G y)(J:dk x s a w m)(h:(aY P x.env s.f o).run s=some out):dh P x s a w o out:=by
 have E:=ao J y;unfold aY at h;simp only[ho]at h;unfold vH at h;split at h
 ·rename_i k n d k' n' z' V B C;simp only[Rd.run,OH]at h;subst h;rw[V]at E;have E:=E.lit_;have t:=oT C;obtain⟨i1,S,z1,hi1,f,_⟩:=gF B;refine .same J (v:= .int k' (k'.wrap n)) (gV ho ?_) rfl (.val (.lit _));rw[E];cases S<;>simp[convert,OV f,OV t,Conv.intToInt]
 ·rename_i str d n' z' V B C;simp only[Rd.run,OH]at h;subst h;rw[V]at E;have E:=E.lit_;have t:=dE C;obtain⟨i1,S,z1,hi1,f,_⟩:=gF B;refine .same J (v:= .string str) (gV ho ?_) rfl (.val (.lit _));rw[E];cases S<;>simp[convert,OV f,OV t]
 ·rename_i str n1 z1 e esz eb ez n2 z2 V B C;rw[V]at E;have E:=E.lit_;split at h
  ·rename_i n3 z3 R;simp only[Rd.run,OH]at h;subst h;obtain⟨t,_⟩:=bF C;have f:=dE B;have D:=oT R;obtain⟨c,w1,z,hb,hr⟩:=Dk (P:=P) w I G e (bL str) f t D;rw[<-sA]at z;obtain⟨T,L⟩: ∃T:Nat->Nat->Prop,T=fun b o=>m.S b o\/(b=w.heap.size/\b<w1.heap.size/\o< (bL str).length):=⟨_,rfl⟩
   have hS2:dk x s a w1 ⟨T,m.ρ⟩:=J.move rfl (hb.mono J.bel.size) (fun b o K=>⟨by rw[L];exact .inl K,hb.stay (J.low b o K)⟩) (fun b o K=>by
    rw[L]at K;rcases K with K|⟨rfl,K,_⟩
    ·exact .inl K
    ·exact .inr ⟨OO _,K⟩) (fun r row hrr g Y=>by
    exact hb.block g ((J.rows r row hrr).blk Y).2) (fun b hf=>hb.block b (J.fxlt hf))
   refine⟨_,w1,⟨T,m.ρ⟩,_,gV ho (by rw[E];exact z), .inl rfl,hS2, .val ?_⟩
   have hlt:0< (bL str).length->w.heap.size<w1.heap.size:=fun h0=>by
    obtain⟨b,off,e2,_,N⟩:=hr.2 h0;cases e2;have:=N 0 _ (by rw[OE (by rw[NX];exact h0)]);rcases QN w.heap.size w1.heap.size with q|q
    ·exact q
    simp[World.cell?,Qh q]at this
   have W:(bL str).length<=c:=by
    have:=run_bytes_of_string w I G e str f t D;rw[z]at this;injection this with e3 _
    injection e3 with _ _ e4
    rw[e4, <-jW];exact T7 _ _ _ _
   refine .seq _ _ c 1 _ w.heap.size 0 (fun i _=> .int .u8 (((bL str).getD i 0).toNat:Int)) (by simp) W (fun _=>rfl) (fun i e X=> ?_) (fun i j c' N=> ?_) fun i j c' N=> ?_
   ·rw[OS]at X;cases hq:(bL str)[i]? with
    |none=>rw[hq]at X;cases X
    |some b=>rw[hq]at X;cases X;rfl
   ·obtain⟨rfl,b,H,rfl⟩:=t8 _ i j c' N;have hi:i< (bL str).length:=(OG.1 H).1;obtain⟨b',off,e2,_,Q⟩:=hr.2 (by omega);cases e2;refine⟨by rw[L];exact .inr ⟨rfl,hlt (by omega),by omega⟩,?_,rfl⟩;have hu:(bv (bL str))[i]? =some (.int .u8 (b.toNat:Int)):=by unfold bv;rw[OS,H];rfl
    have:=Q i _ hu;have Y:(bL str).getD i 0=b:=by simp[List.getD,H]
    rw[Y];simpa using this
   obtain⟨rfl,b,H,rfl⟩:=t8 _ i j c' N;have Y:(bL str).getD i 0=b:=by simp[List.getD,H]
   rw[Y];exact .lit _
  simp[Rd.run]at h
 ·rename_i e esz eb ez n1 z1 n2 z2 B C hno;split at h
  ·rename_i n3 z3 R;obtain⟨f,_⟩:=bF B;have t:=dE C;have D:=oT R;obtain⟨q,hq,h⟩:=fd h;obtain⟨r,hr,h⟩:=fd h;split at h
   ·rename_i hsz;cases M:DE r.2 with
    |none=>rw[M]at h;simp[Rd.run]at h
    | some l=>
      rw[M]at h;simp only[Rd.run,OH]at h;subst h;obtain⟨T,q1,q2,q3⟩:=ou hq J E;obtain⟨A,n,U,cl,hv,hn,hA,hE0⟩:=U' hr q3;have hE:D0 T w 1 cl r.2:=hE0.resize (by rcases hsz with e|e;exact .inl e;exact .inr e);obtain⟨hl,O⟩:=qq r.2 l M;refine⟨_,w,_, .string ⟨l.toArray⟩,gV ho ?_, .inl rfl,q1, .val (.lit _)⟩;rw[hv];by_cases h0:n=0
      ·have hl0:l=[]:=Ox (by omega);subst hl0;subst h0;cases A with
       |none=>exact run_convert_bytes_nil w I e f D 0 U G t
       |some ad=>simp[convert,OV f,OV t,OV D,Conv.bytesToString,loadCells,loadCellsFrom];rfl
      obtain⟨b,p,rfl,Q⟩:=hA (by omega)
      have z:=Rn (P:=P) w I e f D b p n U (l.map fun b=>(b.toNat:Int)) (by simp;omega) (fun i hi=>by
       have Z:i<l.length:=by omega
       have N:=O i l[i] (OE Z);obtain⟨u,h1,h2⟩:=hE.cell i 0 _ N;cases h2;have:=Q i _ (by simpa using h1);rw[this]
       simp[List.getD,Z]) G t
      rw[z]
      congr 2
      unfold strOfNums
      congr 2
      rw[Q1]
      conv=>rhs;rw[<-List.map_id l]
      apply Po;intro b _;simp
   simp[Rd.run]at h
  simp[Rd.run]at h
 simp[Rd.run]at h
theorem ua{t:TypeId}{y:Operand}(b:o.op= .call { callee:= .builtin .len,args:= #[y],argTypes:= #[t] }){v:Value}(h:(Builtin.len_ #[t] o.type #[a.eval y]).run P w= .ok v w):(execOp a.eval o).run P w= .ok (.value v) w:=by
 unfold execOp;simp only[b,resolve,invoke,builtin,Oc,PF,OX,R5,PE,Pv,h]
theorem NN{t:TypeId}{y:Operand}(D:o.op= .call { callee:= .builtin .len,args:= #[y],argTypes:= #[t] })(k:dk x s a w m)(h:(zM P t (gt x.env s.f y)).run s=some out):dh P x s a w o out:=by
 have j:=ao k y;unfold zM at h;split at h
 ·rename_i str n z e l;rw[e]at j;have j:=j.lit_;have p:=dE l;simp only[Rd.run,OH]at h;subst h;exact .same k (v:= .int .i64 (bL str).length) (ua D (by rw[j];simp[Builtin.len_,OV p,goInt,jW])) rfl (.val (.lit _))
 ·rename_i r J Z X zv n z e l;rw[e]at j;obtain⟨row,d,i,G,h⟩:=Rg h;obtain⟨g,K,C,H,_,_,Q,O,_⟩:=k.mapAt j d i G;have R:=O.1;obtain⟨p,_⟩:=rO l;simp only[Rd.run,OH]at h;subst h;exact .same k (v:= .int .i64 row.es.length) (ua D (by rw[H];simp[Builtin.len_,OV p,goInt,PZ Q,R])) rfl (.val (.lit _))
 ·rename_i e N W Y n z _ l;obtain⟨p,_⟩:=bF l;obtain⟨q,f,h⟩:=fd h;simp only[Rd.run,OH]at h;subst h
  have I: ∃A c,a.eval y= .slice A q.2.length c:=by
   generalize gt x.env s.f y=L at*;cases L with
   | seq V M=>
     simp only[jS,Rd.run,OH]at f;subst f;have T:=j.seq_;generalize a.eval y=vy at*;cases T with
     |seq A n B V M b o u S=>exact⟨A,B,by rw[S]⟩
   | lit u=>
     have:=j.lit_;rw[this];cases u with
     | slice A n c=>
       cases n with
       |zero=>simp only[jS,Rd.run,OH]at f;subst f;exact⟨A,c,rfl⟩
       |succ n=>simp[jS,Rd.run]at f
     |_=>simp[jS,Rd.run]at f
   | row r J=>
     simp only[jS]at f;obtain⟨row,d,i,E,f⟩:=dl f;simp only[Rd.run,OH]at f;subst f;rw[j.row_.2 i row d];obtain⟨xs,U,_⟩:=((k.rows r row d).cells E).own;obtain⟨A,c,e,_⟩:=aj U;exact⟨A,c,e⟩
   |_=>simp[jS,Rd.run]at f
  obtain⟨A,c,H⟩:=I;exact .same k (v:= .int .i64 q.2.length) (ua D (by rw[H];simp[Builtin.len_,OV p,goInt])) rfl (.val (.lit _))
 simp[Rd.run]at h
theorem NK{h:Array TypeId}{y z:Operand}{k:IntKind}{p q:Int}(e:o.op= .call { callee:= .builtin .min,args:= #[y,z],argTypes:=h })(d:dk x s a w m)(f:gt x.env s.f y= .lit (.int k p))(g:gt x.env s.f z= .lit (.int k q)):
 dh P x s a w o ⟨.lit (.int k (if q<p then q else p)),[]⟩:=by
 have b:=ao d y;have c:=ao d z;rw[f]at b;rw[g]at c;have b:=b.lit_;have c:=c.lit_;refine .same d (v:= .int k (if q<p then q else p)) ?_ rfl (.val (.lit _));unfold execOp;simp[e,resolve,invoke,builtin,b,c,Builtin.min_,Builtin.min2]
theorem NL{h:Array TypeId}{y z:Operand}{k:IntKind}{p q:Int}(e:o.op= .call { callee:= .builtin .max,args:= #[y,z],argTypes:=h })(d:dk x s a w m)(f:gt x.env s.f y= .lit (.int k p))(g:gt x.env s.f z= .lit (.int k q)):
 dh P x s a w o ⟨.lit (.int k (if p<q then q else p)),[]⟩:=by
 have b:=ao d y;have c:=ao d z;rw[f]at b;rw[g]at c;have b:=b.lit_;have c:=c.lit_;refine .same d (v:= .int k (if p<q then q else p)) ?_ rfl (.val (.lit _));unfold execOp;simp[e,resolve,invoke,builtin,b,c,Builtin.max_,Builtin.max2]
theorem wL(c:dk x s a w m): ∀(l:List Operand)(vs:List Value),rP (l.map (gt x.env s.f))=some vs->l.map a.eval=vs
 |[],vs,h=>by cases h;rfl
 | y::l,vs,h=>by
   have e:=ao c y;rw[PE]at h;cases d:gt x.env s.f y with
   | lit v=>
     rw[d]at h e;unfold rP at h;obtain⟨b,f,rfl⟩:=P6.1 h;rw[PE,wL c l b f,e.lit_]
   |_=>rw[d]at h;cases h
theorem rc{fn:Fn}{first captured:Array Operand}(l:o.op= .makeFunc fn first captured)(f:dk x s a w m)(h:(aY P x.env s.f o).run s=some out):dh P x s a w o out:=by
 unfold aY at h;simp only[l]at h;cases fn with
 | func g=>
   simp only at h;split at h
   ·rename_i d;have n:first= #[]:=by simpa using d.1
    subst n;obtain rfl:=bE h;refine .same f (v:= .func (.func g) #[] (captured.map a.eval)) ?_ rfl ?_
    ·unfold execOp;simp[l,Instr.makeFunc]
    have:=RL.clo (w:=w) (m:=m) (s:=s) g (captured.toList.map a.eval) (captured.toList.map (gt x.env s.f)) (by simp) fun i v c k d=>by
     rw[OS]at k d;cases p:captured.toList[i]? with
     |none=>rw[p]at k;cases k
     |some y=>rw[p]at k d;cases k;cases d;exact ao f y
    rwa [show (captured.toList.map a.eval).toArray=captured.map a.eval by rw[<-Sa,PP]]at this
   rename_i d;split at h
   ·rename_i j;have n:first= #[]:=by simpa using j
    have b:captured= #[]:=by
     by_cases e:captured.isEmpty=true
     ·simpa using e
     exact absurd ⟨j,by simpa using e⟩ d
    subst n b;obtain rfl:=bE h;refine .same f (v:= .func (.func g) #[] #[]) ?_ rfl (.val (.lit _));unfold execOp;simp[l,Instr.makeFunc]
   unfold mL at h;split at h
   ·rename_i t q r;have b:captured= #[]:=by simpa using q
    subst b;obtain rfl:=bE h;refine .same f (v:= .func (.func g) (first.map a.eval) #[]) ?_ rfl ?_
    ·unfold execOp;simp[l,Instr.makeFunc]
    rw[show first.map a.eval=(first.toList.map a.eval).toArray by rw[<-Sa,PP],wL f _ t r];exact .val (.lit _)
   simp[Rd.run]at h
 |_=>simp[Rd.run]at h
theorem tN{t:TypeId}{y:Operand}(b:o.op= .call { callee:= .builtin .clear,args:= #[y],argTypes:= #[t] }){v:Value}{w':World}(h:(Builtin.clear_ #[t] o.type #[a.eval y]).run P w= .ok v w'):(execOp a.eval o).run P w= .ok (.value v) w':=by
 unfold execOp;simp[b,resolve,invoke,builtin,h]
theorem r6(b:List Value)(n:Nat):(Builtin.zeroCells b.toArray n).toList=(List.replicate n b).flatten:=by
 have f:(List.replicate n b).flatten.length=n*b.length:=by simp
 apply PM;intro k;by_cases d:k<n*b.length
 ·have c:0<b.length:=Nat.pos_of_ne_zero fun e=>by rw[e]at d;omega
  have g:k%b.length<b.length:=Rt _ c
  have h:(Builtin.zeroCells b.toArray n).toList[k]? =some b[k%b.length]:=by
   simp[Builtin.zeroCells,d,g]
  have i:(List.replicate n b).flatten[k/b.length*b.length+k%b.length]? =some b[k%b.length]:=by
   have j:k/b.length<n:=(Nat.div_lt_iff_lt_mul c).2 d;refine lD (List.replicate n b) (fun l p=>by rw[SD p]) _ _ b _ (by simp[j]) (OE g)
  rw[h, <-i,R8]
 rw[OT (by simp[Builtin.zeroCells];omega),OT (by omega)]
theorem KU{t:TypeId}{y:Operand}(ho:o.op= .call { callee:= .builtin .clear,args:= #[y],argTypes:= #[t] })(S:dk x s a w m)(h:(mP P t (gt x.env s.f y)).run s=some out):dh P x s a w o out:=by
 have hy:=ao S y;unfold mP at h;split at h
 ·rename_i r ver d e esz eb G n0 z0 ex hd;rw[ex]at hy;obtain⟨hu,ie,ze,i1,i2,i3,i4,i5⟩:=bF hd;simp only[Rd.run]at h;by_cases z:s.esc r=true
  ·rw[OL z]at h;simp[Rd.run]at h
  have z:s.esc r=false:=by simpa using z
  rw[OK (by simp[z])]at h;obtain⟨row,T,Y,hrz,h⟩:=dl h;split at h
  ·rename_i hc;obtain⟨⟨c1,c2,c3⟩,c4,c5⟩:=hc;simp only[Rd.run,OH]at h;subst h;have R:=hy.sub_.2 Y row T;have k:=(S.rows r row T).cells hrz;obtain⟨xs,k1,k2,k3⟩:=k.own;have hz1: ∀v∈G,v.oneCell'=true:=fun v R=>(OP.1 c3) v R;have hzv:=kN (P:=P) i1 i2;have hxl:=k1.1
   have V: ∀(i:Nat)(e:List AV),(row.es.take d++List.replicate (row.es.length-d) (G.map AV.lit))[i]? =some e->(i<d/\row.es[i]? =some e)\/(d<=i/\i<row.es.length/\e=G.map .lit):=fun i e A=>by
    rw[List.getElem?_append,OZ,Qd c5]at A;split at A
    ·rename_i hi;rw[Om,OL hi]at A;exact .inl ⟨hi,A⟩
    rename_i hi;rw[R7]at A;split at A
    ·cases A;exact .inr ⟨by omega,by omega,rfl⟩
    cases A
   have B:(row.es.take d++List.replicate (row.es.length-d) (G.map AV.lit)).length=row.es.length:=by simp;omega
   have Z: ∀(i:Nat)(e:List AV),(row.es.take d++List.replicate (row.es.length-d) (G.map AV.lit))[i]? =some e->e.length=row.sz:=fun i e A=>by
    rcases V i e A with⟨_,q⟩|⟨_,_,rfl⟩
    ·exact k.len i e q
    simp;omega
   have hze:ze.cells=G.toArray:=by rw[<-i5]
   by_cases hn:row.es.length=d
   ·
    have H:(Builtin.clear_ #[t] o.type #[a.eval y]).run P w= .ok (.tuple #[]) w:=by
     rw[R];rcases k1.2 with⟨M,e0⟩|⟨g,N,p,M,_⟩
     ·rw[M];simp[Builtin.clear_,OV hu,UO]
     rw[M];simp only[UO,hn,Sp];split
     ·simp[Builtin.clear_,OV hu]
     simp[Builtin.clear_,OV hu]
    have W:({ row with es:=row.es.take d++List.replicate (row.es.length-d) (G.map AV.lit) } :Row)=row:=by
     rw[<-hn,Sp,List.replicate_zero,P9,Ob]
    have J:dd ([.set r { row with es:=row.es.take d++List.replicate (row.es.length-d) (G.map AV.lit) }]:List CT) s=s:=by
     rw[W];simp only[dd,CT.app,St.setRow]
     have:na s.rows r (some row)=s.rows:=by
      funext q
      by_cases e:q=r
      ·rw[e,aE,T]
      rw[ct _ _ _ e]
     rw[this]
    refine⟨_,w,m, .tuple #[],tN ho H, .inl rfl,by rw[J];exact S, .val (.any _)⟩
   rcases k1.2 with⟨M,e0⟩|⟨g,N,p,M,e2,e3,e4,e5,e6,e7⟩
   ·omega
   have C:(m.ρ r).ownBlock=some g:=by rw[M];rfl
   have Q:=k.fresh z g C;have hcur:row.es.length*row.sz<=p.size:=by rw[e6];exact Oz _ e4
   obtain⟨E,L⟩: ∃E:List Value,E=(List.replicate (row.es.length-d) G).flatten:=⟨_,rfl⟩;have K:E.length=(row.es.length-d)*row.sz:=by rw[L];simp[c2,c1]
   have X: ∀v∈E,v.oneCell'=true:=fun v R=>by
    rw[L]at R;obtain⟨l,hl,K⟩:=TP.1 R;rw[SD hl]at K;exact hz1 v K
   have hfit:d*row.sz+E.length=row.es.length*row.sz:=by rw[K, <-P7];congr 1;omega
   have J:=TH P g (d*row.sz) row.e E 0 p w e3 (by omega) X;simp only[QT]at J
   have H:(Builtin.clear_ #[t] o.type #[a.eval y]).run P w= .ok (.tuple #[]) (w.setRow g (ef p.toList (d*row.sz) E).toArray):=by
    rw[R,M];simp only[UO];rw[OK (by omega),O0,tq,PR];obtain⟨q,I⟩: ∃q,row.es.length-d=q+1:=⟨row.es.length-d-1,by omega⟩;have hzz:(Builtin.zeroCells ze.cells (row.es.length-d)).toList=E:=by rw[hze,r6,L]
    rw[I]at hzz |-;simp[Builtin.clear_,OV hu,hzv,hzz,J,ef]
   have hb:Below x.w.heap.size w (w.setRow g (ef p.toList (d*row.sz) E).toArray):=⟨rfl,rfl,rfl,by simp,fun q I=>QS w g q _ (by omega)⟩;have U: ∀b o,m.S b o->m.S b o/\k0 w (w.setRow g (ef p.toList (d*row.sz) E).toArray) b o:=fun b o hh=>⟨hh, .block (QS w g b _ fun e=>Q o (e ▸ hh))⟩;have hx: ∀q,q<row.es.length*row.sz->xs[q]? =p.toList[q]? :=fun q I=>by rw[<-e7,Om,OL I]
   refine⟨_,_,m, .tuple #[],tN ho H, .inl rfl,?_, .val (.any _)⟩;refine S.reset r row _ T rfl hb (fun b o hh=>(U b o hh).2) (fun q row1 hne I gq D=>QS w g gq _ (fun e=>S.inj r q row row1 T I (Py hne) g C (e ▸ D))) ?_ fun b hf=>QS w g b _ fun e=>S.Z3 r row T g C (e ▸ hf);refine .inl ⟨k.pos,Z,⟨ef xs (d*row.sz) E,⟨?_, .inr ⟨g,N,_,by rw[B];exact M,e2,Re w g p _ row.e _ e3,by rw[B];exact e4,e5,?_,?_⟩⟩,?_,?_⟩,fun A=> ?_,fun gq D o _=> ?_,fun _ gq D o=> ?_⟩
   ·rw[dP _ _ _ (by omega),B];exact hxl
   ·show (ef p.toList (d*row.sz) E).toArray.size=N*row.sz;rw[QI,dP _ _ _ (by simp;omega),P2,e6]
   ·show (ef p.toList (d*row.sz) E).toArray.toList.take ((row.es.take d++List.replicate (row.es.length-d) (G.map AV.lit)).length*row.sz)=ef xs (d*row.sz) E;apply PM;intro q;rw[B,Rz,Om,bj p.toList _ _ (by simp;omega),bj xs _ _ (by omega)];split
    ·rename_i I;split
     ·exact(hx q I).symm
     split
     ·rfl
     exact(hx q I).symm
    rename_i I;rw[OK (by omega),OK (by omega),OT (by omega)]
   ·intro u hu;simp only[ef,Of]at hu;rcases hu with(hu|hu)|hu
    ·exact k2 u (Ph hu)
    ·exact X u hu
    exact k2 u (Qf hu)
   ·intro i j c f;have O:=eL Z f;rw[B]at O;show ∃u,(ef xs (d*row.sz) E)[i*row.sz+j]? =some u/\(if row.pure=true then _ else _);simp only[c4,PW];rw[bj _ _ _ (by omega)];unfold bt at f;cases A:(row.es.take d++List.replicate (row.es.length-d) (G.map AV.lit))[i]? with
    |none=>rw[A]at f;cases f
    | some e=>
      rw[A]at f;have f:e[j]? =some c:=f;rcases V i e A with⟨q1,q2⟩|⟨q1,q2,rfl⟩
      ·obtain⟨u,u1,u2⟩:=k3 i j c (by unfold bt;rw[q2];exact f);rw[OL c4]at u2;have:=kg (n:=d) q1 O.2;exact⟨u,by rw[OL this];exact u1,u2.mono U⟩
      ·rw[OS]at f;cases hj:G[j]? with
       |none=>rw[hj]at f;cases f
       | some v=>
         rw[hj]at f;cases f;refine⟨v,?_, .lit v⟩;have h1:d*row.sz<=i*row.sz:=Oz _ q1;have h2:=kg q2 O.2;rw[OK (by omega),OL (by omega),L];have:=lD (List.replicate (row.es.length-d) G) (fun l hl=>by rw[SD hl,c2,c1]) (i-d) j G v (by rw[R7,OL (by omega)]) hj;rw[<-this]
         congr 1
         rw[Nat.sub_mul];omega
   ·simp only[St.setRow]at A;rw[z]at A;cases A
   ·rw[C]at D;cases D;exact Q o
   rw[C]at D;cases D;exact Q o
  simp[Rd.run]at h
 simp[Rd.run]at h
theorem Db(j:dk x s a w m)(h:(aY P x.env s.f o).run s=some out):dh P x s a w o out:=by
 cases g:o.op with
 |move y=>exact C6 g j h
 |assign y=>exact xY g j h
 |pick c y z=>exact C5 g j h
 |alloc t=>exact zl g j h
 |box t y=>exact GJ g j h
 |build t N=>exact zj g j h
 |buildSlice t n N=>exact pJ g j h
 |load t y=>exact C7 g j h
 |store t y z=>exact zf g j h
 |nilCheck y=>exact r9 g j h
 |binOp M t y z T=>exact zk g j h
 |unOp M t y=>exact C4 g j h
 |convert src K y=>exact uu g j h
 |makeInterface t y=>exact lI g j h
 |makeSlice t l c=>exact qz g j h
 | makeMap t O=>
   cases O with
   |none=>exact uq g j h
   |some y=>unfold aY at h;simp[g,Rd.run]at h
 |lookup t y k S=>exact xX g j h
 |makeFunc fn first E=>exact rc g j h
 |mapUpdate t y k v=>exact qy g j h
 |mapEntry t y k=>exact rb g j h
 |entryStore t y n v=>exact pI g j h
 | slice t y R Q J=>
   cases J with
   |none=>exact zg g j h
   |some J=>exact C8 g j h
 |fieldAddr t y i=>exact rB g j h
 |field t y i=>exact zi g j h
 |indexAddr t y i=>exact rA g j h
 |index t y i=>exact zh g j h
 |extract y i=>exact ut g j h
 | call c=>
   obtain⟨B,args,d⟩:=c;cases B with
   | builtin b=>
     unfold aY at h;simp only[g]at h;split at h
     ·rename_i y t u C;have A:args= #[y]:=by rw[<-PP (xs:=args),u]
      have D:d= #[t]:=by rw[<-PP (xs:=d),C]
      subst A D;exact NN g j h
     ·rename_i y z t I u C;have A:args= #[y,z]:=by rw[<-PP (xs:=args),u]
      have D:d= #[t,I]:=by rw[<-PP (xs:=d),C]
      subst A D;split at h
      ·rename_i e;subst e;exact IP g j h
      simp[Rd.run]at h
     ·rename_i y z u;have A:args= #[y,z]:=by rw[<-PP (xs:=args),u]
      subst A;unfold Dd at h;split at h
      ·rename_i k p L q G H;split at h
       ·rename_i e;subst e;obtain rfl:=bE h;exact NK g j G H
       simp[Rd.run]at h
      simp[Rd.run]at h
     ·rename_i y z u;have A:args= #[y,z]:=by rw[<-PP (xs:=args),u]
      subst A;unfold De at h;split at h
      ·rename_i k p L q G H;split at h
       ·rename_i e;subst e;obtain rfl:=bE h;exact NL g j G H
       simp[Rd.run]at h
      simp[Rd.run]at h
     ·rename_i y t u C;have A:args= #[y]:=by rw[<-PP (xs:=args),u]
      have D:d= #[t]:=by rw[<-PP (xs:=d),C]
      subst A D;exact KU g j h
     ·rename_i y z t I u C;have A:args= #[y,z]:=by rw[<-PP (xs:=args),u]
      have D:d= #[t,I]:=by rw[<-PP (xs:=d),C]
      subst A D;exact ID g j h
     simp[Rd.run]at h
   |value f=>unfold aY at h;simp[g,Rd.run]at h
   |invoke r n=>unfold aY at h;simp[g,Rd.run]at h
 |_=>unfold aY at h;simp[g,Rd.run]at h
end
end
section
def Rd.log{a:Type} :Rd a->St->List Nat×List Nat
 | .ret _,_=>([],[])
 | .fail,_=>([],[])
 | .look r k,s=>(r::((k (s.rows r) (s.vs r)).log s).1,((k (s.rows r) (s.vs r)).log s).2)
 | .esc r k,s=>(((k (s.esc r)).log s).1,r::((k (s.esc r)).log s).2)
def Rd.frame{h:Type}(q:Rd h)(s s':St)(d: ∀r∈(q.log s).1,s'.rows r=s.rows r/\s'.vs r=s.vs r)(e: ∀r∈(q.log s).2,s'.esc r=s.esc r):q.run s'=q.run s/\q.log s'=q.log s:=by
 induction q with
 |ret a=>exact⟨rfl,rfl⟩
 |fail=>exact⟨rfl,rfl⟩
 | look r k f=>
   obtain⟨c,g⟩:=d r (by simp[Rd.log]);have:=f (s.rows r) (s.vs r) (fun q b=>d q (by simp[Rd.log,b])) (fun q b=>e q (by simpa[Rd.log]using b));simp only[Rd.run,Rd.log,c,g,this.1,this.2,O8]
 | esc r k f=>
   have c:=e r (by simp[Rd.log]);have:=f (s.esc r) (fun q b=>d q (by simpa[Rd.log]using b)) (fun q b=>e q (by simp[Rd.log,b]));simp only[Rd.run,Rd.log,c,this.1,this.2,O8]
def o3:List CT->List Nat
 |[]=>[]
 | .renew r _::l | .grow r _::l | .set r _::l=>r::o3 l
 | .show _::l=>o3 l
def Es:List CT->List Nat
 |[]=>[]
 | .show r::l=>r::Es l
 |_::l=>Es l
structure ff where
 rd:List Nat
 re:List Nat
 wr:List Nat
 we:List Nat
def eU:ff:=⟨[],[],[],[]⟩
def rQ(q:Rd Out)(s:St)(a:Out):ff:=⟨(q.log s).1,(q.log s).2,o3 a.Z2,Es a.Z2⟩
def SM(a b:List Nat):Bool:=a.all fun x=> !b.contains x
def ff.apart(a b:ff):Bool:=SM a.wr (b.rd++b.re++b.wr++b.we)&&SM b.wr (a.rd++a.re++a.wr++a.we)&&SM a.we b.re&&SM b.we a.re
def eK{a b:List Nat}(h:SM a b=true){r:Nat}(c:r∈a)(d:r∈b):False:=by
 have:=(OP.1 h) r c;simp[d]at this
/-! Effects change places -/
def eT{s s':St}(a:s.f=s'.f)(b:s.rows=s'.rows)(c:s.vs=s'.vs)(d:s.esc=s'.esc):s=s':=by
 cases s;cases s';simp_all
def N3(l:List CT)(s:St):(dd l s).f=s.f:=by
 induction l generalizing s with
 |nil=>rfl
 |cons e l a=>rw[dd,a];cases e<;>rfl
def IL(l:List CT)(s:St)(r:Nat)(h:r∉o3 l):(dd l s).rows r=s.rows r/\(dd l s).vs r=s.vs r:=by
 induction l generalizing s with
 |nil=>exact⟨rfl,rfl⟩
 | cons e l c=>
   cases e with
   | renew q row=>
     simp only[o3,O7,TA]at h;obtain⟨a,b⟩:=c (s.renew q row false) h.2;rw[dd];exact⟨a.trans (ct _ _ _ h.1),b.trans (ct _ _ _ h.1)⟩
   | grow q row=>
     simp only[o3,O7,TA]at h;obtain⟨a,b⟩:=c (s.renew q row (s.esc q)) h.2;rw[dd];exact⟨a.trans (ct _ _ _ h.1),b.trans (ct _ _ _ h.1)⟩
   | set q row=>
     simp only[o3,O7,TA]at h;obtain⟨a,b⟩:=c (s.setRow q row) h.2;rw[dd];exact⟨a.trans (ct _ _ _ h.1),b⟩
   | «show» q=>
     simp only[o3]at h;obtain⟨a,b⟩:=c (s.show q) h;rw[dd];exact⟨a,b⟩
def K3(l:List CT)(s:St)(r:Nat)(h:r∉o3 l)(a:r∉Es l):(dd l s).esc r=s.esc r:=by
 induction l generalizing s with
 |nil=>rfl
 | cons e l b=>
   cases e with
   | renew q row=>
     simp only[o3,Es,O7,TA]at h a;rw[dd];exact(b (s.renew q row false) h.2 a).trans (ct _ _ _ h.1)
   | grow q row=>
     simp only[o3,Es,O7,TA]at h a;rw[dd];exact(b (s.renew q row (s.esc q)) h.2 a).trans (ct _ _ _ h.1)
   | set q row=>
     simp only[o3,Es,O7,TA]at h a;rw[dd];exact b (s.setRow q row) h.2 a
   | «show» q=>
     simp only[o3,Es,O7,TA]at h a;rw[dd];exact(b (s.show q) h a.2).trans (ct _ _ _ a.1)
def av{b:Type}(f:Nat->b){i j:Nat}(u v:b)(h:i≠j):na (na f i u) j v=na (na f j v) i u:=by
 funext t
 simp only[na];by_cases a:t=j
 ·subst a;rw[OL rfl,OK (Py h),OL rfl]
 rw[OK a];split<;>rfl
def KD(e:CT)(l:List CT)(s:St)(j:SM (o3 [e]) (o3 l++Es l)=true)(m:SM (o3 l) (Es [e])=true):dd l (e.app s)=e.app (dd l s):=by
 induction l generalizing s with
 |nil=>rfl
 | cons k l o=>
   have h:SM (o3 [e]) (o3 l++Es l)=true:=by
    refine OP.2 fun r d=> ?_;have:=(OP.1 j) r d;cases k<;>simp_all[o3,Es]
   have i:SM (o3 l) (Es [e])=true:=by
    refine OP.2 fun r d=> ?_;exact(OP.1 m) r (by cases k<;>simp[o3,d])
   have p:k.app (e.app s)=e.app (k.app s):=by
    have c: ∀r∈o3 [e],∀q∈o3 [k]++Es [k],r≠q:=fun r d q f g=>by
     subst g;refine eK j d ?_;rcases Of.1 f with f|f
     ·cases k<;>simp_all[o3,Es]
     cases k<;>simp_all[o3,Es]
    have n: ∀r∈o3 [k],∀q∈Es [e],r≠q:=fun r d q f g=>by
     subst g;refine eK m ?_ f;cases k<;>simp_all[o3]
    cases e with
    | renew r row=>
      cases k with
      | renew q b=>
        have a:r≠q:=c r (by simp[o3]) q (by simp[o3]);exact eT rfl (av _ _ _ a) (by simp only[CT.app,St.renew,ct _ _ _ a,ct _ _ _ (Py a)];exact av _ _ _ a) (av _ _ _ a)
      | grow q b=>
        have a:r≠q:=c r (by simp[o3]) q (by simp[o3]);exact eT rfl (av _ _ _ a) (by simp only[CT.app,St.renew,ct _ _ _ a,ct _ _ _ (Py a)];exact av _ _ _ a) (by simp only[CT.app,St.renew,ct _ _ _ (Py a)];exact av _ _ _ a)
      | set q b=>
        have a:r≠q:=c r (by simp[o3]) q (by simp[o3]);exact eT rfl (av _ _ _ a) rfl rfl
      | «show» q=>
        have a:r≠q:=c r (by simp[o3]) q (by simp[Es]);exact eT rfl rfl rfl (av _ _ _ a)
    | grow r row=>
      cases k with
      | renew q b=>
        have a:r≠q:=c r (by simp[o3]) q (by simp[o3]);exact eT rfl (av _ _ _ a) (by simp only[CT.app,St.renew,ct _ _ _ a,ct _ _ _ (Py a)];exact av _ _ _ a) (by simp only[CT.app,St.renew,ct _ _ _ a];exact av _ _ _ a)
      | grow q b=>
        have a:r≠q:=c r (by simp[o3]) q (by simp[o3]);exact eT rfl (av _ _ _ a) (by simp only[CT.app,St.renew,ct _ _ _ a,ct _ _ _ (Py a)];exact av _ _ _ a) (by simp only[CT.app,St.renew,ct _ _ _ a,ct _ _ _ (Py a)];exact av _ _ _ a)
      | set q b=>
        have a:r≠q:=c r (by simp[o3]) q (by simp[o3]);exact eT rfl (av _ _ _ a) rfl rfl
      | «show» q=>
        have a:r≠q:=c r (by simp[o3]) q (by simp[Es]);exact eT rfl rfl rfl (by simp only[CT.app,St.renew,St.show,ct _ _ _ a];exact av _ _ _ a)
    | set r row=>
      cases k with
      | renew q b=>
        have a:r≠q:=c r (by simp[o3]) q (by simp[o3]);exact eT rfl (av _ _ _ a) rfl rfl
      | grow q b=>
        have a:r≠q:=c r (by simp[o3]) q (by simp[o3]);exact eT rfl (av _ _ _ a) rfl rfl
      | set q b=>
        have a:r≠q:=c r (by simp[o3]) q (by simp[o3]);exact eT rfl (av _ _ _ a) rfl rfl
      | «show» q=>rfl
    | «show» r=>
      cases k with
      | renew q b=>
        have a:q≠r:=n q (by simp[o3]) r (by simp[Es]);exact eT rfl rfl rfl (av _ _ _ (Py a))
      | grow q b=>
        have a:q≠r:=n q (by simp[o3]) r (by simp[Es]);exact eT rfl rfl rfl (by simp only[CT.app,St.renew,St.show,ct _ _ _ a];exact av _ _ _ (Py a))
      |set q b=>rfl
      | «show» q=>
        by_cases a:r=q
        ·subst a;rfl
        exact eT rfl rfl rfl (av _ _ _ a)
   show dd l (k.app (e.app s))=e.app (dd l (k.app s));rw[p,o _ h i]
def IM(a b:List CT)(s:St)(d:SM (o3 a) (o3 b++Es b)=true)(f:SM (o3 b) (Es a)=true):dd b (dd a s)=dd a (dd b s):=by
 induction a generalizing s with
 |nil=>rfl
 | cons e a g=>
   have h:SM (o3 [e]) (o3 b++Es b)=true:=OP.2 fun r c=>(OP.1 d) r (by cases e<;>simp_all[o3]);have i:SM (o3 a) (o3 b++Es b)=true:=OP.2 fun r c=>(OP.1 d) r (by cases e<;>simp_all[o3])
   have j:SM (o3 b) (Es [e])=true:=OP.2 fun r c=>by
    have:=(OP.1 f) r c;cases e<;>simp_all[Es]
   have k:SM (o3 b) (Es a)=true:=OP.2 fun r c=>by
    have:=(OP.1 f) r c;cases e<;>simp_all[Es]
   show dd b (dd a (e.app s))=dd a (e.app (dd b s));rw[g _ i k,KD e b s h j]
def BE(l:List CT)(s:St)(d:Option Nat)(c:AV):dd l (s.put d c)=(dd l s).put d c:=by
 cases d with
 |none=>rfl
 | some d=>
   induction l generalizing s with
   |nil=>rfl
   | cons e l a=>
     have:e.app (s.put (some d) c)=(e.app s).put (some d) c:=by cases e<;>rfl
     rw[dd,this,a];rfl
def VE(s:St){d a:Option Nat}(c b:AV)(h: ∀t,d=some t->a≠some t):(s.put d c).put a b=(s.put a b).put d c:=by
 cases d with
 |none=>rfl
 | some d=>
   cases a with
   |none=>rfl
   |some a=>exact eT (av _ _ _ (fun e=>h d rfl (by rw[e]))) rfl rfl rfl
def BD(s:St)(d:Option Nat)(c:AV):(s.put d c).rows=s.rows/\(s.put d c).vs=s.vs/\(s.put d c).esc=s.esc:=by
 cases d<;>exact⟨rfl,rfl,rfl⟩
def Ni(s:St)(d:Option Nat)(c:AV)(t:Nat)(h:d≠some t):(s.put d c).f t=s.f t:=by
 cases d with
 |none=>rfl
 |some d=>exact ct _ _ _ (fun e=>h (by rw[e]))
/-! An operation's reading hangs on its operands alone -/
def Dc{P:Program}{env:b7}{f f':Nat->AV}(o:Oper)(h: ∀y∈o.op.operands,gt env f y=gt env f' y):aY P env f o=aY P env f' o:=by
 obtain⟨j,q,i,r,after,guard⟩:=o
 have a: ∀ps:Array (Nat×Operand),(∀y∈(ps.toList.map (·.2)).toArray,gt env f y=gt env f' y)->(ps.toList.map fun p=>(p.1,gt env f p.2))=ps.toList.map fun p=>(p.1,gt env f' p.2):=fun ps m=>
  Po fun p l=>by rw[m p.2 (by simp;exact⟨p.1,by simpa using l⟩)]
 cases q<;>simp only[Op.operands]at h<;>simp only[aY]
 case makeMap t rs=>cases rs<;>rfl
 case makeFunc fn first captured=>
  cases fn with
  | func g=>
    have:captured.toList.map (gt env f)=captured.toList.map (gt env f'):=Po fun y e=>h y (by simp;exact .inr (by simpa using e));have k:first.toList.map (gt env f)=first.toList.map (gt env f'):=Po fun y e=>h y (by simp;exact .inl (by simpa using e));simp only[this,k]
  |_=>rfl
 case build t ps=>rw[a ps h]
 case buildSlice t n ps=>rw[a ps h]
 case slice t y lo hi mx=>
  cases mx with
  |some mx=>cases lo<;>cases hi<;>simp_all
  |none=>cases lo<;>cases hi<;>simp_all
 case call c=>
  obtain⟨d,args,u⟩:=c;cases d with
  | builtin b=>
    simp only[Call.operands]at h;have s: ∀y∈args.toList,gt env f y=gt env f' y:=fun y e=>h y (by simpa using e);simp only;split<;>simp_all
  |_=>rfl
 all_goals (first|rfl|(simp_all;done))
end
end Go.Proofs.YtfcdkaolcdglmaaGreatDoor
