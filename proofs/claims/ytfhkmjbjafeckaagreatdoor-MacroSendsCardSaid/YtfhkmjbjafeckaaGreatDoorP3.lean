/- Operations that turn no memory: places, numbers, texts, equality. No program is named here. Values as others see them; stores. No program is named here. Operations that make rows. No program is named here. Operations that make rows, the rest; all operations together. No program is named here. Pieces, appends, made rows, lengths; all operations together. No program is named here. All operations together. No program is named here. What an operation leans on: operations that lean on nothing of one another may change places. No program is named here. -/
import Derived.Test.YtfhkmjbjafeckaaGreatDoorP2
set_option linter.unusedSimpArgs false
set_option maxHeartbeats 1000000
set_option linter.defProp false
namespace Go.Proofs.YtfhkmjbjafeckaaGreatDoor
open Go.RowKit
section
section
variable {P:Program} {x:py} {s:St} {a:Act} {w:World} {m:ld} {o:Oper} {out:Out}
theorem ir{t e:TypeId}{c:TypeInfo}(w:World)(b p len cap:Nat)(k:IntKind)(i:Int)(h:P.underlying t=some (.slice e))(hi:P.info? e=some c)(d:0<=i)(f:i<len):
 (Instr.indexAt t (.slice (some ⟨b,p,none⟩) len cap) (.int k i)).run P w= .ok (.pointer (some ⟨b,p+i.toNat*c.size,none⟩)) w:=by
 have g:(sizeOf e).run P w= .ok c.size w:=by simp[sizeOf,typeInfo,hi]
 simp[Instr.indexAt,asIntOf,NL h,d,f,g,Addr.add_mid]
theorem rO{t:TypeId}{y i:Operand}(O:o.op= .indexAddr t y i)(C:dT x s a w m)(h:(aX P x.env s.f o).run s=some out):dl P x s a w o out:=by
 have B:=ar C y;have l:=ar C i;unfold aX at h;simp only[O]at h;unfold gK at h;split at h
 ·rename_i sz Y k n e z eb ez n' z' I J M;rw[I]at B;rw[J]at l;have l:=l.lit_;obtain⟨T,ie,ze,V,q2,W,q4,q5⟩:=bI M;split at h
  ·rename_i K;obtain⟨H,b1,rfl⟩:=K;simp only[Rd.run,Ms]at h;subst h;have hr:=B.seq_;generalize G:a.eval y=vy at*;cases hr with
   | seq A U q sz Y b p u hn Z hA hz L Q=>
     obtain rfl:=hA (by omega);have d:=ir (P:=P) w b p U q k n T V H (by omega);refine .same C (v:= .pointer (some ⟨b,p+(n.toNat*z+0),none⟩)) ?_ rfl (.val (.ref z Y n.toNat 0 b p u hz L Q));unfold execOp;simp only[O,G,l,NZ,d,NP,Nu,W,PY]
  simp[Rd.run]at h
 ·rename_i r X k n e z eb ez n' z' I J M;rw[I]at B;rw[J]at l;have l:=l.lit_;obtain⟨T,ie,ze,V,q2,W,q4,q5⟩:=bI M;simp only[Rd.row,Rd.run]at h;cases c:s.rows r with
  |none=>rw[c]at h;simp[Rd.run]at h
  | some j=>
    rw[c]at h;simp only at h;split at h
    ·rename_i f;obtain⟨f,R⟩:=f;split at h
     ·rename_i K;obtain⟨H,b1,S⟩:=K;simp only[Rd.run,Ms]at h;subst h;obtain⟨N,B⟩:=B.row_;have G:=B f j c;have k':=(C.rows r j c).cells R;obtain⟨xs,k1,_⟩:=k'.own;obtain⟨g,q,D,_⟩:=k1.form (by omega);rw[D]at G;have d:=ir (P:=P) w g 0 j.es.length q k n T V H (by omega);refine .same C (v:= .pointer (some ⟨g,n.toNat*j.sz+0,none⟩)) ?_ rfl (.loc r X n.toNat 0 rfl N fun _ row' E=>⟨g,by rw[D];rfl,by rw[c]at E;cases E;rfl⟩);unfold execOp;simp only[O,G,l,NZ,d,NP,Nu,W,PY,OM,S]
     simp[Rd.run]at h
    simp[Rd.run]at h
 simp[Rd.run]at h
theorem kQ(b:ByteArray):b.toList=bS b:=ByteArray.toList_eq b
theorem jZ(b:ByteArray):b.size=(bS b).length:=by
 obtain⟨⟨l⟩⟩:=b;rfl
theorem sI(b:ByteArray):b=⟨(bS b).toArray⟩:=by
 obtain⟨⟨l⟩⟩:=b;rfl
theorem AE{t:TypeId}{y i:Operand}(u:o.op= .index t y i)(l:dT x s a w m)(h:(aX P x.env s.f o).run s=some out):dl P x s a w o out:=by
 have j:=ar l y;have g:=ar l i;unfold aX at h;simp only[u]at h;obtain⟨c,d,h⟩:=gC h;obtain rfl:=bH h;unfold pW at d;split at d
 ·rename_i str k n G H z A D;rw[z]at j;rw[A]at g;have j:=j.lit_;have g:=g.lit_;have E:=dI D;split at d
  ·rename_i B;split at d
   ·rename_i b r;cases d
    have p:str[n.toNat]? =some b:=by
     have q:n.toNat< (bS str).length:=(Mr.1 r).1;have e:n.toNat<str.size:=by rw[jZ];exact q
     have C:=(Mr.1 r).2;rw[getElem?_pos str n.toNat e, <-C];rfl
    refine .same l (v:= .int .u8 b.toNat) ?_ rfl (.val (.lit _))
    have f:(Instr.index t (.string str) (.int k n)).run P w= .ok (.int .u8 b.toNat) w:=by
     simp only[Instr.index,asIntOf,NZ,Nu,NP,NL E,Mw B,p]
    unfold execOp;simp only[u,j,g,NZ,f,NP,Nu]
   cases d
  cases d
 cases d
theorem bC{d:BinOp}{t:TypeId}{x y:Operand}{b c:Value}(w:World)(e: ¬(b= .nilIface/\c= .nilIface))(f: ∀p q,¬(b= .agg p/\c= .agg q)):(eqGuard d t x y b c).run P w= .ok () w:=by
 cases d<;>first
  |rfl
  |(unfold eqGuard
    simp only[Oi,NU,OA];split
    ·exact absurd ⟨rfl,rfl⟩ e
    ·exact absurd ⟨rfl,rfl⟩ (f _ _)
    rfl)
theorem Am{b:BinOp}{t:TypeId}{x y:Operand}(w:World)(h:(cX x||cX y)=true):(eqGuard b t x y .nilIface .nilIface).run P w= .ok () w:=by
 cases x<;>cases y<;>cases b<;>first|rfl|(simp[cX]at h;done)|simp[eqGuard]
section
variable (w:World) (d:Nat) (t:TypeId)
theorem Fi{b:Array (String×TypeId)}(h:P.underlying t=some (.interface b)):(Op.equalIn (d+1) t .nilIface .nilIface).run P w= .ok true w:=by simp[Op.equalIn,NL h]
theorem Fl{b:Array (String×TypeId)}(h:P.underlying t=some (.interface b))(q:TypeId)(v:Value):(Op.equalIn (d+1) t (.iface q v) .nilIface).run P w= .ok false w:=by simp[Op.equalIn,NL h]
theorem Fj{b:Array (String×TypeId)}(h:P.underlying t=some (.interface b))(q:TypeId)(v:Value):(Op.equalIn (d+1) t .nilIface (.iface q v)).run P w= .ok false w:=by simp[Op.equalIn,NL h]
theorem tv{e:TypeId}(h:P.underlying t=some (.slice e))(A:Option Addr)(n c f b:Nat):(Op.equalIn (d+1) t (.slice A n c) (.slice none f b)).run P w= .ok A.isNone w:=by cases A<;>simp[Op.equalIn,NL h]
theorem Fh{e:TypeId}(h:P.underlying t=some (.pointer e)):(Op.equalIn (d+1) t (.pointer none) (.pointer none)).run P w= .ok true w:=by simp[Op.equalIn,NL h]
theorem tu{e:TypeId}(h:P.underlying t=some (.pointer e))(q:Addr):(Op.equalIn (d+1) t (.pointer (some q)) (.pointer none)).run P w= .ok false w:=by simp[Op.equalIn,NL h]
theorem Fg{e:TypeId}(h:P.underlying t=some (.pointer e))(q:Addr):(Op.equalIn (d+1) t (.pointer none) (.pointer (some q))).run P w= .ok false w:=by simp[Op.equalIn,NL h]
end
theorem cJ{t:TypeId}{b c:Value}{r:Bool}(f:binOp .eql t b c=(do pure (.bool (<-Op.equal t b c))))(h: ∀d,(Op.equalIn (d+1) t b c).run P w= .ok r w):(binOp .eql t b c).run P w= .ok (.bool r) w:=by
 have e:(Op.equal t b c).run P w= .ok r w:=h 9999;rw[f,NZ,e];rfl
theorem cH{t:TypeId}{b c:Value}{r:Bool}(f:binOp .neq t b c=(do pure (.bool (!(<-Op.equal t b c)))))(h: ∀d,(Op.equalIn (d+1) t b c).run P w= .ok r w):(binOp .neq t b c).run P w= .ok (.bool (!r)) w:=by
 have e:(Op.equal t b c).run P w= .ok r w:=h 9999;rw[f,NZ,e];rfl
theorem aJ{b:BinOp}{t e:TypeId}{y z:Operand}(d:o.op= .binOp b t y z e){v:Value}(c:(eqGuard b t y z (a.eval y) (a.eval z)).run P w= .ok () w)(h:(binOp b t (a.eval y) (a.eval z)).run P w= .ok v w):(execOp a.eval o).run P w= .ok (.value v) w:=by
 unfold execOp;simp only[d,NZ,c,h,NP,Nu]
theorem xg{t:TypeId}{l n:AV}{b:Bool}{u v:Value}(h:ce P t l n=some b)(j:RL w m s u l)(k:RL w m s v n):
 (∀(xs:Array Value)(o:Nat)(q:Value)(w:World),xs[o]? =some q->(part t xs o).run P w= .ok q w)/\ ∀(d:Nat)(w:World),(Op.equalIn (d+1) t u v).run P w= .ok b w:=by
 unfold ce at h;split at h
 ·split at h
  ·rename_i g;split at h
   ·rename_i p;cases h;have e:=j.lit_;have f:=k.lit_;subst p e f;have c:=oT g;exact⟨fun xs o q w i=>by simp[part,isAgg,NL c,i],fun d w=>run_equalIn_int w d t _ _ _ _ c⟩
   cases h
  cases h
 ·split at h
  ·rename_i g;cases h;have e:=j.lit_;have f:=k.lit_;subst e f;have c:=dI g;exact⟨fun xs o q w i=>by simp[part,isAgg,NL c,i],fun d w=>by rw[run_equalIn_string w d t _ _ c];simp[kQ]⟩
  cases h
 ·split at h
  ·rename_i g;cases h;have e:=j.lit_;have f:=k.lit_;subst e f;have c:=mB g;exact⟨fun xs o q w i=>by simp[part,isAgg,NL c,i],fun d w=>Rm w d t _ _ c⟩
  cases h
 cases h
theorem EN{t:TypeId}{f g:AV}{b:Bool}{u:Value}(h:ce P t f g=some b)(_hu:RL w m s u f): ∀(xs:Array Value)(o:Nat)(q:Value)(w:World),xs[o]? =some q->(part t xs o).run P w= .ok q w:=by
 unfold ce at h;split at h
 ·split at h
  ·rename_i c;have d:=oT c;exact fun xs o q w e=>by simp[part,isAgg,NL d,e]
  cases h
 ·split at h
  ·rename_i c;have d:=dI c;exact fun xs o q w e=>by simp[part,isAgg,NL d,e]
  cases h
 ·split at h
  ·rename_i c;have d:=mB c;exact fun xs o q w e=>by simp[part,isAgg,NL d,e]
  cases h
 cases h
theorem zK{xs C:List AV}{j vs:List Value}(k:j.length=xs.length)(l:vs.length=C.length)(I: ∀(i:Nat)(v:Value)(c:AV),j[i]? =some v->xs[i]? =some c->RL w m s v c)(J: ∀(i:Nat)(v:Value)(c:AV),vs[i]? =some v->C[i]? =some c->RL w m s v c)(d:Nat):
 ∀(e:List Field)(n:List (Nat×TypeId×Nat))(b:Bool),e.mapM (fun f=>(P.info? f.type).map fun i=>(f.offset,f.type,i.size))=some n->e.all (fun f=>f.name≠ "_")=true->rl P xs C n=some b->(Op.eqFields (d+1) j.toArray vs.toArray e).run P w= .ok b w
 | [],n,b,g,_,h=>by
   simp only[List.mapM_nil,QS,Ms]at g;subst g;simp only[rl,Ms]at h;subst h;rfl
 | f::e,n,b,g,z,h=>by
   simp only[Q3,Qe,QS]at g;cases t:P.info? f.type with
   |none=>simp[t]at g
   | some i=>
     cases B:e.mapM (fun f=>(P.info? f.type).map fun i=>(f.offset,f.type,i.size)) with
     |none=>simp[t,B]at g
     | some r=>
       simp only[t,B,NT,OD,Ms]at g;subst g;simp only[Qg,Mu]at z;simp only[rl]at h;split at h
       ·rename_i Q R G H;split at h
        ·rename_i p q L M;cases h;have u:f.offset<j.length:=by rw[k];exact(Mr.1 G).1
         have y:f.offset<vs.length:=by rw[l];exact(Mr.1 H).1
         have D:j[f.offset]? =some j[f.offset]:=Mq u;have E:vs[f.offset]? =some vs[f.offset]:=Mq y;obtain⟨K,O⟩:=xg L (I _ _ _ D G) (J _ _ _ E H);have N:=zK k l I J d e r q B z.2 M;have A:f.name≠ "_" :=by simpa using z.1
         simp only[Op.eqFields,Mw A,NZ,K j.toArray f.offset _ w (by rw[RD];exact D),K vs.toArray f.offset _ w (by rw[RD];exact E),NP,O d w];cases p
         ·simp
         simpa using N
        cases h
       cases h
theorem dn{e:Type}{r b:Nat}{k:Row->Rd e}{s:St}{y:e}(h:(Rd.row r b k).run s=some y): ∃row,s.rows r=some row/\s.vs r=b/\row.sz≠0/\(k row).run s=some y:=by
 simp only[Rd.row,Rd.run]at h;cases c:s.rows r with
 |none=>rw[c]at h;simp[Rd.run]at h
 | some row=>
   rw[c]at h;simp only at h;split at h
   ·rename_i d;exact⟨row,rfl,d.1,d.2,h⟩
   simp[Rd.run]at h
theorem AH{L:BinOp}{t ty:TypeId}{y z:Operand}(D:o.op= .binOp L t y z ty)(C:dT x s a w m)(h:(aX P x.env s.f o).run s=some out):dl P x s a w o out:=by
 have j:=ar C y;have e:=ar C z;unfold aX at h;simp only[D]at h;unfold vu at h;split at h
 ·rename_i r ver i O H I;rw[H]at j;rw[I]at e;have e:=e.lit_;obtain⟨row,V,W,_,h'⟩:=dn h;try clear h
  have h:=h';try clear h'
  obtain⟨g,_,K⟩:=j.loc_.2 W row V;have l:(eqGuard L t y z (a.eval y) (a.eval z)).run P w= .ok () w:=by rw[K,e];exact bC w (by simp) (by simp)
  split at h
  ·rename_i E;obtain rfl:=bH h;obtain⟨N,G⟩:=lz E;exact .same C (aJ D l (by rw[K,e];exact cJ rfl fun d=>tu w d t G _)) rfl (.val (.lit _))
  ·rename_i E;obtain rfl:=bH h;obtain⟨N,G⟩:=lz E;exact .same C (aJ D l (by rw[K,e];exact cH rfl fun d=>tu w d t G _)) rfl (.val (.lit _))
  simp[Rd.run]at h
 ·rename_i A Y R Z S H I;rw[H]at j;rw[I]at e;have j:=j.lit_;have e:=e.lit_;have l:(eqGuard L t y z (a.eval y) (a.eval z)).run P w= .ok () w:=by rw[j,e];exact bC w (by simp) (by simp)
  split at h
  ·rename_i E;obtain rfl:=bH h;have G:=(bI E).1;exact .same C (aJ D l (by rw[j,e];exact cJ rfl fun d=>tv w d t G A Y R Z S)) rfl (.val (.lit _))
  ·rename_i E;obtain rfl:=bH h;have G:=(bI E).1;exact .same C (aJ D l (by rw[j,e];exact cH rfl fun d=>tv w d t G A Y R Z S)) rfl (.val (.lit _))
  simp[Rd.run]at h
 ·rename_i sz e0 es0 Z S H I;rw[H]at j;rw[I]at e;have j:=j.seq_;have e:=e.lit_;generalize Q:a.eval y=vy at*;cases j with
  | seq A Y R sz es b o u hn hcap hA hzz M hrr=>
    have hA:=hA (by simp at hn;omega);subst hA;have l:(eqGuard L t y z (a.eval y) (a.eval z)).run P w= .ok () w:=by rw[Q,e];exact bC w (by simp) (by simp)
    split at h
    ·rename_i E;obtain rfl:=bH h;have G:=(bI E).1;exact .same C (aJ D l (by rw[Q,e];exact cJ rfl fun d=>tv w d t G _ Y R Z S)) rfl (.val (.lit _))
    ·rename_i E;obtain rfl:=bH h;have G:=(bI E).1;exact .same C (aJ D l (by rw[Q,e];exact cH rfl fun d=>tv w d t G _ Y R Z S)) rfl (.val (.lit _))
    simp[Rd.run]at h
 obtain⟨c,B,h⟩:=gC h;obtain rfl:=bH h;unfold IW at B;split at B
 ·rename_i k p k' q H I;rw[H]at j;rw[I]at e;have j:=j.lit_;have e:=e.lit_;have l:(eqGuard L t y z (a.eval y) (a.eval z)).run P w= .ok () w:=by rw[j,e];exact bC w (by simp) (by simp)
  split at B<;>(try cases B;done)<;>(split at B<;>(try cases B;done))<;>rename_i J<;>cases B
  ·exact .same C (aJ D l (v:= .int k (k.wrap (p+q))) (by rw[j,e];subst J;simp[binOp,Op.intArith])) rfl (.val (.lit _))
  ·exact .same C (aJ D l (v:= .int k (k.wrap (p-q))) (by rw[j,e];subst J;simp[binOp,Op.intArith])) rfl (.val (.lit _))
  ·exact .same C (aJ D l (v:= .int k (k.wrap (p*q))) (by rw[j,e];subst J;simp[binOp,Op.intArith])) rfl (.val (.lit _))
  ·obtain⟨J,hq⟩:=J;exact .same C (aJ D l (v:= .int k (k.wrap (p.tdiv q))) (by rw[j,e];subst J;simp[binOp,Op.intDiv,hq])) rfl (.val (.lit _))
  ·obtain⟨J,hq⟩:=J;exact .same C (aJ D l (v:= .int k (p.tmod q)) (by rw[j,e];subst J;simp[binOp,Op.intDiv,hq])) rfl (.val (.lit _))
  ·exact .same C (aJ D l (v:= .bool (p==q)) (by rw[j,e];subst J;simp[binOp,Op.intCmp])) rfl (.val (.lit _))
  ·exact .same C (aJ D l (v:= .bool (p != q)) (by rw[j,e];subst J;simp[binOp,Op.intCmp])) rfl (.val (.lit _))
  ·exact .same C (aJ D l (v:= .bool (decide (p<q))) (by rw[j,e];subst J;simp[binOp,Op.intCmp])) rfl (.val (.lit _))
  ·exact .same C (aJ D l (v:= .bool (decide (p<=q))) (by rw[j,e];subst J;simp[binOp,Op.intCmp])) rfl (.val (.lit _))
  ·exact .same C (aJ D l (v:= .bool (decide (p>q))) (by rw[j,e];subst J;simp[binOp,Op.intCmp])) rfl (.val (.lit _))
  ·exact .same C (aJ D l (v:= .bool (decide (p>=q))) (by rw[j,e];subst J;simp[binOp,Op.intCmp])) rfl (.val (.lit _))
  ·exact .same C (aJ D l (v:= .int k (uI .and k p q)) (by rw[j,e];subst J;simp[binOp,Op.intBits,uI])) rfl (.val (.lit _))
  ·exact .same C (aJ D l (v:= .int k (uI .or k p q)) (by rw[j,e];subst J;simp[binOp,Op.intBits,uI])) rfl (.val (.lit _))
  ·exact .same C (aJ D l (v:= .int k (uI .xor k p q)) (by rw[j,e];subst J;simp[binOp,Op.intBits,uI])) rfl (.val (.lit _))
  ·exact .same C (aJ D l (v:= .int k (uI .andNot k p q)) (by rw[j,e];subst J;simp[binOp,Op.intBits,uI])) rfl (.val (.lit _))
  ·exact .same C (aJ D l (v:= .int k (k.wrap (p*2^min q.toNat k.bits))) (by rw[j,e];simp[binOp,Op.shift,SP.2 J])) rfl (.val (.lit _))
  exact .same C (aJ D l (v:= .int k (p.fdiv (2^min q.toNat k.bits))) (by rw[j,e];simp[binOp,Op.shift,SP.2 J])) rfl (.val (.lit _))
 ·rename_i p q H I;rw[H]at j;rw[I]at e;have j:=j.lit_;have e:=e.lit_;have l:(eqGuard L t y z (a.eval y) (a.eval z)).run P w= .ok () w:=by rw[j,e];exact bC w (by simp) (by simp)
  split at B
  ·split at B
   ·rename_i hle;cases B;refine .same C (aJ D l (v:= .string ⟨(bS p++bS q).toArray⟩) ?_) rfl (.val (.lit _));rw[j,e];have:=Kg (P:=P) (bS p) (bS q) hle w;rw[<-sI, <-sI]at this;simpa[binOp]using this
   cases B
  ·cases B;exact .same C (aJ D l (v:= .bool (bS p==bS q)) (by rw[j,e];simp[binOp,Op.stringOp,kQ])) rfl (.val (.lit _))
  ·cases B;exact .same C (aJ D l (v:= .bool (!(bS p==bS q))) (by rw[j,e];simp[binOp,Op.stringOp,kQ])) rfl (.val (.lit _))
  ·cases B;exact .same C (aJ D l (v:= .bool (Op.bytesLess (bS p) (bS q))) (by rw[j,e];simp[binOp,Op.stringOp,kQ])) rfl (.val (.lit _))
  ·cases B;exact .same C (aJ D l (v:= .bool (Op.bytesLess (bS p) (bS q)||bS p==bS q)) (by rw[j,e];simp[binOp,Op.stringOp,kQ])) rfl (.val (.lit _))
  ·cases B;exact .same C (aJ D l (v:= .bool (!(Op.bytesLess (bS p) (bS q)||bS p==bS q))) (by rw[j,e];simp[binOp,Op.stringOp,kQ])) rfl (.val (.lit _))
  ·cases B;exact .same C (aJ D l (v:= .bool (!Op.bytesLess (bS p) (bS q))) (by rw[j,e];simp[binOp,Op.stringOp,kQ])) rfl (.val (.lit _))
  cases B
 ·rename_i p q H I;rw[H]at j;rw[I]at e;have j:=j.lit_;have e:=e.lit_;have l:(eqGuard L t y z (a.eval y) (a.eval z)).run P w= .ok () w:=by rw[j,e];exact bC w (by simp) (by simp)
  split at B
  ·rename_i E;cases B;have G:=mB E;exact .same C (aJ D l (by rw[j,e];exact cJ rfl fun d=>Rm w d t p q G)) rfl (.val (.lit _))
  ·rename_i E;cases B;have G:=mB E;exact .same C (aJ D l (by rw[j,e];exact cH rfl fun d=>Rm w d t p q G)) rfl (.val (.lit _))
  cases B
 ·rename_i H I;rw[H]at j;rw[I]at e;have j:=j.lit_;have e:=e.lit_
  have l:(cX y||cX z)=true->(eqGuard L t y z (a.eval y) (a.eval z)).run P w= .ok () w:=fun hh=>by
   rw[j,e];exact Am w hh
  split at B
  ·rename_i E M;cases B;obtain⟨N,G⟩:=jd E;exact .same C (aJ D (l M) (by rw[j,e];exact cJ rfl fun d=>Fi w d t G)) rfl (.val (.lit _))
  ·rename_i E M;cases B;obtain⟨N,G⟩:=jd E;exact .same C (aJ D (l M) (by rw[j,e];exact cH rfl fun d=>Fi w d t G)) rfl (.val (.lit _))
  cases B
 ·rename_i ti ci H I;rw[H]at j;rw[I]at e;obtain⟨u,j,_⟩:=j.iface_;have e:=e.lit_;have l:(eqGuard L t y z (a.eval y) (a.eval z)).run P w= .ok () w:=by rw[j,e];exact bC w (by simp) (by simp)
  split at B
  ·rename_i E;cases B;obtain⟨N,G⟩:=jd E;exact .same C (aJ D l (by rw[j,e];exact cJ rfl fun d=>Fl w d t G _ _)) rfl (.val (.lit _))
  ·rename_i E;cases B;obtain⟨N,G⟩:=jd E;exact .same C (aJ D l (by rw[j,e];exact cH rfl fun d=>Fl w d t G _ _)) rfl (.val (.lit _))
  cases B
 ·rename_i ti ci H I;rw[H]at j;rw[I]at e;obtain⟨u,e,_⟩:=e.iface_;have j:=j.lit_;have l:(eqGuard L t y z (a.eval y) (a.eval z)).run P w= .ok () w:=by rw[j,e];exact bC w (by simp) (by simp)
  split at B
  ·rename_i E;cases B;obtain⟨N,G⟩:=jd E;exact .same C (aJ D l (by rw[j,e];exact cJ rfl fun d=>Fj w d t G _ _)) rfl (.val (.lit _))
  ·rename_i E;cases B;obtain⟨N,G⟩:=jd E;exact .same C (aJ D l (by rw[j,e];exact cH rfl fun d=>Fj w d t G _ _)) rfl (.val (.lit _))
  cases B
 ·rename_i H I;rw[H]at j;rw[I]at e;have j:=j.lit_;have e:=e.lit_;have l:(eqGuard L t y z (a.eval y) (a.eval z)).run P w= .ok () w:=by rw[j,e];exact bC w (by simp) (by simp)
  split at B
  ·rename_i E;cases B;obtain⟨N,G⟩:=lz E;exact .same C (aJ D l (by rw[j,e];exact cJ rfl fun d=>Fh w d t G)) rfl (.val (.lit _))
  ·rename_i E;cases B;obtain⟨N,G⟩:=lz E;exact .same C (aJ D l (by rw[j,e];exact cH rfl fun d=>Fh w d t G)) rfl (.val (.lit _))
  cases B
 ·rename_i sz es i O H I;rw[H]at j;rw[I]at e;have e:=e.lit_;have hr:=j.ref_;generalize K:a.eval y=vy at*;cases hr with
  | ref sz es i O b p u hz' M hrv=>
    have l:(eqGuard L t y z (a.eval y) (a.eval z)).run P w= .ok () w:=by rw[K,e];exact bC w (by simp) (by simp)
    split at B
    ·rename_i E;cases B;obtain⟨N,G⟩:=lz E;exact .same C (aJ D l (by rw[K,e];exact cJ rfl fun d=>tu w d t G _)) rfl (.val (.lit _))
    ·rename_i E;cases B;obtain⟨N,G⟩:=lz E;exact .same C (aJ D l (by rw[K,e];exact cH rfl fun d=>tu w d t G _)) rfl (.val (.lit _))
    cases B
 ·rename_i sz es i O H I;rw[H]at j;rw[I]at e;have j:=j.lit_;have hr:=e.ref_;generalize K:a.eval z=vz at*;cases hr with
  | ref sz es i O b p u hz' M hrv=>
    have l:(eqGuard L t y z (a.eval y) (a.eval z)).run P w= .ok () w:=by rw[K,j];exact bC w (by simp) (by simp)
    split at B
    ·rename_i E;cases B;obtain⟨N,G⟩:=lz E;exact .same C (aJ D l (by rw[K,j];exact cJ rfl fun d=>Fg w d t G _)) rfl (.val (.lit _))
    ·rename_i E;cases B;obtain⟨N,G⟩:=lz E;exact .same C (aJ D l (by rw[K,j];exact cH rfl fun d=>Fg w d t G _)) rfl (.val (.lit _))
    cases B
 ·rename_i xs ys H I;rw[H]at j;rw[I]at e;obtain⟨us,G,hul,_,huc⟩:=j.agg_;obtain⟨vs,K,hvl,_,hvc⟩:=e.agg_
  have X: ∀ {fs:List (Nat×TypeId×Nat)}{n:Nat}{z':List Value}{b:Bool},ef P t=some ⟨.struct fs true,n,z'⟩->rl P xs ys fs=some b->(eqGuard L t y z (a.eval y) (a.eval z)).run P w= .ok () w/\(Op.equalIn 10000 t (.agg us.toArray) (.agg vs.toArray)).run P w= .ok b w:=fun {fs n z' b} E T=>by
   obtain⟨f,hf,hm,he⟩:=eG E;have he:=he.symm;simp only[Mu,Nx]at he;obtain⟨⟨h1,h2⟩,h3⟩:=he;have U:P.fieldsOf t=f:=by simp[Program.fieldsOf,hf]
   refine⟨?_,?_⟩
   ·rw[G,K];exact run_eqGuard_agg w L t y z _ _ h1
   rw[run_equalIn_agg w 9999 t _ _ (by rw[U];exact hf) h2,U];exact zK hul hvl huc hvc 9998 _ _ _ hm h3 T
  split at B
  ·rename_i E;obtain⟨b,T,rfl⟩:=OI.1 B;obtain⟨k1,k2⟩:=X E T;exact .same C (aJ D k1 (v:= .bool b) (by rw[G,K,run_eql_struct,k2];rfl)) rfl (.val (.lit _))
  ·rename_i E;obtain⟨b,T,rfl⟩:=OI.1 B;obtain⟨k1,k2⟩:=X E T;exact .same C (aJ D k1 (v:= .bool (!b)) (by rw[G,K,run_neq_struct,k2];rfl)) rfl (.val (.lit _))
  cases B
 cases B
end
end
section
def g4(a b:List u3)(s:St):dk (a++b) s=dk b (dk a s):=by
 induction a generalizing s with
 |nil=>rfl
 |cons e l c=>exact c _
def cn(l:List Nat)(s:St):(dk (ik l) s).rows=s.rows/\(dk (ik l) s).vs=s.vs/\(dk (ik l) s).f=s.f:=by
 induction l generalizing s with
 |nil=>exact⟨rfl,rfl,rfl⟩
 |cons r l a=>exact a (s.show r)
def GX(l:List Nat)(s:St)(r:Nat)(h:l.all (· != r)=true):(dk (ik l) s).esc r=s.esc r:=by
 induction l generalizing s with
 |nil=>rfl
 | cons q l a=>
   simp only[Qg,Mu,RG,ne_eq]at h;refine(a (s.show q) h.2).trans ?_;simp[St.show,mu,Ot h.1]
def RL.shown{w:World}{m:ld}{s:St}{v:Value}{c:AV}(h:RL w m s v c)(l:List Nat){S':Nat->Nat->Prop}(g: ∀b o,m.S b o->S' b o):RL w ⟨S',m.ρ⟩ (dk (ik l) s) v c:=by
 obtain⟨e,f,_⟩:=cn l s;refine h.mono (fun b o i=>⟨g b o i, .rfl⟩) (fun r=>by rw[f];exact NC _) fun r a _ d=>⟨a,by rw[e]at d;exact d,rfl,rfl⟩
def fq{b c:Type}{q:Rd b}{k:b->Rd c}{s:St}{y:c}(h:(q.bind k).run s=some y): ∃z,q.run s=some z/\(k z).run s=some y:=by
 rw[Rd.run_bind]at h;cases a:q.run s with
 |none=>rw[a]at h;cases h
 |some z=>rw[a]at h;exact⟨z,rfl,h⟩
def ky{f:Type}{sz:Nat} : ∀(d:List (List f)),(∀l∈d,l.length=sz)-> ∀(i j:Nat)(l:List f)(u:f),d[i]? =some l->l[j]? =some u->d.flatten[i*sz+j]? =some u
 |[],_,i,j,l,u,h,_=>by simp at h
 | e::b,c,0,j,l,u,h,a=>by
   have h:e=l:=by simpa using h
   subst h;have m:j<e.length:=(Mr.1 a).1;simp only[QX,Pi,OM];rw[Nb m,a]
 | e::b,c,i+1,j,l,u,h,a=>by
   have h:b[i]? =some l:=by simpa using h
   have k:e.length=sz:=c e (by simp);have o:=ky b (fun l n=>c l (by simp[n])) i j l u h a;have g:(i+1)*sz+j-sz=i*sz+j:=by rw[OY,P7];omega
   have p:sz<=(i+1)*sz+j:=by rw[OY,P7];omega
   simp only[QX];rw[N3 (by omega),k,g];exact o
def qy{c:AV}{s s':St}(d:s'.rows=s.rows)(e:s'.vs=s.vs):(cd c).run s'=(cd c).run s:=by
 cases c<;>simp only[cd,Rd.row,Rd.run]
 ·rw[d,e];rename_i r b;cases s.rows r with
  |none=>rfl
  | some a=>
    simp only;split<;>(try split)<;>rfl
 ·rw[d,e];rename_i r b i f;cases s.rows r with
  |none=>rfl
  | some a=>
    simp only;split<;>(try split)<;>rfl
 ·rw[d,e];rename_i r b g;cases s.rows r with
  |none=>rfl
  | some a=>
    simp only;split<;>(try split)<;>rfl
def gh{s s':St}(a:s'.rows=s.rows)(b:s'.vs=s.vs): ∀cs:List AV,(eM cs).run s'=(eM cs).run s
 |[]=>rfl
 | c::cs=>by
   simp only[eM,Rd.run_bind,qy a b,gh a b cs];rfl
section
variable {x:py} {a:Act} {w:World}
theorem uR(b p k:Nat):(⟨b,p,none⟩:Addr).add k=⟨b,p+k,none⟩:=by unfold Addr.add;split<;>simp_all
theorem RV.cut{S:Nat->Nat->Prop}{w:World}{v:Value}{sz lo:Nat}{es:List (List AV)}(h:RV S w v (.seq sz es))(C:lo<=es.length):RV S w (Ss v (lo*sz) lo) (.seq sz (es.drop lo)):=by
 cases h with
 | seq A n k sz es b o u D p t z g y=>
   have d: ∀(i j:Nat)(c:AV),bs (es.drop lo) i j=some c->bs es (i+lo) j=some c:=fun i j c g=>by
    unfold bs at g |-;rw[OL,Rx lo i]at g;exact g
   refine .seq _ (n-lo) (k-lo) sz (es.drop lo) b (o+lo*sz) (fun i j=>u (i+lo) j) (by simp;omega) (by omega) (fun B=> ?_) (fun i e q=>z _ e (by rw[OL]at q;exact q)) (fun i j c f=> ?_) (fun i j c f=>y _ _ _ (d i j c f))
   ·rw[Mt (by omega),t (by omega),NT,uR]
   obtain⟨l,m,s⟩:=g _ _ _ (d i j c f);have r:o+((i+lo)*sz+j)=o+lo*sz+(i*sz+j):=by rw[OY];omega
   rw[r]at l m;exact⟨l,m,s⟩
theorem RL.plain{s:St}{m:ld}{c:AV}{u:Value}(d:RL w m s u c)(b:c.plain=true):RV m.S w u c:=by
 cases d with
 |val h=>exact h
 |agg=>simp[AV.plain]at b
 |tuple=>simp[AV.plain]at b
 |row=>simp[AV.plain]at b
 |loc=>simp[AV.plain]at b
 |mp=>simp[AV.plain]at b
 |sub=>simp[AV.plain]at b
 |clo=>simp[AV.plain]at b
theorem xP{s:St}{m:ld}{c:AV}{y:AV×List Nat}{v:Value}(h:(cd c).run s=some y)(H:dT x s a w m)(k:RL w m s v c):
 ∃S',dT x (dk (ik y.2) s) a w ⟨S',m.ρ⟩/\(∀b o,m.S b o->S' b o)/\RV S' w v y.1:=by
 have plain: ∀ {c:AV},RV m.S w v c->y=(c,[])-> ∃S',dT x (dk (ik y.2) s) a w ⟨S',m.ρ⟩/\(∀b o,m.S b o->S' b o)/\RV S' w v y.1:=fun N e=>by
  subst e;exact⟨m.S,H,fun _ _ h=>h,N⟩
 cases c with
 | row r K=>
   obtain⟨row,l,C,d,h⟩:=dn h;split at h
   ·rename_i E;simp only[Rd.run,Ms]at h;subst h;obtain⟨S',z,A,B⟩:=H.show r row l d E;have:=k.row_.2 C row l;subst this;exact⟨S',z,A,B⟩
   simp[Rd.run]at h
 | loc r K i J=>
   obtain⟨row,l,C,d,h⟩:=dn h;split at h
   ·rename_i E;simp only[Rd.run,Ms]at h;subst h
    obtain⟨S',z,A,_,B⟩:=H.show_ r row l d (fun p j c u D n=>by
     by_cases G:row.pure=true
     ·rw[Mw G]at n;exact n
     ·rw[Mt G]at n;have I:row.es.all (·.all AV.plain)=true:=by simpa[G]using E
      unfold bs at D;cases L:row.es[p]? with
      |none=>rw[L]at D;cases D
      | some e=>
        rw[L]at D;have f:=(Mz.1 ((Mz.1 I) e (Mv L))) c (Mv D);cases n with
        |val h=>exact h
        |agg=>simp[AV.plain]at f
        |tuple=>simp[AV.plain]at f
        |row=>simp[AV.plain]at f
        |loc=>simp[AV.plain]at f
        |mp=>simp[AV.plain]at f
        |sub=>simp[AV.plain]at f
        |clo=>simp[AV.plain]at f)
    obtain⟨g,M,q⟩:=k.loc_.2 C row l;subst q;exact⟨S',z,A,B g M i J⟩
   simp only[Rd.run,Ms]at h;subst h
   obtain⟨S',z,A,_,B⟩:=H.showF AV.soft r row l d (fun p j c u D n=>by
    unfold AV.soft;by_cases f:c.plain=true
    ·rw[Mw f];by_cases G:row.pure=true
     ·rw[Mw G]at n;exact n
     rw[Mt G]at n;exact n.plain f
    rw[Mt f]
    exact .any u)
   obtain⟨g,M,q⟩:=k.loc_.2 C row l;subst q;exact⟨S',z,A,B g M i J⟩
 | sub r K O=>
   obtain⟨row,l,C,d,h⟩:=dn h;split at h
   ·rename_i E;simp only[Rd.run,Ms]at h;subst h;obtain⟨S',z,A,B⟩:=H.show r row l d E.1;have:=k.sub_.2 C row l;subst this;exact⟨S',z,A,B.cut E.2⟩
   simp[Rd.run]at h
 |own=>simp[cd,Rd.run]at h
 |agg=>simp[cd,Rd.run]at h
 |tuple=>simp[cd,Rd.run]at h
 |mp=>simp[cd,Rd.run]at h
 |clo=>simp[cd,Rd.run]at h
 |fmap=>exact plain (by cases k with|val h=>exact h) (by simpa[cd,Rd.run]using h.symm)
 |full=>exact plain (by cases k with|val h=>exact h) (by simpa[cd,Rd.run]using h.symm)
 |news=>exact plain (by cases k with|val h=>exact h) (by simpa[cd,Rd.run]using h.symm)
 |any=>exact plain (.any v) (by simpa[cd,Rd.run]using h.symm)
 |lit u=>exact plain (by cases k with|val h=>exact h) (by simpa[cd,Rd.run]using h.symm)
 |iface t u=>exact plain (by cases k with|val h=>exact h) (by simpa[cd,Rd.run]using h.symm)
 |seq=>exact plain (by cases k with|val h=>exact h) (by simpa[cd,Rd.run]using h.symm)
 |ref=>exact plain (by cases k with|val h=>exact h) (by simpa[cd,Rd.run]using h.symm)
theorem nT: ∀ {cs:List AV}{vs:List Value}{s:St}{m:ld}{y:List AV×List Nat},(eM cs).run s=some y->dT x s a w m->vs.length=cs.length->(∀(i:Nat)(v:Value)(c:AV),vs[i]? =some v->cs[i]? =some c->RL w m s v c)->
 ∃S',dT x (dk (ik y.2) s) a w ⟨S',m.ρ⟩/\(∀b o,m.S b o->S' b o)/\y.1.length=cs.length/\ ∀(i:Nat)(v:Value)(c:AV),vs[i]? =some v->y.1[i]? =some c->RV S' w v c
 | [],vs,s,m,y,h,f,g,j=>by
   simp only[eM,Rd.run,Ms]at h;subst h;exact⟨m.S,f,fun _ _ h=>h,rfl,fun i v c _ D=>by simp at D⟩
 |c::cs,[],s,m,y,h,f,g,j=>by simp at g
 | c::cs,v::vs,s,m,y,h,f,g,j=>by
   simp only[eM]at h;obtain⟨q,B,h⟩:=fq h;obtain⟨I,C,h⟩:=fq h;simp only[Rd.run,Ms]at h;subst h;obtain⟨J,G,t,H⟩:=xP B f (j 0 v c rfl rfl);obtain⟨z,A,_⟩:=cn q.2 s;have l:(eM cs).run (dk (ik q.2) s)=some I:=by rw[<-C];exact gh z A cs
   obtain⟨u,E,r,p3,p4⟩:=nT l G (by simpa using g) (fun i p k e d=>(j (i+1) p k (by simpa using e) (by simpa using d)).shown q.2 t);refine⟨u,by simp only[ik,NA,g4];exact E,fun b o n=>r b o (t b o n),by simp[p3],fun i p k e d=> ?_⟩;cases i with
   | zero=>
     simp only[Nr,Ms]at e d;subst e d;exact H.mono fun b o n=>⟨r b o n, .rfl⟩
   |succ i=>exact p4 i p k (by simpa using e) (by simpa using d)
theorem ov{s:St}{m:ld}{c:AV}{y:AV×List Nat}{v:Value}(h:(fz c).run s=some y)(i:dT x s a w m)(l:RL w m s v c):
 ∃S',dT x (dk (ik y.2) s) a w ⟨S',m.ρ⟩/\(∀b o,m.S b o->S' b o)/\RV S' w v y.1:=by
 cases c with
 | agg t=>
   simp only[fz]at h;obtain⟨z,d,h⟩:=fq h;simp only[Rd.run,Ms]at h;subst h;obtain⟨r,e,k,f,j⟩:=l.agg_;obtain⟨S',n,p,u,q⟩:=nT d i k j;subst e;exact⟨S',n,p, .agg r _ (by omega) f q⟩
 | clo g t=>
   simp only[fz]at h;obtain⟨z,d,h⟩:=fq h;simp only[Rd.run,Ms]at h;subst h;obtain⟨r,e,k,j⟩:=l.clo_;obtain⟨S',n,p,u,q⟩:=nT d i k j;subst e;exact⟨S',n,p, .clo g r _ (by omega) q⟩
 |_=>exact xP (by simpa only[fz]using h) i l
end
def cells_one{v:Value}(h:v.oneCell'=true):v.cells= #[v]:=by
 cases v<;>first|rfl|cases h
def nZ{w:World}{m:ld}{s:St}{v:Value}{c:AV}{cs:List AV}(h:c.asCells=some cs)(b:RL w m s v c):
 ∃vs:List Value,v.cells=vs.toArray/\vs.length=cs.length/\(∀v∈vs,v.oneCell'=true)/\ ∀(i:Nat)(v:Value)(c:AV),vs[i]? =some v->cs[i]? =some c->RL w m s v c:=by
 have one:v.oneCell'=true->cs=[c]-> ∃vs:List Value,v.cells=vs.toArray/\vs.length=cs.length/\(∀v∈vs,v.oneCell'=true)/\ ∀(i:Nat)(v:Value)(c:AV),vs[i]? =some v->cs[i]? =some c->RL w m s v c:=fun a e=>by
  subst e;refine⟨[v],by rw[cells_one a],rfl,by simpa using a,fun i C z f k=> ?_⟩;cases i with
  |zero=>simp at f k;subst f k;exact b
  |succ i=>simp at f
 cases c with
 | agg o=>
   simp only[AV.asCells,Ms]at h;subst h;obtain⟨vs,e,y,a,x⟩:=b.agg_;subst e;exact⟨vs,rfl,y,a,x⟩
 |any=>simp[AV.asCells]at h
 |tuple=>simp[AV.asCells]at h
 |own=>simp[AV.asCells]at h
 | lit u=>
   simp only[AV.asCells]at h;split at h
   ·rename_i a;cases h;have:=b.lit_;subst this;exact one a rfl
   cases h
 | iface t u=>
   simp only[AV.asCells,Ms]at h;obtain⟨B,e,_⟩:=b.iface_;exact one (by rw[e];rfl) h.symm
 | seq q l=>
   simp only[AV.asCells,Ms]at h;have d:=b.seq_;exact one (by cases d;rfl) h.symm
 | ref q l i p=>
   simp only[AV.asCells,Ms]at h;have d:=b.ref_;exact one (by cases d;rfl) h.symm
 | row r j=>
   simp only[AV.asCells,Ms]at h;exact one (by cases b with|val h=>cases h|row _ _ a=>exact a) h.symm
 | loc r j i p=>
   simp only[AV.asCells,Ms]at h;exact one (by cases b with|val h=>cases h|loc _ _ _ _ a=>exact a) h.symm
 | mp r j=>
   simp only[AV.asCells,Ms]at h;exact one (by cases b with|val h=>cases h|mp _ _ a=>exact a) h.symm
 | sub r j A=>
   simp only[AV.asCells,Ms]at h;exact one (by cases b with|val h=>cases h|sub _ _ _ a=>exact a) h.symm
 | clo g o=>
   simp only[AV.asCells,Ms]at h;obtain⟨vs,e,_⟩:=b.clo_;exact one (by rw[e];rfl) h.symm
 | fmap l=>
   simp only[AV.asCells,Ms]at h;have d:=b.fmap_;exact one (by cases d;rfl) h.symm
 | full q l=>
   simp only[AV.asCells,Ms]at h;have d:=b.full_;exact one (by cases d;rfl) h.symm
 | news n q l=>
   simp only[AV.asCells,Ms]at h;have d:=b.news_;exact one (by cases d;rfl) h.symm
def uM{S:Nat->Nat->Prop}{w:World}{v:Value}{c:AV}{cs:List AV}(h:c.asCells=some cs)(N:RV S w v c):
 ∃vs:List Value,v.cells=vs.toArray/\vs.length=cs.length/\(∀v∈vs,v.oneCell'=true)/\ ∀(i:Nat)(v:Value)(c:AV),vs[i]? =some v->cs[i]? =some c->RV S w v c:=by
 cases N with
 |any=>simp[AV.asCells]at h
 |tuple=>simp[AV.asCells]at h
 | agg vs B E z p=>
   simp only[AV.asCells,Ms]at h;subst h;exact⟨vs,rfl,E,z,p⟩
 | lit u=>
   simp only[AV.asCells]at h;split at h
   ·rename_i z;cases h;refine⟨[v],by rw[cells_one z],rfl,by simpa using z,fun i q j a d=> ?_⟩;cases i with
    |zero=>simp at a d;subst a d;exact .lit v
    |succ i=>simp at a
   cases h
 | iface t u j M=>
   simp only[AV.asCells,Ms]at h;subst h;refine⟨[.iface t u],rfl,rfl,by simp[Value.oneCell'],fun i q j a d=> ?_⟩;cases i with
   |zero=>simp at a d;subst a d;exact .iface t u _ M
   |succ i=>simp at a
 | seq A n e l f b o u G s C x p H=>
   simp only[AV.asCells,Ms]at h;subst h;refine⟨[.slice A n e],rfl,rfl,by simp[Value.oneCell'],fun i q j a d=> ?_⟩;cases i with
   |zero=>simp at a d;subst a d;exact .seq A n e l f b o u G s C x p H
   |succ i=>simp at a
 | ref l f i y b o u x p H=>
   simp only[AV.asCells,Ms]at h;subst h;refine⟨[.pointer (some ⟨b,o+(i*l+y),none⟩)],rfl,rfl,by simp[Value.oneCell'],fun i q j a d=> ?_⟩;cases i with
   |zero=>simp at a d;subst a d;exact .ref l f _ y b o u x p H
   |succ i=>simp at a
 | clo g vs B E p=>
   simp only[AV.asCells,Ms]at h;subst h;refine⟨[.func (.func g) #[] vs.toArray],rfl,rfl,by simp[Value.oneCell'],fun i q j a d=> ?_⟩;cases i with
   |zero=>simp at a d;subst a d;exact .clo g vs _ E p
   |succ i=>simp at a
 | fmap g r m f J K G x L I=>
   simp only[AV.asCells,Ms]at h;subst h;refine⟨[.map (some g)],rfl,rfl,by simp[Value.oneCell'],fun i q j a d=> ?_⟩;cases i with
   |zero=>simp at a d;subst a d;exact .fmap g r m f J K G x L I
   |succ i=>simp at a
 | full A n l f D=>
   simp only[AV.asCells,Ms]at h;subst h;refine⟨[.slice A n n],rfl,rfl,by simp[Value.oneCell'],fun i q j a d=> ?_⟩;cases i with
   |zero=>simp at a d;subst a d;exact .full A n l f D
   |succ i=>simp at a
 | news A n k e l f C D=>
   simp only[AV.asCells,Ms]at h;subst h;refine⟨[.slice A k e],rfl,rfl,by simp[Value.oneCell'],fun i q j a d=> ?_⟩;cases i with
   |zero=>simp at a d;subst a d;exact .news A n k e l f C D
   |succ i=>simp at a
section
variable {P:Program} {x:py} {s:St} {a:Act} {w:World} {m:ld} {o:Oper} {out:Out}
theorem kG{t:TypeId}{g p:Nat}{e:TypeId}{b:Array Value}{v:Value}{vs:List Value}(w:World)(k:w.heap[g]? =some (.cells b e (0,0)))(n:v.cells=vs.toArray)(f:(P.info? t).map (·.size)=some vs.length)(c:p+vs.length<=b.size)(j: ∀v∈vs,v.oneCell'=true):
 (Instr.storeAt t (.pointer (some ⟨g,p,none⟩)) v).run P w= .ok () (w.setRow g (b.toList.take p++vs++b.toList.drop (p+vs.length)).toArray):=by
 have d:=Rn P g p e vs 0 b w k (by simpa using c) j;cases h:P.info? t with
 |none=>rw[h]at f;cases f
 | some i=>
   rw[h]at f;have l:vs.length=i.size:=by simpa using f.symm
   simp only[PY]at d;simp[Instr.storeAt,Instr.sureAddr,storeVar,sizeOf,typeInfo,h,n,l,d]
theorem AC{t:TypeId}{y z:Operand}(U:o.op= .store t y z)(K:dT x s a w m)(h:(aX P x.env s.f o).run s=some out):dl P x s a w o out:=by
 have hy:=ar K y;have hz:=ar K z;unfold aX at h;simp only[U]at h;unfold pU at h;split at h
 ·rename_i r ver i H d e1 hd;rw[e1]at hy;obtain⟨C,A,G,E,h⟩:=dn h;obtain⟨g,Z,D⟩:=hy.loc_.2 G C A;obtain⟨k,n,zz⟩:=d;obtain⟨td,hu,hk,hn⟩:=yf hd;simp only[Rd.run]at h;cases l:s.esc r with
  |true=>rw[l]at h;simp[Rd.run]at h
  | false=>
    rw[l]at h;simp only[NU,OA]at h;cases L:C.es[i]? with
    |none=>rw[L]at h;simp[Rd.run]at h
    | some e=>
      rw[L]at h;simp only at h;split at h
      ·rename_i V;obtain⟨q,hq,h⟩:=fq h;cases b:q.1.asCells with
       |none=>rw[b]at h;simp[Rd.run]at h
       | some Q=>
         rw[b]at h;simp only at h;split at h
         ·rename_i f;obtain⟨u,p,T⟩:=f;simp only[Rd.run,Ms]at h;subst h;obtain⟨S',q1,q2,q3⟩:=ov hq K hz;obtain⟨W,X,I,J,Y⟩:=uM b q3;obtain⟨er,ev,_⟩:=cn q.2 s;obtain⟨R,M,N,O⟩:=q1.store r C (by rw[er];exact A) E (by rw[GX _ _ _ T];exact l) i H e L Q W I p J (fun j v c D S=>by rw[Mw V];exact Y j v c D S) g Z;have B:=kG (P:=P) (t:=t) w M X (by rw[hn,I];simp[u]) N J;refine⟨.skip,_,_,undef,?_, .inr ⟨rfl,rfl⟩,by rw[g4];exact O, .val (.any _)⟩;unfold execOp;simp only[U,D,NZ,B,NP,Nu]
         simp[Rd.run]at h
      ·rename_i V;cases b:(gt x.env s.f z).asCells with
       |none=>rw[b]at h;simp[Rd.run]at h
       | some Q=>
         rw[b]at h;simp only at h;split at h
         ·rename_i f;obtain⟨u,p⟩:=f;simp only[Rd.run,Ms]at h;subst h;obtain⟨W,X,I,J,Y⟩:=nZ b hz;obtain⟨R,M,N,O⟩:=K.store r C A E l i H e L Q W I p J (fun j v c D S=>by rw[Mt V];exact Y j v c D S) g Z;have B:=kG (P:=P) (t:=t) w M X (by rw[hn,I];simp[u]) N J;refine⟨.skip,_,_,undef,?_, .inr ⟨rfl,rfl⟩,O, .val (.any _)⟩;unfold execOp;simp only[U,D,NZ,B,NP,Nu]
         simp[Rd.run]at h
 simp[Rd.run]at h
end
end
section
section
variable {P:Program} {x:py} {s:St} {a:Act} {w:World} {m:ld} {o:Oper} {out:Out}
theorem KU{d:Option Nat}{t:TypeId}{cs:List AV}{vs:List Value}(q:dT x s a w m)(h:(mJ d t cs).run s=some out)(n:vs.length=cs.length)(p: ∀v∈vs,v.oneCell'=true)
 (r: ∀(i:Nat)(v:Value)(c:AV),vs[i]? =some v->cs[i]? =some c->RL w m s v c):
 ∃m',dT x (dk out.Z2 s) a (w.alloc (.cells vs.toArray t)) m'/\RL (w.alloc (.cells vs.toArray t)) m' (dk out.Z2 s) (.pointer (some ⟨w.heap.size,0,none⟩)) out.val:=by
 unfold mJ at h;cases d with
 |none=>simp[Rd.run]at h
 | some d=>
   simp only at h;split at h
   ·rename_i f;simp only[Rd.run,Ms]at h;subst h
    have g:=q.newRow d ⟨cs.length,[cs],t,false⟩ vs f (by simp[maxLen]) (fun i e k=>by
     cases i with
     |zero=>simp at k;rw[<-k]
     |succ i=>simp at k) (by simpa using n) p (fun i j c b=>by
     unfold bs at b;cases i with
     | zero=>
       have b:cs[j]? =some c:=by simpa using b
       have l:j<vs.length:=by rw[n];exact(Mr.1 b).1
       exact⟨vs[j],by simp[Mq l],by simpa using r j _ c (Mq l) b⟩
     |succ i=>simp at b)
    refine⟨_,g, .loc d (s.vs d+1) 0 0 rfl (by simp[dk,u3.app,St.renew,aw]) fun _ u y=>⟨w.heap.size,by simp[aw,Value.ownBlock],by simp⟩⟩
   simp[Rd.run]at h
theorem AJ{t:TypeId}(l:o.op= .alloc t)(p:dT x s a w m)(h:(aX P x.env s.f o).run s=some out):dl P x s a w o out:=by
 unfold aX at h;simp only[l]at h;cases e:ef P t with
 |none=>rw[e]at h;simp[Rd.run]at h
 | some d=>
   rw[e]at h;simp only at h;split at h
   ·rename_i r;obtain⟨i,E,z,q,D,k,B,C,j⟩:=gV e;have n: ∀v∈d.zero,v.oneCell'=true:=fun v f=>(Mz.1 r.2) v f
    obtain⟨u,y,A⟩:=KU p h (vs:=d.zero) (by simp) n (fun i v c f b=>by
     rw[NB,f]at b;simp only[NT,Ms]at b;subst b
     exact .val (.lit v))
    refine⟨_,_,u,_,?_, .inl rfl,y,A⟩;have g:z.cells=d.zero.toArray:=by rw[<-j]
    unfold execOp;simp[l,Instr.alloc,zeroValue,typeInfo,q,k,newVar,newRow,g]
   simp[Rd.run]at h
theorem GV{t:TypeId}{y:Operand}(d:o.op= .box t y)(c:dT x s a w m)(h:(aX P x.env s.f o).run s=some out):dl P x s a w o out:=by
 have e:=ar c y;unfold aX at h;simp only[d]at h;obtain⟨p,b,h⟩:=gC h;obtain⟨q,j,k,l,n⟩:=nZ b e;obtain⟨f,g,i⟩:=KU c h k l n;refine⟨_,_,f,_,?_, .inl rfl,g,i⟩;unfold execOp;simp[d,Instr.box,newVar,newRow,j]
/-! Parts -/
theorem AB{b:Type}(l:List b)(p:Nat)(v:b)(vs:List b)(h:p+(vs.length+1)<=l.length):ew (l.set p v) (p+1) vs=ew l p (v::vs):=by
 apply Nv;intro k;rw[bz _ _ _ (by simp;omega),bz _ _ _ (by simp;omega)];simp only[NN];by_cases c:k<p
 ·rw[Mw (by omega),Mw c,Py (by omega)]
 by_cases e:k=p
 ·subst e;rw[Mw (by omega),Mt (by omega),Mw (by omega),QP (by omega)];simp
 rw[Mt (by omega),Mt c];by_cases d:k<p+1+vs.length
 ·rw[Mw d,Mw (by omega),show k-p=(k-(p+1))+1 by omega,Og]
 rw[Mt d,Mt (by omega),Py (by omega)]
theorem Cl{b:Type}(l:List b)(p:Nat)(_h:p<=l.length):ew l p ([]:List b)=l:=by
 simp[ew]
theorem oE(off:Nat): ∀(vs:List Value)(k:Nat)(b:Array Value),off+k+vs.length<=b.size->(vs.zipIdx k).foldl (fun(cs:Array Value) p=>cs.setIfInBounds (off+p.2) p.1) b=(ew b.toList (off+k) vs).toArray
 |[],k,b,h=>by simp[Cl _ _ (show off+k<=b.toList.length by simpa using h)]
 | v::vs,k,b,h=>by
   simp only[List.zipIdx_cons,R6];rw[oE off vs (k+1) _ (by simp at h |-;omega)];simp only[Array.toList_setIfInBounds];rw[show off+(k+1)=off+k+1 by omega,AB _ _ _ _ (by simp at h |-;omega)]
theorem xZ{b:Nat->Option (Nat×Nat)}{l vs:List Value}{i off size:Nat}{v:Value}{c:List (Nat×Value)}(k:b i=some (off,size))(e:v.cells=vs.toArray)(j:vs.length=size)(d:off+vs.length<=l.length):
 Instr.fill b l.toArray ((i,v)::c)=Instr.fill b (ew l off vs).toArray c:=by
 have g:(decide (v.cells.size≠size)||decide (off+v.cells.size>l.toArray.size))=false:=by
  rw[e];simp[j];omega
 have h:Array.foldl (fun(f:Array Value)(p:Value×Nat)=>f.setIfInBounds (off+p.2) p.1) l.toArray v.cells.zipIdx=(ew l off vs).toArray:=by
  rw[e];have:=oE off vs 0 l.toArray (by simpa using d);simpa[Rh]using this
 simp only[Instr.fill,k,h];rw[Mt (by simpa using g)]
theorem x8{R:Value->AV->Prop}(I: ∀ {v:Value}{c:AV}{cs:List AV},c.asCells=some cs->R v c-> ∃vs:List Value,v.cells=vs.toArray/\vs.length=cs.length/\(∀v∈vs,v.oneCell'=true)/\ ∀(i:Nat)(v:Value)(c:AV),vs[i]? =some v->cs[i]? =some c->R v c)
 (D:List (Nat×TypeId×Nat))(d:Nat->Option (Nat×Nat))(J: ∀(i off:Nat)(t:TypeId)(n:Nat),D[i]? =some (off,t,n)->d i=some (off,n)):
 ∀(ps:List (Nat×AV))(pv:List (Nat×Value))(cs:List AV)(l:List Value)(cs':List AV),mV D cs ps=some cs'->pv.map (·.1)=ps.map (·.1)->(∀(i:Nat)(p:Nat×Value)(q:Nat×AV),pv[i]? =some p->ps[i]? =some q->R p.2 q.2)->
  l.length=cs.length->(∀v∈l,v.oneCell'=true)->(∀(i:Nat)(v:Value)(c:AV),l[i]? =some v->cs[i]? =some c->R v c)->
  ∃r:List Value,Instr.fill d l.toArray pv=some r.toArray/\r.length=cs'.length/\(∀v∈r,v.oneCell'=true)/\ ∀(i:Nat)(v:Value)(c:AV),r[i]? =some v->cs'[i]? =some c->R v c
 | [],pv,cs,l,cs',h,g,_,C,z,A=>by
   have:pv=[]:=by simpa using g
   subst this;simp only[mV,Ms]at h;subst h;exact⟨l,rfl,C,z,A⟩
 |(i,y)::ps,[],cs,l,cs',h,g,_,C,z,A=>by simp at g
 |(i,y)::ps,(j,v)::pv,cs,l,cs',h,g,B,C,z,A=>by
   simp only[Nh,PZ]at g;obtain⟨rfl,g⟩:=g;simp only[mV]at h;split at h
   ·rename_i off Q n M N O;split at h
    ·rename_i S;obtain⟨T,E⟩:=S;obtain⟨vs,Y,w2,Z,w4⟩:=I O (B 0 (j,v) (j,y) rfl rfl);have e:off+vs.length<=l.length:=by omega
     have f:off+M.length<=cs.length:=E
     obtain⟨r,U,V,W,X⟩:=x8 I D d J ps pv (ew cs off M) (ew l off vs) cs' h g (fun i p q G H=>B (i+1) p q (by simpa using G) (by simpa using H)) (by rw[dQ _ _ _ e,dQ _ _ _ f,C])
      (fun u hu=>by
       simp only[ew,NY]at hu;rcases hu with(hu|hu)|hu
       ·exact z u (Ou hu)
       ·exact Z u hu
       exact z u (P8 hu))
      (fun k u c hu b=>by
       rw[bz _ _ _ e]at hu;rw[bz _ _ _ f]at b;by_cases K:k<off
       ·rw[Mw K]at hu b;exact A k u c hu b
       rw[Mt K]at hu b;by_cases L:k<off+vs.length
       ·rw[Mw L]at hu;rw[Mw (by omega)]at b;exact w4 _ u c hu b
       rw[Mt L]at hu;rw[Mt (by omega)]at b
       exact A k u c hu b)
     exact⟨r,by rw[xZ (J j off Q n N) Y (by omega) e];exact U,V,W,X⟩
    cases h
   cases h
theorem wx: ∀(b:List Field)(c:List (Nat×TypeId×Nat)),b.mapM (fun f=>(P.info? f.type).map fun i=>(f.offset,f.type,i.size))=some c->b.mapM (fun f=>(P.info? f.type).map fun i=>(f.offset,i.size))=some (c.map fun q=>(q.1,q.2.2))
 |[],c,h=>by simp at h;subst h;simp
 | f::b,c,h=>by
   simp only[Q3,Qe,QS]at h |-;cases e:P.info? f.type with
   |none=>simp[e]at h
   | some g=>
     cases d:b.mapM (fun f=>(P.info? f.type).map fun i=>(f.offset,f.type,i.size)) with
     |none=>simp[e,d]at h
     | some r=>
       simp[e,d]at h;subst h;rw[wx b r d];rfl
theorem AG{t:TypeId}{b:Array (Nat×Operand)}(I:o.op= .build t b)(E:dT x s a w m)(h:(aX P x.env s.f o).run s=some out):dl P x s a w o out:=by
 unfold aX at h;simp only[I]at h;split at h
 ·rename_i k eq n z H;split at h
  ·rename_i U;obtain⟨V,A⟩:=U;obtain⟨D,N,h⟩:=gC h;obtain rfl:=bH h;obtain⟨i,td,J,Q,T,B,hk,hs,e⟩:=gV H;obtain⟨f,S,r,_⟩:=eG H;have l:=wx (P:=P) f.toList k r;have e:J.cells.toList=z:=e
   have d:=x8 (R:=RL w m s) (fun K L=>nZ K L) k (fun i=>(k.map fun q=>(q.1,q.2.2)).toArray[i]?) (fun i W t n O=>by simp[O]) _ (b.toList.map fun p=>(p.1,a.eval p.2)) _ z D N (by simp) (fun i p q g u=>by
    rw[NB]at g u;cases j:b.toList[i]? with
    |none=>rw[j]at g;cases g
    | some X=>
      rw[j]at g u;cases g;cases u;exact ar E X.2) (by simp) (fun v y=>(Mz.1 A) v y) (fun i v c y G=>by
    rw[NB,y]at G;cases G
    exact .val (.lit v))
   obtain⟨C,Y,Z,r3,r4⟩:=d
   have M:P.built t (b.map fun(i,x)=>(i,a.eval x)).toList=some C.toArray:=by
    unfold Program.built;rw[Q,S];simp only[B,l];rw[show J.cells=z.toArray by simp[<-e]];simpa using Y
   refine .same E (v:= .agg C.toArray) ?_ rfl (.agg C D Z r3 r4);unfold execOp;simp only[I,NZ,run_build w t _ _ M,NP,Nu]
  simp[Rd.run]at h
 simp[Rd.run]at h
end
end
section
def Lt{k:Nat}(h:k=0)(f:Nat->Value):(Array.range k).map f= #[]:=by
 subst h;apply Array.ext<;>simp
structure x6(S:Nat->Nat->Prop)(w:World)(sz:Nat)(l:List Value)(es:List (List AV)):Prop where
 len:l.length=es.length*sz
 one: ∀v∈l,v.oneCell'=true
 ZS: ∀(i:Nat)(e:List AV),es[i]? =some e->e.length=sz
 cell: ∀(i j:Nat)(c:AV),bs es i j=some c-> ∃u,l[i*sz+j]? =some u/\RV S w u c
def x6.mono{S S':Nat->Nat->Prop}{w a:World}{sz:Nat}{l:List Value}{es:List (List AV)}(h:x6 S w sz l es)(f: ∀b o,S b o->S' b o/\k9 w a b o):x6 S' a sz l es:=
 ⟨h.len,h.one,h.ZS,fun i j c g=>by obtain⟨u,d,e⟩:=h.cell i j c g;exact⟨u,d,e.mono f⟩⟩
def x6.rep{S:Nat->Nat->Prop}{w:World}{sz:Nat}{a:List Value}(n:Nat)(l:a.length=sz)(q: ∀v∈a,v.oneCell'=true)(f:0<sz):
 x6 S w sz ((Array.range (n*sz)).map (a.toArray[· % a.toArray.size]!)).toList (List.replicate n (a.map .lit)):=by
 have d: ∀k,k<n*sz->(((Array.range (n*sz)).map (a.toArray[· % a.toArray.size]!)).toList)[k]? =some (a.getD (k%sz) undef):=fun k h=>by
  have o:k%sz<a.length:=by rw[l];exact Q4 _ f
  simp[h,l];rw[Mq o];simp
 refine⟨by simp,fun v s=> ?_,fun i e g=> ?_,fun i j c b=> ?_⟩
 ·obtain⟨k,h,rfl⟩:=OX s;have m:k<n*sz:=by simpa using h
  have:=d k m;rw[Mq h]at this;injection this with this
  rw[this];have o:k%sz<a.length:=by rw[l];exact Q4 _ f
  simp only[List.getD,Mq o,OH];exact q _ (Oq _)
 ·rw[Pn]at g;split at g
  ·cases g;simpa using l
  cases g
 unfold bs at b;rw[Pn]at b;split at b
 ·rename_i r;have b:(a.map AV.lit)[j]? =some c:=b;have p:j<sz:=by have:=(Mr.1 b).1;simp at this;omega
  rw[NB]at b;refine⟨a.getD j undef,?_,?_⟩
  ·rw[d _ (kZ r p),P3 i sz,Nat.mul_add_mod,RH p]
  rw[Mq (by omega)]at b;simp only[NT,Ms]at b;subst b;simp only[List.getD,Mq (show j<a.length by omega),OH];exact .lit _
 cases b
def x6.set{S:Nat->Nat->Prop}{w:World}{sz:Nat}{l:List Value}{es:List (List AV)}(h:x6 S w sz l es)(i:Nat)(hi:i<es.length)(m:List AV)(vs:List Value)(y:m.length=sz)(q:vs.length=sz)(t: ∀v∈vs,v.oneCell'=true)
 (x: ∀(j:Nat)(v:Value)(c:AV),vs[j]? =some v->m[j]? =some c->RV S w v c):i*sz+vs.length<=l.length/\x6 S w sz (ew l (i*sz) vs) (es.set i m):=by
 have b:i*sz+vs.length<=l.length:=by
  have:(i+1)*sz<=es.length*sz:=Nk _ hi;rw[OY,P7]at this;rw[h.len,q];exact this
 have k: ∀(p:Nat)(e:List AV),(es.set i m)[p]? =some e->e.length=sz:=fun p e hp=>by
  rw[O0]at hp;by_cases n:i=p
  ·rw[Mw n,Mw hi]at hp;cases hp;exact y
  rw[Mt n]at hp;exact h.ZS p e hp
 refine⟨b,by rw[dQ _ _ _ b,h.len];simp,fun u hu=> ?_,k,fun p j c a=> ?_⟩
 ·simp only[ew,NY]at hu;rcases hu with(hu|hu)|hu
  ·exact h.one u (Ou hu)
  ·exact t u hu
  exact h.one u (P8 hu)
 have f:=eO k a;simp only[PF]at f;rw[bz _ _ _ b];by_cases g:p=i
 ·subst g
  have d:m[j]? =some c:=by
   unfold bs at a;rw[QP hi]at a;exact a
  have o:j<vs.length:=by rw[q];exact f.2
  refine⟨vs[j],?_,x j _ c (Mq o) d⟩;rw[Mt (by omega),Mw (by omega),show p*sz+j-p*sz=j by omega,Mq o]
 have d:bs es p j=some c:=by
  unfold bs at a |-;rw[Py (Ot g)]at a;exact a
 obtain⟨u,s,z⟩:=h.cell p j c d;refine⟨u,?_,z⟩;by_cases r:p*sz+j<i*sz
 ·rw[Mw r];exact s
 rw[Mt r,Mt ?_]
 ·exact s
 intro A;rcases Pa p i with hp|hp
 ·have:(p+1)*sz<=i*sz:=Nk _ hp;rw[OY,P7]at this;omega
 have:(i+1)*sz<=p*sz:=Nk _ (by omega);rw[OY,P7]at this;omega
def x7{S:Nat->Nat->Prop}{w:World}{sz:Nat} : ∀(ps:List (Nat×AV))(pv:List (Nat×Value))(es:List (List AV))(l:List Value)(a:List (List AV)),jM sz es ps=some a->pv.map (·.1)=ps.map (·.1)->
 (∀(i:Nat)(p:Nat×Value)(q:Nat×AV),pv[i]? =some p->ps[i]? =some q->RV S w p.2 q.2)->x6 S w sz l es->
 ∃g:List Value,Instr.fill (fun i=>some (i*sz,sz)) l.toArray pv=some g.toArray/\x6 S w sz g a
 | [],pv,es,l,a,h,b,_,f=>by
   have:pv=[]:=by simpa using b
   subst this;simp only[jM,Ms]at h;subst h;exact⟨l,rfl,f⟩
 |(i,y)::ps,[],es,l,a,h,b,_,f=>by simp at b
 |(i,y)::ps,(j,v)::pv,es,l,a,h,b,e,f=>by
   simp only[Nh,PZ]at b;obtain⟨rfl,b⟩:=b;simp only[jM]at h;cases c:y.asCells with
   |none=>rw[c]at h;cases h
   | some C=>
     rw[c]at h;simp only at h;split at h
     ·rename_i s;obtain⟨m,n⟩:=s;obtain⟨x,z,D,A,B⟩:=uM c (e 0 (j,v) (j,y) rfl rfl);obtain⟨d,k⟩:=f.set j n C x m (by omega) A B;obtain⟨g,t,u⟩:=x7 ps pv _ _ a h b (fun i p q o r=>e (i+1) p q (by simpa using o) (by simpa using r)) k;exact⟨g,by rw[xZ (off:=j*sz) rfl z (by omega) d];exact t,u⟩
     cases h
section
variable {x:py} {a:Act} {w:World}
theorem tY{s s':St}(b:s'.rows=s.rows)(d:s'.vs=s.vs)(c:AV):(fz c).run s'=(fz c).run s:=by
 cases c with
 | agg e=>
   simp only[fz,Rd.run_bind,gh b d];rfl
 | clo g e=>
   simp only[fz,Rd.run_bind,gh b d];rfl
 | _=>
   simp only[fz];exact qy b d
theorem oD{s s':St}(b:s'.rows=s.rows)(d:s'.vs=s.vs): ∀ps:List (Nat×AV),(eL ps).run s'=(eL ps).run s
 |[]=>rfl
 |(i,c)::ps=>by
   simp only[eL,Rd.run_bind,tY b d,oD b d ps];rfl
theorem tZ: ∀ {ps:List (Nat×AV)}{pv:List (Nat×Value)}{s:St}{m:ld}{y:List (Nat×AV)×List Nat},(eL ps).run s=some y->dT x s a w m->pv.map (·.1)=ps.map (·.1)->
 (∀(i:Nat)(p:Nat×Value)(q:Nat×AV),pv[i]? =some p->ps[i]? =some q->RL w m s p.2 q.2)->
 ∃S',dT x (dk (ik y.2) s) a w ⟨S',m.ρ⟩/\(∀b o,m.S b o->S' b o)/\pv.map (·.1)=y.1.map (·.1)/\ ∀(i:Nat)(p:Nat×Value)(q:Nat×AV),pv[i]? =some p->y.1[i]? =some q->RV S' w p.2 q.2
 | [],pv,s,m,y,h,l,d,_=>by
   have:pv=[]:=by simpa using d
   subst this;simp only[eL,Rd.run,Ms]at h;subst h;exact⟨m.S,l,fun _ _ h=>h,rfl,fun i p q e _=>by simp at e⟩
 |(i,c)::ps,[],s,m,y,h,l,d,_=>by simp at d
 |(i,c)::ps,(j,v)::pv,s,m,y,h,l,d,f=>by
   simp only[Nh,PZ]at d;obtain⟨rfl,d⟩:=d;simp only[eL]at h;obtain⟨t,D,h⟩:=fq h;obtain⟨J,E,h⟩:=fq h;simp only[Rd.run,Ms]at h;subst h;obtain⟨K,H,z,I⟩:=ov D l (f 0 (j,v) (j,c) rfl rfl);obtain⟨B,C,_⟩:=cn t.2 s;have n:(eL ps).run (dk (ik t.2) s)=some J:=by rw[<-E];exact oD B C ps
   obtain⟨A,G,u,p3,p4⟩:=tZ n H d (fun i p q e g=>(f (i+1) p q (by simpa using e) (by simpa using g)).shown t.2 z);refine⟨A,by simp only[ik,NA,g4];exact G,fun b o r=>u b o (z b o r),by simp[p3],fun k p q e g=> ?_⟩;cases k with
   | zero=>
     simp only[Nr,Ms]at e g;subst e g;exact I.mono fun b o r=>⟨u b o r, .rfl⟩
   |succ k=>exact p4 k p q (by simpa using e) (by simpa using g)
end
section
variable {P:Program} {x:py} {s:St} {a:Act} {w:World} {m:ld} {o:Oper} {out:Out}
theorem qm{d:Nat}{e:TypeId}{sz:Nat}{es:List (List AV)}{l:List Value}(p:dT x s a w m)(f:0<sz)(b:es.length<=maxLen)(g:x6 m.S w sz l es):
 ∃m',dT x (dk [.renew d ⟨sz,es,e,true⟩] s) a (w.alloc (.cells l.toArray e)) m'/\RL (w.alloc (.cells l.toArray e)) m' (dk [.renew d ⟨sz,es,e,true⟩] s) (.slice (some ⟨w.heap.size,0,none⟩) es.length es.length) (.row d (s.vs d+1)):=by
 have h:=p.newRow d ⟨sz,es,e,true⟩ l f b g.ZS g.len g.one (fun i j c q=>by
  obtain⟨u,k,n⟩:=g.cell i j c q
  exact⟨u,k,by simpa using n⟩)
 exact⟨_,h, .row d (s.vs d+1) rfl (by simp[dk,u3.app,St.renew,aw]) fun _ r t=>by simp[aw]⟩
theorem pK{t:TypeId}{n:Nat}{c:Array (Nat×Operand)}(W:o.op= .buildSlice t n c)(R:dT x s a w m)(h:(aX P x.env s.f o).run s=some out):dl P x s a w o out:=by
 unfold aX at h;simp only[W]at h;split at h
 ·rename_i e b eb l n' z' d hd U;split at h
  ·rename_i hc;obtain⟨K,g,L,T⟩:=hc;have G: ∀v∈l,v.oneCell'=true:=fun v hv=>(Mz.1 L) v hv;obtain⟨q,E,h⟩:=fq h;obtain⟨r,V,h⟩:=gC h;simp only[Rd.run,Ms]at h;subst h;obtain⟨hu,ie,Z,X,i2,i3,i4,i5⟩:=bI hd
   obtain⟨S',q1,q2,q3,q4⟩:=tZ (pv:=c.toList.map fun p=>(p.1,a.eval p.2)) E R (by simp) (fun i p q C E=>by
    rw[NB]at C E;cases D:c.toList[i]? with
    |none=>rw[D]at C;cases C
    | some pp=>
      rw[D]at C E;cases C;cases E
      exact ar R pp.2)
   obtain⟨Y,O,r2⟩:=x7 (S:=S') (w:=w) (sz:=b) q.1 (c.toList.map fun p=>(p.1,a.eval p.2)) _ _ r V q3 q4 (x6.rep n K G g);obtain⟨e1,e2,_⟩:=cn q.2 s
   have f:r.length=n:=by
    have: ∀(H:List (Nat×AV))(r j:List (List AV)),jM b r H=some j->j.length=r.length:=by
     intro H
     induction H with
     |nil=>intro r j h;simp only[jM,Ms]at h;rw[h]
     | cons p H ih=>
       intro r j h;obtain⟨i,y⟩:=p;simp only[jM]at h;split at h
       ·split at h
        ·rw[ih _ _ h];simp
        cases h
       cases h
    rw[this _ _ _ V];simp
   have hnm:n<=16777216:=by
    rcases Pa 16777216 n with B|B
    ·have:n*1<=n*b:=Nat.mul_le_mul_left _ g;omega
    exact B
   obtain⟨m',p1,p2⟩:=qm (d:=d) (e:=e) q1 g (by rw[f];unfold maxLen;omega) r2;refine⟨_,_,m',_,?_, .inl rfl,by rw[g4];exact p1,by rw[g4];have:=p2;rw[e2]at this;exact this⟩;have M:Z.cells=l.toArray:=by simp[<-i5]
   have hs:(sizeOf e).run P w= .ok b w:=by simp[sizeOf,typeInfo,X,i3]
   have N:(zeroValue e).run P w= .ok Z w:=by simp[zeroValue,typeInfo,X,i2]
   have u: ¬(n*b>2^24):=by omega
   have k:((Array.range (n*b)).map (l.toArray[· % l.toArray.size]!))=((Array.range (n*b)).map (l.toArray[· % l.toArray.size]!)).toList.toArray:=Ny.symm;unfold execOp;simp only[W,Instr.buildSlice,NZ,NL hu,NP,hs,Sem.run_ite,Mt u];by_cases I:n*b=0
   ·have J:n=0:=by
     rcases Nat.mul_eq_zero.1 I with B|B
     ·exact B
     omega
    subst J;have Q: ∀z:Array Value,((Array.range (0*b)).map (z[· % z.size]!))= #[]:=fun z=>Lt (Pi _) _;rw[Q]at O
    have A:Instr.fill (fun i=>some (i*b,b)) #[] (c.map fun(i,x)=>(i,a.eval x)).toList=some Y.toArray:=by
     simpa using O
    simp only[Mw I,Nu,NP,Q,A];simp[newRow,f]
   have A:Instr.fill (fun i=>some (i*b,b)) ((Array.range (n*b)).map (l.toArray[· % l.toArray.size]!)) (c.map fun(i,x)=>(i,a.eval x)).toList=some Y.toArray:=by
    rw[k];simpa using O
   simp only[Mt I,N,NZ,NP,Nu,M,A];simp[newRow,f]
  simp[Rd.run]at h
 simp[Rd.run]at h
theorem lF{t:TypeId}{y:Operand}(f:o.op= .makeInterface t y)(c:dT x s a w m)(h:(aX P x.env s.f o).run s=some out):dl P x s a w o out:=by
 have p:=ar c y;unfold aX at h;simp only[f]at h;split at h
 ·simp[Rd.run]at h
 ·rename_i d b g;obtain⟨B,v,D,i,l,_,e,_⟩:=gV g;obtain⟨q,j,h⟩:=fq h;simp only[Rd.run,Ms]at h;subst h;obtain⟨A,r,C,u⟩:=ov j c p;refine⟨_,w,_, .iface t (a.eval y),?_, .inl rfl,r, .val (.iface t _ _ u)⟩;unfold execOp;obtain⟨k,n,z⟩:=d
  cases v<;>first
   |(simp only[tK,Ms]at e;exact absurd (by rw[<-e]) (b _ _))
   |simp[f,Instr.makeInterface,NL l]
 simp[Rd.run]at h
end
end
section
section
variable {P:Program} {x:py} {s:St} {a:Act} {w:World} {m:ld} {o:Oper} {out:Out}
def uT(w:World)(m:ld)(s:St):Option Value->Option AV->Prop
 |none,none=>True
 |some u,some c=>RL w m s u c
 |_,_=>False
theorem pE{g:World}{m':ld}{s':St}{l d k:Nat}{y:Option AV}{v:Option Value}(h:tU l d y=some k)(b:uT g m' s' v y):
 (y=none/\v=none/\k=d)\/ ∃e i,v=some (.int e i)/\0<=i/\i<=l/\k=i.toNat:=by
 cases y with
 | none=>
   cases v with
   |none=>simp only[tU,Ms]at h;exact .inl ⟨rfl,rfl,h.symm⟩
   |some u=>exact b.elim
 | some c=>
   cases v with
   |none=>exact b.elim
   | some u=>
     have b:RL g m' s' u c:=b;cases c with
     | lit val=>
       have:=b.lit_;subst this;cases u with
       | int e i=>
         simp only[tU]at h;split at h
         ·rename_i f;cases h;exact .inr ⟨e,i,rfl,f.1,f.2,rfl⟩
         cases h
       |_=>simp[tU]at h
     |_=>simp[tU]at h
theorem kH{isS:Bool}{n cap:Nat}{lo hi:Option Value}{l h:Nat}(p:n<=cap)(q:(hi=none/\h=n)\/ ∃b i,hi=some (.int b i)/\0<=i/\i<=n/\h=i.toNat)
 (r:(lo=none/\l=0)\/ ∃b i,lo=some (.int b i)/\0<=i/\i<=h/\l=i.toNat):(Instr.sliceBounds isS n cap lo hi none).run P w= .ok (l,h,cap) w/\l<=h/\h<=n:=by
 have f:h<=n:=by rcases q with⟨_,e⟩|⟨b,i,_,d,k,e⟩<;>omega
 have g:l<=h:=by rcases r with⟨_,e⟩|⟨b,i,_,d,k,e⟩<;>omega
 refine⟨?_,g,f⟩;rcases q with⟨rfl,rfl⟩|⟨b,i,rfl,d,k,rfl⟩<;>rcases r with⟨rfl,rfl⟩|⟨c,j,rfl,t,u,rfl⟩
 ·simp[Instr.sliceBounds]
 ·simp[Instr.sliceBounds,Q5 w c j h _ t u]
 ·simp[Instr.sliceBounds,Q5 w b i cap _ d (by omega)]
 simp[Instr.sliceBounds,Q5 w b i cap _ d (by omega),Q5 w c j i.toNat _ t u]
theorem zb(b:dT x s a w m)(lo:Option Operand):uT w m s (lo.map a.eval) (lo.map (gt x.env s.f)):=by
 cases lo with
 |none=>trivial
 |some y=>exact ar b y
structure SM(s s':St):Prop where
 f: ∀t,s'.f t=s.f t\/s'.f t= .any
 rows: ∀r,s'.rows r=s.rows r\/s'.rows r=none
 vs:s'.vs=s.vs
 esc:s'.esc=s.esc
theorem dT.less{x:py}{s s':St}{a:Act}{w:World}{m:ld}(h:dT x s a w m)(j:SM s s'):dT x s' a w m:=by
 have l: ∀r c,s'.vs r=s.vs r->s'.rows r=some c-> ∃d,s.rows r=some d/\d.sz=c.sz/\m.ρ r=m.ρ r:=fun r c _ g=>by
  rcases j.rows r with e|e
  ·exact⟨c,by rw[<-e];exact g,rfl,rfl⟩
  rw[e]at g;cases g
 have f: ∀r c,s'.rows r=some c->s.rows r=some c:=fun r c g=>by
  rcases j.rows r with e|e
  ·rw[<-e];exact g
  rw[e]at g;cases g
 have i: ∀r,s.vs r<=s'.vs r:=fun r=>by rw[j.vs];exact NC _
 refine⟨h.Z3,h.low,h.ZT,h.sub,h.env,h.ZX,h.ZV,h.ZU,h.ZR,fun t=> ?_,fun r d g=> ?_,fun r u d c n p=>h.inj r u d c (f _ _ n) (f _ _ p),h.ZL,h.toV i,h.toK i l,h.ZY,h.fix,fun r d g=>h.Z5 r d (f r d g)⟩
 ·rcases j.f t with e|e
  ·rw[e];exact(h.slot t).mono (fun b o k=>⟨k, .rfl⟩) i l
  rw[e];exact .val (.any _)
 exact(h.rows r d (f r d g)).mono (fun b o k=>⟨k, .rfl⟩) i l rfl (fun _ _=>rfl) (by rw[j.esc]) (fun _ _ _ q=>q)
theorem dT.cut{x:py}{s:St}{a:Act}{w:World}{m:ld}(h:dT x s a w m)(r n:Nat)(row:Row)(O:s.rows r=some row)(S:row.sz≠0)(W:row.pure=true)(K:s.esc r=false)(V:n<=row.es.length):
 ∃A len cap,m.ρ r= .slice A len cap/\len=row.es.length/\n<=cap/\len<=cap/\(∀k,A.map (·.add k)=A.map (·.add k))/\(A=none\/ ∃g,A=some ⟨g,0,none⟩)/\dT x (s.renew r { row with es:=row.es.take n } (s.esc r)) a w ⟨m.S,mu m.ρ r (.slice A n cap)⟩:=by
 have k:=(h.rows r row O).cells S;obtain⟨Z,X,k2,k3⟩:=k.own
 have h0:dT x { s with rows:=mu s.rows r none } a w m:=h.less ⟨fun _=> .inl rfl,fun q=>by
  by_cases e:q=r
  ·right;simp[e,aw]
  left;simp[cR _ _ _ e],rfl,rfl⟩
 have Q: ∀q d,({ s with rows:=mu s.rows r none } :St).rows q=some d->q≠r/\s.rows q=some d:=fun q d B=>by
  by_cases e:q=r
  ·subst e;simp[aw]at B
  exact⟨e,by simpa[cR _ _ _ e]using B⟩
 have T:({ s with rows:=mu s.rows r none } :St).renew r { row with es:=row.es.take n } (s.esc r)=s.renew r { row with es:=row.es.take n } (s.esc r):=by
  simp only[St.renew,St.mk.injEq,true_and,Rs]
  funext q
  by_cases e:q=r
  ·subst e;simp[aw]
  simp[cR _ _ _ e]
 have z: ∀i j c,bs (row.es.take n) i j=some c->bs row.es i j=some c/\i<n:=fun i j c y=>by
  unfold bs at y |-;rw[N8]at y;split at y
  ·rename_i t;exact⟨y,t⟩
  simp at y
 have D:(row.es.take n).length=n:=by rw[NJ];omega
 have v: ∀A len cap,m.ρ r= .slice A len cap->(∀b,(Value.slice A n cap).ownBlock=some b->(m.ρ r).ownBlock=some b)->w.ownsRow x.w.heap.size row.e row.sz (.slice A n cap) n (Z.take (n*row.sz))->dT x (s.renew r { row with es:=row.es.take n } (s.esc r)) a w ⟨m.S,mu m.ρ r (.slice A n cap)⟩:=fun A len cap hm f E=>by
  have U:=h0.renew r { row with es:=row.es.take n } (s.esc r) (.slice A n cap) m.S (O1 _ _) (fun b o l=>⟨l, .rfl⟩) (fun b o l=> .inl l) (fun q d B R g p=>by
   obtain⟨e1,I⟩:=Q q d R
   exact⟨rfl,fun e=>h.inj r q row d O I (Ot e1) g (f g e) p,fun o l=>l⟩)
   (.inl ⟨k.pos,(fun i G t=>by
    have t:(row.es.take n)[i]? =some G:=t;rw[N8]at t;split at t
    ·exact k.len i G t
    ·cases t),(by
    refine⟨Z.take (n*row.sz),by simp only[aw,D];exact E,fun u hu=>k2 u (Ou hu),fun i j c y=> ?_⟩;obtain⟨C,c2⟩:=z i j c y;obtain⟨u,u1,Y⟩:=k3 i j c C;rw[Mw W]at Y
    have hj:j<row.sz:=by
     unfold bs at C;cases B:row.es[i]? with
     |none=>rw[B]at C;cases C
     | some G=>
       rw[B]at C;rw[<-k.len i G B];exact(Mr.1 C).1
    have L:i*row.sz+j<n*row.sz:=by
     calc i*row.sz+j<i*row.sz+row.sz:=by omega
      _=(i+1)*row.sz:=by rw[OY,P7]
      _<=n*row.sz:=Nk _ c2
    exact⟨u,by rw[N8,Mw L];exact u1,by rw[Mw W];exact Y⟩),(fun l g p o ho=>by
    simp only[aw,St.renew]at l p;rw[K]at l;cases l),(fun g p o ho=>by
    simp only[aw]at p;exact k.fresh K g (f g p) o),(fun l g p o=>by
    simp only[aw,St.renew]at l p
    exact k.fresh K g (f g p) o)⟩) (fun b hf=>⟨rfl,fun _ l=>l,fun e=>h.Z5 r row O b (f b e) hf⟩)
  rw[T]at U;exact U
 rcases X.2 with⟨e,e0⟩|⟨g,cap,H,e,I,e3,e4,e5,e6,e7⟩
 ·have M:n=0:=by omega
  subst M;refine⟨none,0,0,e,e0.symm,NC _,NC _,fun _=>rfl, .inl rfl,v none 0 0 e (fun b J=>by simp[Value.ownBlock]at J) ?_⟩;rw[Pi];exact QY _ _ _ _
 have N:row.es.length<=cap:=e4;refine⟨some ⟨g,0,none⟩,row.es.length,cap,e,rfl,by omega,N,fun _=>rfl, .inr ⟨g,rfl⟩,v _ _ cap e (fun b J=>by rw[e];exact J) ⟨?_, .inr ⟨g,cap,H,rfl,I,e3,by omega,e5,e6,?_⟩⟩⟩
 ·rw[NJ,X.1,P4 (Nk _ V)]
 rw[<-e7,Ri,P4 (Nk _ V)]
theorem GU{t e:TypeId}{j M n:Nat}{z N:List Value}{y:Operand}{lo hi:Option Operand}{r k:Nat}{E:IntKind}{i:Int}{row:Row}(U:o.op= .slice t y lo hi none)(Q:dT x s a w m)(R:ef P t=some ⟨.slice e j M N,n,z⟩)(Y:RL w m s (a.eval y) (.row r k))(q:uT w m s (lo.map a.eval) none)(c:uT w m s (hi.map a.eval) (some (.lit (.int E i))))
 (S:s.esc r=false)(J:s.rows r=some row)(f:s.vs r=k)(H:row.sz≠0)(V:row.pure=true)(G:0<=i)(T:i<=row.es.length)(B:out=⟨.row r (k+1),[.grow r { row with es:=row.es.take i.toNat }]⟩):dl P x s a w o out:=by
 obtain⟨K,ie,ze,Z,i2,i3,i4,i5⟩:=bI R;have X:a.eval y=m.ρ r:=Y.row_.2 f row J;obtain⟨A,d,b,q1,q2,q3,q4, -,q5,q6⟩:=Q.cut r i.toNat row J H V S (by omega)
 have v:lo.map a.eval=none:=by
  cases D:lo.map a.eval with
  |none=>rfl
  |some u=>rw[D]at q;exact q.elim
 have p:hi.map a.eval=some (.int E i):=by
  cases D:hi.map a.eval with
  |none=>rw[D]at c;exact c.elim
  |some u=>rw[D]at c;have c:RL w m s u (.lit (.int E i)):=c;rw[c.lit_]
 obtain⟨C,p1,p2⟩:=kH (P:=P) (w:=w) (isS:=true) (n:=d) (cap:=b) (lo:=lo.map a.eval) (hi:=hi.map a.eval) (l:=0) (h:=i.toNat) q4
  (.inr ⟨E,i,p,G,by omega,rfl⟩) (.inl ⟨v,rfl⟩)
 have W:(sizeOf e).run P w= .ok j w:=by simp[sizeOf,typeInfo,Z,i3]
 have O:(if b=0 then A else A.map (·.add (0*j)))=A:=by
  split
  ·rfl
  rcases q5 with rfl|⟨g,rfl⟩
  ·rfl
  rw[Pi,NT,add_plain]
 have I:(Instr.sliceAt t (.slice A d b) (lo.map a.eval) (hi.map a.eval) none).run P w= .ok (.slice A i.toNat b) w:=by
  have:(Instr.sliceAt t (.slice A d b) (lo.map a.eval) (hi.map a.eval) none).run P w=(Instr.slice t (.slice A d b) (lo.map a.eval) (hi.map a.eval) none).run P w:=by
   simp[Instr.sliceAt,NL K]
  rw[this];simp only[Instr.slice,NL K,NZ,NP,C,W,Nu,Pb];rw[O]
 subst B;refine⟨_,w,_, .slice A i.toNat b,?_, .inl rfl,q6,?_⟩
 ·unfold execOp;simp only[U,X,q1,Ql,NZ,I,NP,Nu]
 subst f;exact .row r (s.vs r+1) rfl (by simp[dk,u3.app,St.renew,aw]) fun _ L _=>by simp[aw]
theorem jq{t e:TypeId}{d eb n:Nat}{z ez:List Value}{y:Operand}{lo hi:Option Operand}(ho:o.op= .slice t y lo hi none)(hS:dT x s a w m)(hd:ef P t=some ⟨.slice e d eb ez,n,z⟩)(hy:RL w m s (a.eval y) (gt x.env s.f y))(N:uT w m s (lo.map a.eval) (lo.map (gt x.env s.f)))(M:uT w m s (hi.map a.eval) (hi.map (gt x.env s.f)))
 (h:(im d (gt x.env s.f y) (lo.map (gt x.env s.f)) (hi.map (gt x.env s.f))).run s=some out):dl P x s a w o out:=by
 obtain⟨W,ie,ze,i1,i2,i3,i4,i5⟩:=bI hd;unfold im at h;obtain⟨q,hq,h⟩:=fq h;split at h
 ·rename_i sz E r;split at h
  ·rename_i R;subst R;cases K:tU E.length E.length (hi.map (gt x.env s.f)) with
   |none=>rw[K]at h;simp[Rd.run]at h
   | some B=>
     rw[K]at h;simp only at h;cases C:tU B 0 (lo.map (gt x.env s.f)) with
     |none=>rw[C]at h;simp[Rd.run]at h
     | some l=>
       rw[C]at h;simp only[Rd.run,Ms]at h;subst h;have Y:=pE K M;have Z:=pE C N;obtain⟨S',q1,q2,X⟩:=ov hq hS hy;rw[r]at X;generalize hv:a.eval y=vy at*;cases X with
       | seq A v f sz E b p u hn G hA hz L O=>
         obtain⟨I,p1,p2⟩:=kH (P:=P) (w:=w) (isS:=true) (n:=v) (cap:=f) (lo:=lo.map a.eval) (hi:=hi.map a.eval) (l:=l) (h:=B) G
          (by rcases Y with⟨_,r,D⟩ | ⟨S,i,r,D,T,J⟩
              ·exact .inl ⟨r,by omega⟩
              exact .inr ⟨S,i,r,D,by omega,J⟩)
          (by rcases Z with⟨_,r,D⟩ | ⟨S,i,r,D,T,J⟩
              ·exact .inl ⟨r,D⟩
              exact .inr ⟨S,i,r,D,T,J⟩)
         have hs:(sizeOf e).run P w= .ok d w:=by simp[sizeOf,typeInfo,i1,i3]
         have Q:(Instr.sliceAt t (.slice A v f) (lo.map a.eval) (hi.map a.eval) none).run P w= .ok (.slice (if f=l then A else A.map (·.add (l*d))) (B-l) (f-l)) w:=by
          have:(Instr.sliceAt t (.slice A v f) (lo.map a.eval) (hi.map a.eval) none).run P w=(Instr.slice t (.slice A v f) (lo.map a.eval) (hi.map a.eval) none).run P w:=by
           simp[Instr.sliceAt,NL W]
          rw[this];simp only[Instr.slice,NL W,NZ,NP,I,hs,Nu]
         refine⟨_,w,_, .slice (if f=l then A else A.map (·.add (l*d))) (B-l) (f-l),?_, .inl rfl,q1, .val ?_⟩
         ·unfold execOp;simp only[ho,hv,Ql,NZ,Q,NP,Nu]
         have g: ∀(i j:Nat)(c:AV),bs ((E.drop l).take (B-l)) i j=some c->bs E (i+l) j=some c/\i<B-l:=fun i j c k=>by
          unfold bs at k |-;rw[N8]at k;split at k
          ·rename_i hi;rw[OL,Rx l i]at k;exact⟨k,hi⟩
          simp at k
         refine .seq _ (B-l) (f-l) d ((E.drop l).take (B-l)) b (p+l*d) (fun i j=>u (i+l) j) (by simp;omega) (by omega) (fun h0=> ?_) (fun i e H=> ?_) (fun i j c k=> ?_) (fun i j c k=>O _ _ _ (g i j c k).1)
         ·rw[Mt (by omega),hA (by omega),NT,add_plain]
         ·rw[N8]at H;split at H
          ·rw[OL]at H;exact hz _ e H
          cases H
         obtain⟨U,V,h3⟩:=L _ _ _ (g i j c k).1;have ea:p+((i+l)*d+j)=p+l*d+(i*d+j):=by rw[OY];omega
         rw[ea]at U V;exact⟨U,V,h3⟩
  simp[Rd.run]at h
 simp[Rd.run]at h
theorem GT{t e:TypeId}{d W n:Nat}{z X:List Value}{y:Operand}{lo hi:Option Operand}{r p:Nat}{I:IntKind}{i:Int}{row:Row}(Z:o.op= .slice t y lo hi none)(R:dT x s a w m)(Y:ef P t=some ⟨.slice e d W X,n,z⟩)(hy:RL w m s (a.eval y) (.row r p))(c:uT w m s (lo.map a.eval) (some (.lit (.int I i))))(B:uT w m s (hi.map a.eval) none)
 (N:s.rows r=some row)(f:s.vs r=p)(O:row.sz≠0)(J:d=row.sz)(K:0<=i)(L:i<=row.es.length):dl P x s a w o ⟨.sub r p i.toNat,[]⟩:=by
 obtain⟨S,ie,ze,i1,i2,i3,i4,i5⟩:=bI Y;have hv:a.eval y=m.ρ r:=hy.row_.2 f row N;have k:=(R.rows r row N).cells O;obtain⟨xs,k1,_⟩:=k.own
 obtain⟨A,b,j,q⟩: ∃A b,m.ρ r= .slice A row.es.length b/\row.es.length<=b:=by
  rcases k1.2 with⟨e,V⟩|⟨g,b,U,e,_,_,M,_⟩
  ·exact⟨none,0,by rw[e,V],by omega⟩
  exact⟨_,b,e,M⟩
 have D:lo.map a.eval=some (.int I i):=by
  cases H:lo.map a.eval with
  |none=>rw[H]at c;exact c.elim
  |some u=>rw[H]at c;have c:RL w m s u (.lit (.int I i)):=c;rw[c.lit_]
 have C:hi.map a.eval=none:=by
  cases H:hi.map a.eval with
  |none=>rfl
  |some u=>rw[H]at B;exact B.elim
 obtain⟨G,p1,p2⟩:=kH (P:=P) (w:=w) (isS:=true) (n:=row.es.length) (cap:=b) (lo:=lo.map a.eval) (hi:=hi.map a.eval) (l:=i.toNat) (h:=row.es.length) q (.inl ⟨C,rfl⟩) (.inr ⟨I,i,D,K,L,rfl⟩);have hs:(sizeOf e).run P w= .ok d w:=by simp[sizeOf,typeInfo,i1,i3]
 have Q:(Instr.sliceAt t (.slice A row.es.length b) (lo.map a.eval) (hi.map a.eval) none).run P w= .ok (Ss (.slice A row.es.length b) (i.toNat*d) i.toNat) w:=by
  have:(Instr.sliceAt t (.slice A row.es.length b) (lo.map a.eval) (hi.map a.eval) none).run P w=(Instr.slice t (.slice A row.es.length b) (lo.map a.eval) (hi.map a.eval) none).run P w:=by
   simp[Instr.sliceAt,NL S]
  rw[this];simp only[Instr.slice,NL S,NZ,NP,G,hs,Nu,Ss]
 subst f J;refine .same R (v:=Ss (m.ρ r) (i.toNat*row.sz) i.toNat) ?_ rfl (.sub r _ i.toNat (by rw[j];rfl) (NC _) fun _ T E=>by rw[N]at E;cases E;rfl);rw[j];unfold execOp;simp only[Z,hv,j,Ql,NZ,Q,NP,Nu]
theorem AD{t:TypeId}{y:Operand}{lo hi:Option Operand}(E:o.op= .slice t y lo hi none)(j:dT x s a w m)(h:(aX P x.env s.f o).run s=some out):dl P x s a w o out:=by
 have g:=ar j y;have d:=zb j lo;have c:=zb j hi;unfold aX at h;simp only[E]at h;unfold pV at h;split at h
 ·rename_i str n z e C;rw[e]at g;have g:=g.lit_;have S:=dI C;cases M:tU (bS str).length (bS str).length (hi.map (gt x.env s.f)) with
  |none=>rw[M]at h;simp[Rd.run]at h
  | some D=>
    rw[M]at h;simp only at h;cases A:tU D 0 (lo.map (gt x.env s.f)) with
    |none=>rw[A]at h;simp[Rd.run]at h
    | some l=>
      rw[A]at h;simp only[Rd.run,Ms]at h;subst h;have T:=pE M c;have U:=pE A d
      obtain⟨H,Z,q2⟩:=kH (P:=P) (w:=w) (isS:=false) (n:=str.size) (cap:=str.size) (lo:=lo.map a.eval) (hi:=hi.map a.eval) (l:=l) (h:=D) (NC _)
       (by rcases T with⟨_,k,p⟩ | ⟨I,i,k,p,J,K⟩
           ·exact .inl ⟨k,by rw[jZ];exact p⟩
           exact .inr ⟨I,i,k,p,by rw[jZ];exact J,K⟩)
       (by rcases U with⟨_,k,p⟩ | ⟨I,i,k,p,J,K⟩
           ·exact .inl ⟨k,p⟩
           exact .inr ⟨I,i,k,p,J,K⟩)
      refine .same j (v:= .string ⟨(((bS str).drop l).take (D-l)).toArray⟩) ?_ rfl (.val (.lit _))
      have W:str.extract l D=⟨(((bS str).drop l).take (D-l)).toArray⟩:=by
       have:=yX (bS str) l D;rwa [<-sI]at this
      have O:(Instr.sliceAt t (.string str) (lo.map a.eval) (hi.map a.eval) none).run P w= .ok (.string (str.extract l D)) w:=by
       rw[run_sliceAt_string w t _ _ _ _ S];simp[Instr.slice,NL S,H]
      unfold execOp;simp only[E,g,Ql,NZ,O,NP,Nu,W]
 ·rename_i e V X Y n z C;split at h
  ·rename_i r R I i L u q;simp only[Rd.run]at h;by_cases b:s.esc r=true
   ·rw[Mw b]at h;exact jq E j C g d c h
   have b:s.esc r=false:=by simpa using b
   rw[Mt (by simp[b])]at h;obtain⟨Q,N,f,G,h⟩:=dn h;split at h
   ·rename_i B;simp only[Rd.run,Ms]at h;rw[L]at g;rw[u]at d;rw[q]at c;exact GU E j C g d c b N f G B.2.1 B.2.2.1 B.2.2.2 h.symm
   simp[Rd.run]at h
  ·rename_i r R I i L u q;simp only[Rd.run]at h;by_cases b:s.esc r=true
   ·rw[Mw b]at h;exact jq E j C g d c h
   have b:s.esc r=false:=by simpa using b
   rw[Mt (by simp[b])]at h;obtain⟨Q,N,f,G,h⟩:=dn h;split at h
   ·rename_i B;simp only[Rd.run,Ms]at h;subst h;rw[L]at g;rw[u]at d;rw[q]at c;exact GT E j C g d c N f G B.1 B.2.2.1 B.2.2.2
   simp[Rd.run]at h
  exact jq E j C g d c h
 simp[Rd.run]at h
theorem qU{t:TypeId}{y mx:Operand}{lo hi:Option Operand}{e:TypeId}{g V:Nat}{W zz:List Value}{nn:Nat}{D O:IntKind}{j:Nat}{q:AV×List Nat}{es:List (List AV)}
 (ho:o.op= .slice t y lo hi (some mx))(z:dT x s a w m)(Y:ef P t=some ⟨.slice e g V W,nn,zz⟩)(H:lo.map (gt x.env s.f)=none)(G:hi.map (gt x.env s.f)=some (.lit (.int D (j:Int))))(I:gt x.env s.f mx= .lit (.int O (j:Int)))
 (hq:(fz (gt x.env s.f y)).run s=some q)(U:q.1= .seq g es)(hj:j<=es.length):dl P x s a w o ⟨.full g (es.take j),ik q.2⟩:=by
 have hy:=ar z y;have v:=zb z lo;have d:=zb z hi;have n:=ar z mx;rw[H]at v;rw[G]at d;rw[I]at n;have n:=n.lit_;obtain⟨T,ie,ze,i1,i2,i3,i4,i5⟩:=bI Y
 have C:lo.map a.eval=none:=by
  cases E:lo.map a.eval with
  |none=>rfl
  |some u=>rw[E]at v;exact v.elim
 have B:hi.map a.eval=some (.int D j):=by
  cases E:hi.map a.eval with
  |none=>rw[E]at d;exact d.elim
  |some u=>rw[E]at d;have d:RL w m s u (.lit (.int D j)):=d;rw[d.lit_]
 obtain⟨S',q1,q2,Q⟩:=ov hq z hy;rw[U]at Q;generalize hv:a.eval y=vy at*;have q4:=Q;cases Q with
 | seq A len f sz es b p u Z S R hz K M=>
   subst Z;have hs:(sizeOf e).run P w= .ok g w:=by simp[sizeOf,typeInfo,i1,i3]
   have J:(if j=0 then A else A.map (·.add (0*g)))=A:=by
    split
    ·rfl
    rw[R (by omega),Pi,NT,add_plain];rfl
   have X:(Instr.sliceBounds true es.length f none (some (.int D j)) (some (.int O j))).run P w= .ok (0,j,j) w:=by
    simp[Instr.sliceBounds,Q5 w O (j:Int) f _ (by omega) (by omega),Q5 w D (j:Int) j _ (by omega) (by omega)]
   have N:(Instr.sliceAt t (.slice A es.length f) (lo.map a.eval) (hi.map a.eval) (some (a.eval mx))).run P w= .ok (.slice A j j) w:=by
    have:(Instr.sliceAt t (.slice A es.length f) (lo.map a.eval) (hi.map a.eval) (some (a.eval mx))).run P w=(Instr.slice t (.slice A es.length f) (lo.map a.eval) (hi.map a.eval) (some (a.eval mx))).run P w:=by
     simp[Instr.sliceAt,NL T]
    rw[this,n,C,B];simp only[Instr.slice,NL T,NZ,NP,X,hs,Nu,Pb];rw[J]
   have l: ∀(i k:Nat)(c:AV),bs (es.take j) i k=some c->bs es i k=some c:=fun i k c r=>by
    unfold bs at r |-;by_cases h:i<j
    ·rwa [PV h]at r
    rw[Q6 (by omega)]at r;simp at r
   refine⟨_,w,_, .slice A j j,?_, .inl rfl,q1, .val (.full A j _ (es.take j) ?_)⟩
   ·unfold execOp;simp only[ho,hv,NT,NZ,N,NP,Nu]
   exact .seq A j j _ (es.take j) b p u (by rw[NJ];omega) (NC _) (fun h=>R (by omega)) (fun i e L=>hz i e (by
    by_cases h:i<j
    ·rwa [PV h]at L
    rw[Q6 (by omega)]at L
    simp at L)) (fun i k c r=>K i k c (l i k c r)) (fun i k c r=>M i k c (l i k c r))
theorem Cq{t:TypeId}{y mx:Operand}{lo hi:Option Operand}(g:o.op= .slice t y lo hi (some mx))(p:dT x s a w m)(h:(aX P x.env s.f o).run s=some out):dl P x s a w o out:=by
 unfold aX at h;simp only[g]at h;unfold vr at h;split at h
 ·rename_i e v B D n z G i H k r c b d;obtain⟨q,u,h⟩:=fq h;split at h
  ·rename_i I C l;split at h
   ·rename_i f;simp only[Rd.run,Ms]at h;subst h;obtain⟨rfl,rfl,rfl⟩:=f;have:=qU g p r c b d u l (NC _);rwa [NR]at this
   split at h
   ·rename_i f;simp only[Rd.run,Ms]at h;subst h;obtain⟨rfl,rfl,A,E⟩:=f;obtain⟨j,rfl⟩:=Qp A;exact qU g p r c b d u l (by omega)
   simp[Rd.run]at h
  simp[Rd.run]at h
 simp[Rd.run]at h
theorem S6{S:Nat->Nat->Prop}{v:Value}{c:AV}{s0:St}{q:Nat×List (List AV)}(h:(jX c).run s0=some q)(z:RV S w v c):
 ∃A n cap l,v= .slice A n cap/\n=q.2.length/\(0<n-> ∃b p,A=some ⟨b,p,none⟩/\ ∀(j:Nat)(u:Value),l[j]? =some u->w.cell? ⟨b,p+j,none⟩=some u)/\x6 S w q.1 l q.2:=by
 cases c with
 | seq d G=>
   simp only[jX,Rd.run,Ms]at h;subst h;cases z with
   | seq A n cap d G b o u O L R K H U=>
     have N: ∀k,k<n*d-> ∃i j c,i<n/\j<d/\k=i*d+j/\bs G i j=some c:=fun k y=>by
      have f:0<d:=Nat.pos_of_ne_zero fun e=>by subst e;omega
      have M:k/d<n:=(Nat.div_lt_iff_lt_mul f).2 y;have t:k%d<d:=Q4 _ f;have E:k/d<G.length:=by omega
      refine⟨k/d,k%d,(G[k/d])[k%d]'(by rw[K _ _ (Mq E)];exact t),M,t,(Q9 k d).symm,?_⟩;unfold bs;rw[Mq E];simp
     have C: ∀(k:Nat)(v:Value),((List.range (n*d)).map fun k=>u (k/d) (k%d))[k]? =some v->k<n*d/\v=u (k/d) (k%d):=fun k v y=>by
      have r:k<n*d:=by
       have:=(Mr.1 y).1;simpa using this
      rw[NB,O8 r]at y;exact⟨r,by simpa using y.symm⟩
     have g: ∀i j,j<d->(i*d+j)/d=i/\(i*d+j)%d=j:=fun i j t=>by
      have f:0<d:=by omega
      exact⟨by rw[P3,Nat.mul_add_div f,Nat.div_eq_of_lt t,PY],by rw[P3,Nat.mul_add_mod,RH t]⟩
     refine⟨A,n,cap,(List.range (n*d)).map fun k=>u (k/d) (k%d),rfl,O.symm,fun I=>⟨_,_,R I,fun j v t=> ?_⟩,by simp[O],fun v z=> ?_,K,fun i j c D=> ?_⟩
     ·obtain⟨r,rfl⟩:=C j v t;obtain⟨i,k,c,Q,B,rfl,J⟩:=N j r;rw[(g i k B).1,(g i k B).2];exact(H i k c J).2.1
     ·obtain⟨k,y,rfl⟩:=OX z;obtain⟨r,e⟩:=C k _ (Mq y);obtain⟨i,j,c,Q,B,rfl,J⟩:=N k r;rw[e,(g i j B).1,(g i j B).2];exact(H i j c J).2.2
     obtain⟨M,t⟩:=eO K D;refine⟨u i j,?_,U i j c D⟩;rw[NB,O8 (kZ (by omega) t)];simp only[NT,(g i j t).1,(g i j t).2]
 | lit u=>
   cases z;simp only[jX]at h;split at h
   ·rename_i e;cases e
   ·rename_i A k e;cases e;simp only[Rd.run,Ms]at h;subst h;exact⟨A,0,k,[],rfl,rfl,fun I=>absurd I (by omega),rfl,fun v z=>by simp at z,fun i e T=>by simp at T,fun i j c H=>by simp[bs]at H⟩
   ·rename_i e;cases e
   simp[Rd.run]at h
 |row=>cases z
 |_=>simp[jX,Rd.run]at h
theorem x6.resize{S:Nat->Nat->Prop}{sz b:Nat}{l:List Value}{es:List (List AV)}(h:x6 S w sz l es)(d:sz=b\/es=[]):x6 S w b l es:=by
 rcases d with rfl|rfl
 ·exact h
 exact⟨by simpa using h.len,h.one,fun i e d=>by simp at d,fun i j c f=>by simp[bs]at f⟩
theorem lA{t c:TypeId}{y z:Operand}(e:o.op= .call { callee:= .builtin .append,args:= #[y,z],argTypes:= #[t,t] })(b:o.type=c){v:Value}{d:World}(h:(Builtin.append_ #[t,t] c #[a.eval y,a.eval z]).run P w= .ok v d):
 (execOp a.eval o).run P w= .ok (.value v) d:=by
 subst b;unfold execOp;simp only[e,resolve,invoke,builtin,NZ,Nu,NP,RI,Nh,O5,h]
theorem II{t:TypeId}{y z:Operand}(ho:o.op= .call { callee:= .builtin .append,args:= #[y,z],argTypes:= #[t,t] })(hS:dT x s a w m)(h:(jk P o.dst t (gt x.env s.f y) (gt x.env s.f z)).run s=some out):dl P x s a w o out:=by
 have hy:=ar hS y;have hz:=ar hS z;unfold jk at h;split at h
 ·rename_i e E eb ez n0 z0 hd;obtain⟨hu,ie,ze,i1,i2,i3,i4,i5⟩:=bI hd;split at h
  ·simp[Rd.run]at h
  rename_i hcond;obtain⟨hz1,hpos'⟩:=Rj.1 hcond;have hz1:ez.length=E:=QZ.1 hz1;have T:0<E:=by omega
  obtain⟨q,hq,h⟩:=fq h;obtain⟨r,hr,h⟩:=fq h;split at h
  ·simp[Rd.run]at h
  rename_i hsz;obtain⟨S',D,q2,q3⟩:=ov hq hS hz;obtain⟨A,n,cap,l,hv,hn,hA0,hE0⟩:=S6 hr q3
  have hA:0<n-> ∃ad,A=some ad/\ ∀(j:Nat)(u:Value),l[j]? =some u->w.cell? (ad.add j)=some u:=fun h0=>by
   obtain⟨b,p,e,N⟩:=hA0 h0;exact⟨_,e,fun j u hj=>by rw[add_plain];exact N j u hj⟩
  have Q:x6 S' w E l r.2:=hE0.resize (by
   by_cases he:r.1=E
   ·exact .inl he
   exact .inr (QZ.1 fun hne=>hsz ⟨he,hne⟩))
  obtain⟨e1,e2,_⟩:=cn q.2 s
  have hzc:ze.cells.size=E:=by
   have:ze.cells.toList.length=E:=by rw[i5];exact hz1
   simpa using this
  split at h
  ·
   rename_i ey;rw[ey]at hy;have hy:=hy.lit_;split at h
   ·rename_i d hdst;split at h
    ·rename_i hb;obtain⟨X,hb2⟩:=hb;simp only[Rd.run,Ms]at h;subst h;obtain⟨V,w',L,I,O⟩:=fH (P:=P) w x.w.heap.size t o.type e ie ze E eb hu i1 i2 i3 i4 hzc T (.slice none 0 0) 0 [] (QY w x.w.heap.size e E) A n cap l (by rw[Q.len,hn]) hA Q.one (by unfold maxLen;omega) (by rw[OM,hn];exact X) D.Z3.size
     have hb':Below x.w.heap.size w w':=by
      rcases O with⟨_,O⟩|⟨_,O⟩
      ·exact(O1 _ _).grown O D.Z3.size (fun q hq=>by simp[Value.ownBlock]at hq)
      exact(O1 _ _).grown O D.Z3.size (fun q hq=>by cases hq)
     have C: ∀k,k<w.heap.size->w'.heap[k]? =w.heap[k]? :=fun k hk=>by
      rcases O with⟨_,O⟩|⟨_,O⟩
      ·exact O.block k hk (by simp[Value.ownBlock])
      exact O.block k hk (by simp)
     have J: ∀g,V.ownBlock=some g->g=w.heap.size:=fun g f=>by
      rcases O with⟨hv',_⟩|⟨hv',_⟩
      ·rw[hv']at f;simp[Value.ownBlock]at f
      rw[hv']at f;injection f with f;exact f.symm
     have B: ∀b o,S' b o->S' b o/\k9 w w' b o:=fun b o v=>⟨v, .block (C b (D.low b o v))⟩
     have hS2:=D.renew d ⟨E,r.2,e,true⟩ false V S' hb' B (fun b o v=> .inl v) (fun k Z hk hrk g hgk=>by
      have R:=((D.rows k Z hrk).blk hgk).2
      exact⟨C g R,fun v=>by have:=J g v;omega,fun o v=>v⟩)
      (.inl ⟨T,Q.ZS,⟨l,by simp only[aw];have:=I;rw[OM,PX,hn]at this;exact this,Q.one,fun i j c N=>by
       obtain⟨u,u1,u2⟩:=Q.cell i j c N
       exact⟨u,u1,by simpa using u2.mono B⟩⟩,(fun he=>by simp[St.renew,aw]at he),(fun g f o ho2 v=>by
        simp only[aw]at f;have:=J g f;have:=D.low g o v;omega),(fun _ g f o v=>by
        simp only[aw]at f;have:=J g f;have:=D.low g o v
        omega)⟩) (fun b hf=>⟨C b (D.fxlt hf),fun _ v=>v,fun e=>by have:=J b e;have:=D.fxlt hf;omega⟩)
     have W:V.oneCell'=true:=by
      rcases I.2 with⟨ee,_⟩|⟨g,cp,cur,ee,_⟩<;>rw[ee]<;>rfl
     refine⟨_,w',_,V,?_, .inl rfl,by rw[g4];exact hS2,?_⟩
     ·exact lA ho rfl (by rw[hy,hv];exact L)
     rw[g4];refine .row d (s.vs d+1) W ?_ fun _ S hr=> ?_
     ·simp[dk,u3.app,St.renew,aw,e2]
     simp[aw]
    simp[Rd.run]at h
   simp[Rd.run]at h
  ·rename_i rr ver ey;rw[ey]at hy;obtain⟨S,Y,hver,hrz,h⟩:=dn h;have hvy:=hy.row_.2 hver S Y;split at h
   ·rename_i hb;obtain⟨hp,M,hee,X,hb2⟩:=hb;simp only[Rd.run,Ms]at h;subst h;have k:=(D.rows rr S (by rw[e1];exact Y)).cells hrz;obtain⟨xs,k1,k2,k3⟩:=k.own;obtain⟨V,w',L,I,O⟩:=fH (P:=P) w x.w.heap.size t o.type e ie ze E eb hu i1 i2 i3 i4 hzc T (m.ρ rr) S.es.length xs (by rw[<-hee, <-M];exact k1) A n cap l (by rw[Q.len,hn]) hA Q.one (by unfold maxLen;omega) (by rw[hn];exact X) D.Z3.size
    obtain⟨S2,p1,p2⟩:=D.grow rr S (by rw[e1];exact Y) hrz hp r.2 xs l V k1 k2 (fun i j c N=>by
     obtain⟨u,u1,u2⟩:=k3 i j c N;rw[Mw hp]at u2
     exact⟨u,u1,u2⟩) (by rw[M];exact Q.ZS) Q.one (by rw[M];exact Q.len) (fun i j c N=>by rw[M];exact Q.cell i j c N) (by rw[M,hee, <-hn];exact I) O
    have W:V.oneCell'=true:=by
     rcases I.2 with⟨ee,_⟩|⟨g,cp,cur,ee,_⟩<;>rw[ee]<;>rfl
    refine⟨_,w',_,V,?_, .inl rfl,by rw[g4];exact p1,?_⟩
    ·exact lA ho rfl (by rw[hvy,hv];exact L)
    rw[g4];refine .row rr (ver+1) W ?_ fun _ S hr=> ?_
    ·simp[dk,u3.app,St.renew,aw,e2,hver]
    simp[aw]
   simp[Rd.run]at h
  ·
   rename_i H G ey;rw[ey]at hy;have hy:=hy.full_;split at h
   ·rename_i d hdst;split at h
    ·rename_i hb;obtain⟨rfl,hm0,X,hb2⟩:=hb;simp only[Rd.run,Ms]at h;subst h;generalize hvy:a.eval y=vy at*;cases hy with
     | full A0 n0 sz0 es0 hy0=>
       obtain⟨A1,n1,cap1,l1,hv1,U,hA1,K⟩:=S6 (c:= .seq H G) (s0:=s) rfl (hy0.mono fun b o v=>⟨q2 b o v, .rfl⟩);cases hv1;have K:x6 S' w H l1 G:=K;have U:_=G.length:=U
       obtain⟨V,w',L,I,hg1,O⟩:=rR (P:=P) w x.w.heap.size t o.type e ie ze H eb hu i1 i2 i3 i4 hzc A0 n0 l1 (by rw[K.len,U]) (fun h0=>by
        obtain⟨b,p,e,N⟩:=hA1 h0
        exact⟨_,e,fun j u hj=>by rw[add_plain];exact N j u hj⟩) A n cap l (by rw[Q.len,hn]) hA (by omega) (by rw[U,hn];unfold maxLen;omega) (by rw[U,hn];exact X) D.Z3.size
       have hb':Below x.w.heap.size w w':=(O1 _ _).grown O D.Z3.size (fun q hq=>by cases hq);have C: ∀k,k<w.heap.size->w'.heap[k]? =w.heap[k]? :=fun k hk=>O.block k hk (by simp)
       have J: ∀g,V.ownBlock=some g->g=w.heap.size:=fun g f=>by
        rw[hg1]at f;injection f with f;exact f.symm
       have B: ∀b o,S' b o->S' b o/\k9 w w' b o:=fun b o v=>⟨v, .block (C b (D.low b o v))⟩
       have hS2:=D.renew d ⟨H,G++r.2,e,true⟩ false V S' hb' B (fun b o v=> .inl v) (fun k Z hk hrk g hgk=>by
        have R:=((D.rows k Z hrk).blk hgk).2
        exact⟨C g R,fun v=>by have:=J g v;omega,fun o v=>v⟩)
        (.inl ⟨T,(fun i e' hi=>by
         have hi:(G++r.2)[i]? =some e':=hi;by_cases R:i<G.length
         ·rw[Nb R]at hi;exact K.ZS i e' hi
         ·rw[N3 (by omega)]at hi;exact Q.ZS _ e' hi),⟨l1++l,by
          simp only[aw,My];rw[U,hn]at I
          exact I,(fun u hu=>by
           rcases NY.1 hu with hu|hu
           ·exact K.one u hu
           exact Q.one u hu),fun i j c N=>by
         have N:bs (G++r.2) i j=some c:=N;rw[me]at N;split at N
         ·rename_i R;obtain⟨u,u1,u2⟩:=K.cell i j c N;exact⟨u,by rw[Nb (Mr.1 u1).1];exact u1,by simpa using u2.mono B⟩
         rename_i R;obtain⟨u,u1,u2⟩:=Q.cell _ j c N;refine⟨u,?_,by simpa using u2.mono B⟩
         have hle:l1.length<=i*H+j:=by
          rw[K.len];exact NK (Nk _ (by omega)) (Rt _ _)
         rw[N3 hle,K.len];rw[<-u1]
         congr 1
         have:i*H=(i-G.length)*H+G.length*H:=by rw[<-OY];congr 1;omega
         show i*H+j-G.length*H=_;omega⟩,(fun he=>by simp[St.renew,aw]at he),(fun g f o ho2 v=>by
         simp only[aw]at f;have:=J g f;have:=D.low g o v;omega),(fun _ g f o v=>by
         simp only[aw]at f;have:=J g f;have:=D.low g o v
         omega)⟩) (fun b hf=>⟨C b (D.fxlt hf),fun _ v=>v,fun e=>by have:=J b e;have:=D.fxlt hf;omega⟩)
       have W:V.oneCell'=true:=by
        rcases I.2 with⟨ee,_⟩|⟨g,cp,cur,ee,_⟩<;>rw[ee]<;>rfl
       refine⟨_,w',_,V,?_, .inl rfl,by rw[g4];exact hS2,?_⟩
       ·exact lA ho rfl (by rw[hvy,hv];exact L)
       rw[g4];refine .row d (s.vs d+1) W ?_ fun _ S hr=> ?_
       ·simp[dk,u3.app,St.renew,aw,e2]
       simp[aw]
    simp[Rd.run]at h
   simp[Rd.run]at h
  simp[Rd.run]at h
 simp[Rd.run]at h
end
end
section
/-! Maps of the call's own -/
def KX(a b:List UInt8):((⟨⟨a⟩⟩:ByteArray) ==⟨⟨b⟩⟩)=(a==b):=by
 show ((⟨a⟩:Array UInt8) ==⟨b⟩)=_;simp
section
variable {P:Program} {x:py} {s:St} {a:Act} {w:World} {m:ld} {o:Oper} {out:Out}
theorem RL.mp_{v:Value}{r b:Nat}(h:RL w m s v (.mp r b)):b<=s.vs r/\(s.vs r=b-> ∀row,s.rows r=some row-> ∃g,(m.ρ r).ownBlock=some g/\v= .map (some g)):=by
 cases h with
 |val h=>cases h
 |mp r b d c h=>exact⟨c,h⟩
theorem Fr{e:Type}{r b:Nat}{k:Row->Rd e}{y:e}(h:(Rd.map r b k).run s=some y): ∃row,s.rows r=some row/\s.vs r=b/\row.sz=0/\(k row).run s=some y:=by
 simp only[Rd.map,Rd.run]at h;cases c:s.rows r with
 |none=>rw[c]at h;simp[Rd.run]at h
 | some row=>
   rw[c]at h;simp only at h;split at h
   ·rename_i d;exact⟨row,rfl,d.1,d.2,h⟩
   simp[Rd.run]at h
theorem uD{t:TypeId}{g i:AV}{b:Bool}{v:Value}(em:Bool)(n:Nat)(h:ce P t g i=some b)(e:RL w m s v g): ∀f:World,(Instr.checkKey em (n+1) t v).run P f= .ok () f:=by
 intro f;unfold ce at h;split at h
 ·split at h
  ·rename_i c;rw[e.lit_];have d:=oT c;simp[Instr.checkKey,NL d]
  cases h
 ·split at h
  ·rename_i c;rw[e.lit_];have d:=dI c;simp[Instr.checkKey,NL d]
  cases h
 ·split at h
  ·rename_i c;rw[e.lit_];have d:=mB c;simp[Instr.checkKey,NL d]
  cases h
 cases h
theorem jb{N:TypeId}{c O:AV}{b:Bool}{v:Value}(em:Bool)(h:cO P N c O=some b)(M:RL w m s v c):(Instr.checkKey em 10000 N v).run P w= .ok () w:=by
 unfold cO at h;split at h
 ·rename_i Q n z J;split at h
  ·rename_i W X;split at h
   ·rename_i k;obtain⟨f,R,l,u⟩:=eG J;have u:=u.symm;simp only[Mu,Nx]at u;obtain⟨y,rfl,I,_,t⟩:=M.agg_;try clear k J
    rw[show (10000:Nat)=9999+1 from rfl,Instr.checkKey];simp only[NZ,NL R,NP];rw[<-Array.forIn_toList];have d:=u.2;generalize f.toList=L at l d
    induction L generalizing Q b with
    |nil=>simp
    | cons q L j=>
      simp only[Q3,Qe,QS]at l;cases D:P.info? q.type with
      |none=>simp[D]at l
      | some i=>
        cases e:L.mapM (fun f=>(P.info? f.type).map fun i=>(f.offset,f.type,i.size)) with
        |none=>simp[D,e]at l
        | some r=>
          simp only[D,e,NT,OD,Ms]at l;subst l;simp only[Qg,Mu]at d;simp only[rl]at h;split at h
          ·rename_i S T B U;split at h
           ·rename_i p V K g;have E:q.offset<y.length:=by rw[I];exact(Mr.1 B).1
            have A:y[q.offset]? =some y[q.offset]:=Mq E;have H:=EN K (t _ _ _ A B);have C:=uD em 9998 K (t _ _ _ A B) w;have G:q.name≠ "_" :=by simpa using d.1
            simp only[List.forIn_cons,NZ,G,ne_eq,not_false_eq_true,Nt,NP,H y.toArray q.offset _ w (by rw[RD];exact A),C,Nu];first|exact j _ g e d.2|exact j _ _ g e d.2|exact j _ e d.2 g|exact j _ _ e d.2 g|exact j _ e g d.2|exact j _ _ e g d.2|exact j _ g d.2 e|exact j _ _ l d.2 g
           cases h
          cases h
   cases h
  cases h
 exact uD em 9999 h M w
theorem KG{e:TypeId}{c p:AV}{b:Bool}{u v:Value}(h:cO P e c p=some b)(r:RL w m s u c)(t:RL w m s v p):(Op.equal e u v).run P w= .ok b w:=by
 unfold cO at h;split at h
 ·rename_i D n z B;split at h
  ·rename_i I J;split at h
   ·obtain⟨f,q,C,g⟩:=eG B;have g:=g.symm;simp only[Mu,Nx]at g;obtain⟨⟨E,y⟩,A⟩:=g;have d:P.fieldsOf e=f:=by simp[Program.fieldsOf,q]
    obtain⟨G,rfl,j,_,i⟩:=r.agg_;obtain⟨H,rfl,l,_,k⟩:=t.agg_;show (Op.equalIn 10000 e _ _).run P w=_;rw[run_equalIn_agg w 9999 e _ _ (by rw[d];exact q) y,d];exact zK j l i k 9998 _ _ _ C A h
   cases h
  cases h
 exact(xg h r t).2 9999 w
theorem Jj{t:TypeId}{d:TypeDesc}{c k:AV}{b:Bool}{u v:Value}(g:P.underlying t=some d)(h:ce P t c k=some b)(i:RL w m s u c)(j:RL w m s v k):Instr.sameNow d u v=some b:=by
 unfold ce at h;split at h
 ·split at h
  ·rename_i e;split at h
   ·rename_i l;cases h;rw[i.lit_,j.lit_];have f:=oT e;rw[g]at f;cases f;simp[Instr.sameNow,l]
   cases h
  cases h
 ·split at h
  ·rename_i e;cases h;rw[i.lit_,j.lit_];have f:=dI e;rw[g]at f;cases f;rename_i a b _ _ _;obtain⟨⟨a⟩⟩:=a;obtain⟨⟨b⟩⟩:=b;simp only[Instr.sameNow,bS,Ms];exact KX a b
  cases h
 ·split at h
  ·rename_i e;cases h;rw[i.lit_,j.lit_];have f:=mB e;rw[g]at f;cases f;simp[Instr.sameNow]
  cases h
 cases h
theorem FR{k:TypeId}{d:TypeDesc}{c g:AV}{b:Bool}{u v:Value}(i:P.underlying k=some d)(h:cO P k c g=some b)(l:RL w m s u c)(p:RL w m s v g):Instr.sameNow d u v=none\/Instr.sameNow d u v=some b:=by
 unfold cO at h;split at h
 ·rename_i q n z e;obtain⟨f,j,_⟩:=eG e;rw[i]at j;cases j;left;cases u<;>rfl
 exact .inr (Jj i h l p)
theorem vi{e:TypeId}{c f:AV}{b:Bool}(h:cO P e c f=some b): ∃d,P.underlying e=some d:=by
 cases g:ef P e with
 | none=>
   have j:ce P e c f=none:=by
    unfold ce;repeat' split
    all_goals simp_all
   simp only[cO,g,j]at h;cases h
 | some n=>
   obtain⟨i,l,p,_,k,_⟩:=gV g;exact⟨l,k⟩
theorem Tc{B:TypeId}{d:TypeDesc}{C:Value}{k:AV}(D:P.underlying B=some d)(u:RL w m s C k): ∀(b:List MapEntry)(es:List (List AV))(i:Nat)(c:Option Nat),b.length=es.length->
 (∀(j:Nat)(e:List AV),es[j]? =some e-> ∃f l z,b[j]? =some f/\e=[l,z]/\RV m.S w f.key l)->sv P B k es i=some c->
 ∃r:Option (Nat×Value),(Instr.findNow d C b i=none\/Instr.findNow d C b i=some r)/\(Instr.findAsking B C b i).run P w= .ok r w/\
  match c with|none=>r=none|some j=> ∃f,i<=j/\b[j-i]? =some f/\r=some (j,f.val)/\ ∃l z,es[j-i]? =some [l,z]/\cO P B k l=some true
 | [],[],i,c,_,_,h=>by
   simp only[sv,Ms]at h;subst h;exact⟨none, .inr rfl,rfl,rfl⟩
 |[],_::_,i,c,v,_,h=>by simp at v
 |_::_,[],i,c,v,_,h=>by simp at v
 | f::b,e::es,i,c,v,J,h=>by
   obtain⟨N,l,z,I,rfl,A⟩:=J 0 e rfl;simp only[Nr,Ms]at I;subst I;simp only[sv]at h;split at h
   ·rename_i t;simp only[Ms]at h;subst h;refine⟨some (i,f.val),?_,?_,⟨f,NC _,by simp,rfl,l,z,by simp,t⟩⟩
    ·rcases FR D t u (RL.val A) with q|q
     ·left;simp[Instr.findNow,q]
     right;simp[Instr.findNow,q]
    simp only[Instr.findAsking,NZ,KG t u (RL.val A),NP,Nt];rfl
   ·rename_i t
    obtain⟨r,y,Q,K⟩:=Tc D u b es (i+1) c (by simpa using v) (fun j M O=>by
     obtain⟨g,n,p,L,E,G⟩:=J (j+1) M (by simpa using O)
     exact⟨g,n,p,by simpa using L,E,G⟩) h
    refine⟨r,?_,?_,?_⟩
    ·rcases FR D t u (RL.val A) with q|q
     ·left;simp[Instr.findNow,q]
     rcases y with y|y
     ·left;simp[Instr.findNow,q,y]
     right;simp[Instr.findNow,q,y]
    ·simp only[Instr.findAsking,NZ,KG t u (RL.val A),NP,NU,OA];exact Q
    ·cases c with
     |none=>exact K
     | some j=>
       obtain⟨g,L,E,G,n,p,R,S⟩:=K;have H:j-i=(j-(i+1))+1:=by omega
       exact⟨g,by omega,by rw[H];simpa using E,G,n,p,by rw[H];simpa using R,S⟩
   cases h
theorem eu{p:TypeId}{v:Value}{k:AV}(i: ∃d,P.underlying p=some d)(A:RL w m s v k){b:Array MapEntry}{es:List (List AV)}{f:Option Nat}(B:b.size=es.length)
 (y: ∀(j:Nat)(e:List AV),es[j]? =some e-> ∃c g n,b[j]? =some c/\e=[g,n]/\RV m.S w c.key g)(h:sv P p k es 0=some f):
 ∃r:Option (Nat×Value),(Instr.findKey p v b.toList).run P w= .ok r w/\
  match f with|none=>r=none|some j=> ∃c,b[j]? =some c/\r=some (j,c.val)/\ ∃g n,es[j]? =some [g,n]/\cO P p k g=some true:=by
 obtain⟨d,i⟩:=i
 obtain⟨r,l,C,u⟩:=Tc i A b.toList es 0 f (by simpa using B) (fun j e z=>by
  obtain⟨c,g,n,D,q,t⟩:=y j e z
  exact⟨c,g,n,by simpa using D,q,t⟩) h
 refine⟨r,?_,?_⟩
 ·unfold Instr.findKey;rcases l with l|l
  ·simp only[NZ,NL i,NP,l];exact C
  simp only[NZ,NL i,NP,l];rfl
 ·cases f with
  |none=>exact u
  | some j=>
    obtain⟨c,_,q,t,E⟩:=u;exact⟨c,by simpa using q,t,by simpa using E⟩
theorem Fo{t:TypeId}{c f:AV}{u v:Value}(h:ce P t c f=some true)(d:RL w m s u c)(e:RL w m s v f):u=v/\ ∀n,Instr.sameBits n u u=true:=by
 unfold ce at h;split at h
 ·split at h
  ·split at h
   ·rename_i g;simp only[Ms,Nz]at h;rw[d.lit_,e.lit_,g,h];exact⟨rfl,fun n=>by cases n<;>simp[Instr.sameBits]⟩
   cases h
  cases h
 ·split at h
  ·rename_i a b _ _ _ _;obtain⟨⟨a⟩⟩:=a;obtain⟨⟨b⟩⟩:=b;simp only[bS,Ms,Nz]at h;rw[d.lit_,e.lit_,h];exact⟨rfl,fun n=>by cases n<;>simp[Instr.sameBits,KX]⟩
  cases h
 ·split at h
  ·simp only[Ms,Nz]at h;rw[d.lit_,e.lit_,h];exact⟨rfl,fun n=>by cases n<;>simp[Instr.sameBits]⟩
  cases h
 cases h
theorem KL{xs l:List AV} : ∀ {c:List (Nat×TypeId×Nat)}{i:Nat},rl P xs l c=some true->jg i c=true-> ∀j,i<=j->j<i+c.length-> ∃t a b,xs[j]? =some a/\l[j]? =some b/\ce P t a b=some true
 |[],i,_,_,j,r,d=>by simp at d;omega
 |(o,t,n)::c,i,h,f,j,r,d=>by
   simp only[jg,Mu,Nz]at f;simp only[rl]at h;split at h
   ·rename_i a b g k;split at h
    ·rename_i p q u v;simp only[Ms,Mu]at h;obtain⟨rfl,rfl⟩:=h;by_cases e:j=i
     ·subst e;rw[f.1]at g k;exact⟨t,a,b,g,k,u⟩
     exact KL v f.2 j (by omega) (by simp only[NN]at d;omega)
    cases h
   cases h
theorem zi{V:TypeId}{c H:AV}{u v:Value}(h:cO P V c H=some true)(L:RL w m s u c)(M:RL w m s v H):u=v/\(Instr.keyThatStays u v).run P w= .ok v w:=by
 have g:u=v->Instr.sameBits 10000 u u=true->u=v/\(Instr.keyThatStays u v).run P w= .ok v w:=fun e S=>by
  subst e;exact⟨rfl,by unfold Instr.keyThatStays;rw[Mw S];rfl⟩
 unfold cO at h;split at h
 ·rename_i Z n z hd;split at h
  ·rename_i xs ys;split at h
   ·rename_i K;simp only[Mu,Nz]at K;obtain⟨⟨⟨O,W⟩,X⟩,Y⟩:=K;obtain⟨i,rfl,T,_,A⟩:=L.agg_;obtain⟨l,rfl,U,_,B⟩:=M.agg_
    have b: ∀j,j<n-> ∃q,i[j]? =some q/\l[j]? =some q/\ ∀k,Instr.sameBits k q q=true:=fun j f=>by
     obtain⟨t,p,q,d,E,G⟩:=KL h O j (NG _) (by omega);have I:i[j]? =some (i[j]'(by omega)):=Mq _;have J:l[j]? =some (l[j]'(by omega)):=Mq _;obtain⟨C,D⟩:=Fo G (A _ _ _ I d) (B _ _ _ J E);exact⟨_,I,by rw[J,C],D⟩
    have e:i=l:=by
     apply Nv;intro j;by_cases f:j<n
     ·obtain⟨q,d,E,_⟩:=b j f;rw[d,E]
     rw[NI (by omega),NI (by omega)]
    subst e;refine g rfl ?_;rw[show (10000:Nat)=9999+1 from rfl];simp only[Instr.sameBits,Ru,Nj,Mz];rintro⟨p,q⟩ y;obtain⟨j,f,e⟩:=OX y;simp only[List.getElem_zip,QG]at e;simp only[List.length_zip]at f;obtain⟨N,d,_,G⟩:=b j (by simp at f;omega);have r:j<i.length:=by simp at f;exact f
    rw[Mq r]at d;simp only[Ms]at d;have Q:p=N:=by rw[<-e.1];simpa using d
    have R:q=N:=by rw[<-e.2];simpa using d
    rw[Q,R];exact G 9999
   cases h
  cases h
 obtain⟨C,D⟩:=Fo h L M;exact g C (D 10000)
theorem vQ{t:TypeId}(y:o.op= .makeMap t none)(f:dT x s a w m)(h:(aX P x.env s.f o).run s=some out):dl P x s a w o out:=by
 unfold aX at h;simp only[y]at h;unfold j9 at h;split at h
 ·rename_i k e z n J d H E;simp only[Rd.run,Ms]at h;subst h;have p:=f.Z3.size;have j: ∀b o,m.S b o->m.S b o/\k9 w (w.alloc (.map #[] 0)) b o:=fun b o c=>⟨c, .block (Oo _ _ _ (f.low b o c))⟩
  have r:=f.renew d ⟨0,[],t,z7 z⟩ false (.slice (some ⟨w.heap.size,0,none⟩) 0 0) m.S ((O1 _ _).alloc p _) j (fun b o c=> .inl c) (fun C q I A g u=>by
   have:=((f.rows C q A).blk u).2;refine⟨Oo _ _ _ this,?_,fun o c=>c⟩;simp[Value.ownBlock]
   omega)
   (.inr ⟨rfl,⟨w.heap.size, #[],0,by simp[aw],p,by show (w.heap.push (.map #[] 0))[w.heap.size]? =some _;simp,⟨rfl,rfl,fun i G h=>by simp at h⟩,fun i e B=>by simp at B⟩,fun g u o c=>by simp[aw,Value.ownBlock]at u;have:=f.low g o c;omega⟩) (fun b v=>⟨Oo _ _ _ (f.fxlt v),fun _ c=>c,fun e=>by have:=f.fxlt v;simp[Value.ownBlock]at e;omega⟩)
  refine⟨_,_,_, .map (some w.heap.size),?_, .inl rfl,r, .mp d (s.vs d+1) rfl (by simp[dk,u3.app,St.renew,aw]) fun _ D A=>⟨w.heap.size,by simp[aw,Value.ownBlock],rfl⟩⟩;unfold execOp;have l:(Instr.makeMap t none).run P w= .ok (.map (some w.heap.size)) (w.alloc (.map #[] 0)):=rfl;simp only[y,Ql,NZ,l,NP,Nu]
 simp[Rd.run]at h
theorem dT.mapAt(h:dT x s a w m){r k:Nat}{row:Row}{v:Value}(C:RL w m s v (.mp r k))(d:s.rows r=some row)(j:s.vs r=k)(n:row.sz=0):
 ∃g c b,v= .map (some g)/\m.ρ r= .slice (some ⟨g,0,none⟩) 0 0/\x.w.heap.size<=g/\w.heap[g]? =some (.map c b)/\DP c b row.es.length/\
  ∀(i:Nat)(e:List AV),row.es[i]? =some e-> ∃l u q,c[i]? =some l/\e=[u,q]/\RV m.S w l.key u/\(if row.pure then RV m.S w l.val q else RL w m s l.val q):=by
 obtain⟨g,c,b,t,y,z,A,B⟩:=((h.rows r row d).map n).own;obtain⟨D,f,p⟩:=C.mp_.2 j row d;rw[t]at f;simp only[Value.ownBlock,Ms]at f;subst f;exact⟨g,c,b,p,t,y,z,A,B⟩
theorem kF{e:TypeId}{b:TypeInfo}{z:Value}(hi:P.info? e=some b)(c:b.zero=some z)(w:World):(zeroValue e).run P w= .ok z w:=by
 simp[zeroValue,run_typeInfo w hi,c]
theorem ij{S:Nat->Nat->Prop}{w:World}(z:Value):RV S w z (AV.ofVal z):=by
 unfold AV.ofVal;split
 ·rename_i b;split
  ·rename_i f
   have:=RV.agg (S:=S) (w:=w) b.toList (b.toList.map .lit) (by simp) (fun v g=>Mz.1 f v g) fun i v c e d=>by
    rw[NB,e]at d;cases d;exact .lit _
   simpa using this
  exact .any _
 exact .lit _
theorem RV.fmapAt{S:Nat->Nat->Prop}{w:World}{v:Value}{es:List (List AV)}(h:RV S w v (.fmap es)):
 ∃g b c,v= .map (some g)/\w.heap[g]? =some (.map b c)/\b.size=es.length/\
  ∀(i:Nat)(e:List AV),es[i]? =some e-> ∃l f j,b[i]? =some l/\e=[f,j]/\RV S w l.key f/\RV S w l.val j:=by
 cases h with
 | fmap g b c es y q n u r t=>
   refine⟨g,b,c,rfl,q,n,fun i e k=> ?_⟩;have d:i<b.size:=by rw[n];exact(Mr.1 k).1
   have p:=u i e k
   match e,p with
   |[f,j],_=>exact⟨b[i],f,j,OO d,rfl,r i _ f (OO d) (by unfold bs;rw[k];rfl),t i _ j (OO d) (by unfold bs;rw[k];rfl)⟩
theorem yE{t:TypeId}{y k:Operand}{ok:Bool}(J:o.op= .lookup t y k ok)(C:dT x s a w m)(h:(aX P x.env s.f o).run s=some out):dl P x s a w o out:=by
 have hy:=ar C y;have W:=ar C k;unfold aX at h;simp only[J]at h;unfold lT at h;split at h
 ·rename_i r ver kt et z n z' e1 hd;rw[e1]at hy;obtain⟨row,Z,hver,hsz,h⟩:=Fr h;obtain⟨g,A,O,L,_,_,I,hD,X⟩:=C.mapAt hy Z hver hsz;have Y:=hD.1;obtain⟨K,ie,hi,hz⟩:=rZ hd;split at h
  ·rename_i R;obtain⟨Q,hc2⟩:=R;obtain⟨b,D⟩:=PW.1 Q;have l:=jb (P:=P) (w:=w) (em:=A.isEmpty) D W
   have B: ∀(j:Nat)(e:List AV),row.es[j]? =some e-> ∃u H V,A[j]? =some u/\e=[H,V]/\RV m.S w u.key H:=fun j e hj=>by
    obtain⟨u,H,V,T,U,M,_⟩:=X j e hj;exact⟨u,H,V,T,U,M⟩
   have E:=vi D;split at h
   ·rename_i i S;obtain⟨rr,p,u,T,U,H,N,M,_⟩:=eu E W Y B S;rw[M]at h;simp only[Rd.run,Ms]at h;subst h;obtain⟨en2,kc2,vc2,p1,p2,_,p4⟩:=X i _ M;rw[T]at p1;cases p1;simp only[PZ,Rs]at p2;obtain⟨_,rfl⟩:=p2;rw[U]at p
    have hval:RL w m s u.val N:=by
     split at p4
     ·exact .val p4
     exact p4
    cases ok with
    | false=>
      refine .same C (v:=u.val) ?_ rfl hval;unfold execOp;simp[J,L,Instr.lookup,NL K,OJ I,l,p]
    | true=>
      have hp:row.pure=true:=by simpa using hc2
      rw[Mw hp]at p4;refine .same C (v:= .tuple #[u.val, .bool true]) ?_ rfl (.val ?_)
      ·unfold execOp;simp[J,L,Instr.lookup,NL K,OJ I,l,p]
      exact .tuple [u.val, .bool true] [N, .lit (.bool true)] rfl fun i v c d f=>by
       match i,d,f with
       |0,d,f=>simp at d f;subst d f;exact p4
       |1,d,f=>simp at d f;subst d f;exact .lit _
       |i+2,d,f=>simp at d
   ·rename_i S;obtain⟨rr,p,q⟩:=eu E W Y B S;have q:rr=none:=q;subst q;simp only[Rd.run,Ms]at h;subst h;have G:=kF (P:=P) hi hz w;cases ok with
    | false=>
      refine .same C (v:=z) ?_ rfl (.val (ij z));unfold execOp;simp[J,L,Instr.lookup,NL K,OJ I,l,p,G]
    | true=>
      refine .same C (v:= .tuple #[z, .bool false]) ?_ rfl (.val ?_)
      ·unfold execOp;simp[J,L,Instr.lookup,NL K,OJ I,l,p,G]
      exact .tuple [z, .bool false] [.ofVal z, .lit (.bool false)] rfl fun i v c d f=>by
       match i,d,f with
       |0,d,f=>simp at d f;subst d f;exact ij z
       |1,d,f=>simp at d f;subst d f;exact .lit _
       |i+2,d,f=>simp at d
   simp[Rd.run]at h
  simp[Rd.run]at h
 ·rename_i es kt et z n z' e1 hd;rw[e1]at hy;obtain⟨g,A,O,L,I,Y,X⟩:=hy.fmap_.fmapAt;obtain⟨K,ie,hi,hz⟩:=rZ hd;split at h
  ·rename_i Q;obtain⟨b,D⟩:=PW.1 Q;have l:=jb (P:=P) (w:=w) (em:=A.isEmpty) D W
   have B: ∀(j:Nat)(e:List AV),es[j]? =some e-> ∃u H V,A[j]? =some u/\e=[H,V]/\RV m.S w u.key H:=fun j e hj=>by
    obtain⟨u,H,V,T,U,M,_⟩:=X j e hj;exact⟨u,H,V,T,U,M⟩
   have E:=vi D;split at h
   ·rename_i i S;obtain⟨rr,p,u,T,U,H,N,M,_⟩:=eu E W Y B S;rw[M]at h;simp only[Rd.run,Ms]at h;subst h;obtain⟨en2,kc2,vc2,p1,p2,_,p4⟩:=X i _ M;rw[T]at p1;cases p1;simp only[PZ,Rs]at p2;obtain⟨_,rfl⟩:=p2;rw[U]at p;cases ok with
    | false=>
      refine .same C (v:=u.val) ?_ rfl (.val p4);unfold execOp;simp[J,L,Instr.lookup,NL K,OJ I,l,p]
    | true=>
      refine .same C (v:= .tuple #[u.val, .bool true]) ?_ rfl (.val ?_)
      ·unfold execOp;simp[J,L,Instr.lookup,NL K,OJ I,l,p]
      exact .tuple [u.val, .bool true] [N, .lit (.bool true)] rfl fun i v c d f=>by
       match i,d,f with
       |0,d,f=>simp at d f;subst d f;exact p4
       |1,d,f=>simp at d f;subst d f;exact .lit _
       |i+2,d,f=>simp at d
   ·rename_i S;obtain⟨rr,p,q⟩:=eu E W Y B S;have q:rr=none:=q;subst q;simp only[Rd.run,Ms]at h;subst h;have G:=kF (P:=P) hi hz w;cases ok with
    | false=>
      refine .same C (v:=z) ?_ rfl (.val (ij z));unfold execOp;simp[J,L,Instr.lookup,NL K,OJ I,l,p,G]
    | true=>
      refine .same C (v:= .tuple #[z, .bool false]) ?_ rfl (.val ?_)
      ·unfold execOp;simp[J,L,Instr.lookup,NL K,OJ I,l,p,G]
      exact .tuple [z, .bool false] [.ofVal z, .lit (.bool false)] rfl fun i v c d f=>by
       match i,d,f with
       |0,d,f=>simp at d f;subst d f;exact ij z
       |1,d,f=>simp at d f;subst d f;exact .lit _
       |i+2,d,f=>simp at d
   simp[Rd.run]at h
  simp[Rd.run]at h
 simp[Rd.run]at h
theorem DP.modify{c:Array MapEntry}{b n:Nat}(h:DP c b n)(i:Nat)(f:MapEntry->MapEntry)(p: ∀e,(f e).born=e.born):DP (c.modify i f) b n:=by
 refine⟨by simp[h.1],h.2.1,fun j k d=> ?_⟩;rw[Of]at d;by_cases e:i=j
 ·rw[Mw e]at d;obtain⟨g,l,rfl⟩:=OI.1 d;rw[p];exact h.2.2 j g l
 rw[Mt e]at d;exact h.2.2 j k d
theorem DP.push{c:Array MapEntry}{b n:Nat}(h:DP c b n)(k v:Value):DP (c.push { key:=k,val:=v,born:=b }) (b+1) (n+1):=by
 refine⟨by simp[h.1],by rw[h.2.1],fun j f d=> ?_⟩;rw[Pg]at d;by_cases e:j=c.size
 ·rw[Mw e]at d;cases d;rw[h.2.1,e,h.1]
 rw[Mt e]at d;exact h.2.2 j f d
theorem DP.find{b:Array MapEntry}{c n:Nat}(h:DP b c n){i:Nat}(hi:i<n):b.findIdx? (fun e=>((e.born:Nat):Int)==((i:Nat):Int))=some i:=by
 rw[Array.findIdx?_eq_some_iff_getElem];refine⟨by rw[h.1];exact hi,?_,fun j d=> ?_⟩
 ·have:=h.2.2 i _ (OO (by rw[h.1];exact hi));simp[this]
 have:=h.2.2 j _ (OO (by rw[h.1];omega));simp[this];omega
theorem dT.remap(h:dT x s a w m){r g:Nat}{row row':Row}{z ents':Array MapEntry}{t clock':Nat}(c:s.rows r=some row)(v:row.sz=0)(l:row'.sz=0)(B:m.ρ r= .slice (some ⟨g,0,none⟩) 0 0)(S:x.w.heap.size<=g)(Q:w.heap[g]? =some (.map z t))
 (U:DP ents' clock' row'.es.length)(O: ∀(i:Nat)(e:List AV),row'.es[i]? =some e-> ∃y G E,ents'[i]? =some y/\e=[G,E]/\RV m.S w y.key G/\(if row'.pure then RV m.S w y.val E else RL w m s y.val E)):
 dT x (s.setRow r row') a { w with heap:=w.heap.setIfInBounds g (.map ents' clock') } m:=by
 have I:g<w.heap.size:=(N2.1 Q).1;have d: ∀k,k≠g->({ w with heap:=w.heap.setIfInBounds g (.map ents' clock') } :World).heap[k]? =w.heap[k]? :=fun k J=>by simp[Ot J]
 have H:({ w with heap:=w.heap.setIfInBounds g (.map ents' clock') } :World).heap[g]? =some (.map ents' clock'):=by simp[I]
 have f:(m.ρ r).ownBlock=some g:=by rw[B];rfl
 have A:=((h.rows r row c).map v).fresh g f;have j: ∀b o,m.S b o->k9 w ({ w with heap:=w.heap.setIfInBounds g (.map ents' clock') } :World) b o:=fun b o p=> .block (d b fun e=>A o (e ▸ p));have u: ∀b o,m.S b o->m.S b o/\k9 w ({ w with heap:=w.heap.setIfInBounds g (.map ents' clock') } :World) b o:=fun b o p=>⟨p,j b o p⟩;refine h.reset r row row' c (by rw[v,l]) ⟨rfl,rfl,rfl,by simp,fun q Y=>d q (by omega)⟩ j (fun k C K J N n=>d N fun e=>h.inj r k row C c J (Ot K) g f (e ▸ n)) (.inr ⟨l,⟨g,ents',clock',B,S,H,U,fun i e T=> ?_⟩,fun N n=>by rw[f]at n;cases n;exact A⟩) fun b R=>d b fun e=>h.Z5 r row c g f (e ▸ R);obtain⟨y,G,E,V,W,X,M⟩:=O i e T;refine⟨y,G,E,V,W,X.mono u,?_⟩;split at M
 ·rename_i L;rw[Mw L];exact M.mono u
 rename_i L;rw[Mt L];refine M.mono u (fun _=>NC _) fun k D _ p=> ?_;by_cases e:k=r
 ·subst e;simp only[St.setRow,aw,Ms]at p;subst p;exact⟨row,c,by rw[v,l],rfl⟩
 simp only[St.setRow,cR _ _ _ e]at p;exact⟨D,p,rfl,rfl⟩
theorem rL{t:TypeId}{y k v:Operand}(ho:o.op= .mapUpdate t y k v)(N:dT x s a w m)(h:(aX P x.env s.f o).run s=some out):dl P x s a w o out:=by
 have hy:=ar N y;have Q:=ar N k;have hvv:=ar N v;unfold aX at h;simp only[ho]at h;unfold gJ at h;split at h
 ·rename_i r ver kt et z n z' e1 hd;rw[e1]at hy;obtain⟨d,u,Y,C,h⟩:=Fr h;obtain⟨g,f,c,hv,hρ,p,O,hD,hE⟩:=N.mapAt hy u Y C;have hl:=hD.1;obtain⟨hu,ie,hi,hz⟩:=rZ hd;split at h
  ·rename_i J;obtain⟨hc1,hc2,U⟩:=J;obtain⟨b,T⟩:=PW.1 hc1;have E:=jb (P:=P) (w:=w) (em:=false) T Q
   have S: ∀(j:Nat)(e:List AV),d.es[j]? =some e-> ∃G kc vc,f[j]? =some G/\e=[kc,vc]/\RV m.S w G.key kc:=fun j e l=>by
    obtain⟨G,kc,vc,R,q2,q3,_⟩:=hE j e l;exact⟨G,kc,vc,R,q2,q3⟩
   have W:=vi T;have V:=Q.bare hc2
   have Z:if d.pure then RV m.S w (a.eval v) (gt x.env s.f v) else RL w m s (a.eval v) (gt x.env s.f v):=by
    cases hp:d.pure with
    | true=>
      rw[hp]at U;simp only[Nt];exact hvv.bare (by simpa using U)
    |false=>simp only[NU,OA];exact hvv
   split at h
   ·rename_i i hf;obtain⟨rr,D,G,R,q2,kc,vc',q3,q4⟩:=eu W Q hl S hf;simp only[Rd.run,Ms]at h;subst h;rw[q2]at D;obtain⟨en2,kc2,vc2,p1,p2,p3,p4⟩:=hE i _ q3;rw[R]at p1;cases p1;simp only[PZ,Rs]at p2;obtain⟨rfl,rfl⟩:=p2;obtain⟨B,_⟩:=zi q4 Q (RL.val p3);have X:=(zi (P:=P) (w:=w) q4 Q (RL.val p3)).2;have hil:i<f.size:=(N2.1 R).1;have K:(Instr.keyThatStays G.key (a.eval k)).run P w= .ok (a.eval k) w:=by rw[<-B];rw[<-B]at X;exact X
    have A:(Instr.mapUpdate t (.map (some g)) (a.eval k) (a.eval v)).run P w= .ok () { w with heap:=w.heap.setIfInBounds g (.map (f.modify i fun e=>{ e with key:=a.eval k,val:=a.eval v }) c) } :=by
     unfold Instr.mapUpdate;simp only[NZ,NL hu,NP,OJ O,E,D,R,NT,OH,K];rw[Pd _ O]
    have I:=N.remap (ents':=f.modify i fun e=>{ e with key:=a.eval k,val:=a.eval v }) (clock':=c) (row':={ d with es:=d.es.set i [gt x.env s.f k,gt x.env s.f v] }) u C C hρ p O (by simpa using hD.modify i (fun e=>{ e with key:=a.eval k,val:=a.eval v }) fun _=>rfl) fun j e l=>by
     have l:(d.es.set i [gt x.env s.f k,gt x.env s.f v])[j]? =some e:=l;rw[O0]at l;by_cases e0:i=j
     ·subst e0;rw[Mw rfl,Mw (by omega)]at l;cases l;exact⟨{ G with key:=a.eval k,val:=a.eval v },_,_,by simp[Of,R],rfl,V,Z⟩
     rw[Mt e0]at l;obtain⟨H,L,M,r1,r2,r3,r4⟩:=hE j e l;exact⟨H,L,M,by simp[Of,e0,r1],r2,r3,r4⟩
    refine⟨.skip,_,m,undef,?_, .inr ⟨rfl,rfl⟩,I, .val (.any _)⟩;unfold execOp;simp only[ho,hv,NZ,A,NP,Nu]
   ·rename_i hf;obtain⟨rr,D,q⟩:=eu W Q hl S hf;have q:rr=none:=q;subst q;simp only[Rd.run,Ms]at h;subst h
    have A:(Instr.mapUpdate t (.map (some g)) (a.eval k) (a.eval v)).run P w= .ok () { w with heap:=w.heap.setIfInBounds g (.map (f.push { key:=a.eval k,val:=a.eval v,born:=c }) (c+1)) } :=by
     unfold Instr.mapUpdate;simp only[NZ,NL hu,NP,OJ O,E,D];rw[Pd _ O]
    have I:=N.remap (ents':=f.push { key:=a.eval k,val:=a.eval v,born:=c }) (clock':=c+1) (row':={ d with es:=d.es++[[gt x.env s.f k,gt x.env s.f v]] }) u C C hρ p O (by simpa using hD.push (a.eval k) (a.eval v)) fun j e l=>by
     have l:(d.es++[[gt x.env s.f k,gt x.env s.f v]])[j]? =some e:=l;by_cases hjl:j<d.es.length
     ·rw[Nb hjl]at l;obtain⟨H,L,M,r1,r2,r3,r4⟩:=hE j e l;exact⟨H,L,M,by rw[Pg,Mt (by omega)];exact r1,r2,r3,r4⟩
     have hje:j=d.es.length:=by
      have:=(Mr.1 l).1;simp at this;omega
     subst hje;simp at l;subst l;exact⟨{ key:=a.eval k,val:=a.eval v,born:=c },_,_,by rw[Pg,Mw hl.symm],rfl,V,Z⟩
    refine⟨.skip,_,m,undef,?_, .inr ⟨rfl,rfl⟩,I, .val (.any _)⟩;unfold execOp;simp only[ho,hv,NZ,A,NP,Nu]
   simp[Rd.run]at h
  simp[Rd.run]at h
 simp[Rd.run]at h
theorem sA{t:TypeId}{y k:Operand}(ho:o.op= .mapEntry t y k)(W:dT x s a w m)(h:(aX P x.env s.f o).run s=some out):dl P x s a w o out:=by
 have hy:=ar W y;have Y:=ar W k;unfold aX at h;simp only[ho]at h;unfold iV at h;split at h
 ·rename_i r ver kt et z n z' e1 hd;rw[e1]at hy;obtain⟨f,B,hver,D,h⟩:=Fr h;obtain⟨g,l,d,hv,S,E,X,Z,hE⟩:=W.mapAt hy B hver D;have hl:=Z.1;obtain⟨hu,ie,hi,hz⟩:=rZ hd;split at h
  ·rename_i O;obtain⟨hc1,hc2⟩:=O;obtain⟨b,hb1⟩:=PW.1 hc1;have K:=jb (P:=P) (w:=w) (em:=false) hb1 Y
   have hE': ∀(j:Nat)(e:List AV),f.es[j]? =some e-> ∃C kc vc,l[j]? =some C/\e=[kc,vc]/\RV m.S w C.key kc:=fun j e A=>by
    obtain⟨C,kc,vc,U,q2,q3,_⟩:=hE j e A;exact⟨C,kc,vc,U,q2,q3⟩
   have hkt:=vi hb1;have hkr:=Y.bare hc2;split at h
   ·rename_i i hf;obtain⟨rr,I,C,U,q2,kc,J,q3,q4⟩:=eu hkt Y hl hE' hf;rw[q3]at h;simp only[Rd.run,Ms]at h;subst h;rw[q2]at I;obtain⟨en2,kc2,vc2,p1,p2,p3,p4⟩:=hE i _ q3;rw[U]at p1;cases p1;simp only[PZ,Rs]at p2;obtain⟨rfl,rfl⟩:=p2;obtain⟨H,_⟩:=zi q4 Y (RL.val p3);have hst:=(zi (P:=P) (w:=w) q4 Y (RL.val p3)).2;have hil:i<l.size:=(N2.1 U).1;have R:(Instr.keyThatStays C.key (a.eval k)).run P w= .ok (a.eval k) w:=by rw[<-H];rw[<-H]at hst;exact hst
    have N:C.born=i:=Z.2.2 i C U
    have G:(Instr.mapEntry t (.map (some g)) (a.eval k)).run P w= .ok (.tuple #[C.val, .int .i64 (i:Nat)]) { w with heap:=w.heap.setIfInBounds g (.map (l.modify i fun e=>{ e with key:=a.eval k }) d) } :=by
     unfold Instr.mapEntry;simp only[NZ,NL hu,NP,OJ X,K,I,U,NT,OH,R];rw[Pd _ X];simp[goInt,N]
    have M:=W.remap (ents':=l.modify i fun e=>{ e with key:=a.eval k }) (clock':=d) (row':={ f with es:=f.es.set i [gt x.env s.f k,J] }) B D D S E X (by simpa using Z.modify i (fun e=>{ e with key:=a.eval k }) fun _=>rfl) fun j e A=>by
     have A:(f.es.set i [gt x.env s.f k,J])[j]? =some e:=A;rw[O0]at A;by_cases e0:i=j
     ·subst e0;rw[Mw rfl,Mw (by omega)]at A;cases A;exact⟨{ C with key:=a.eval k },_,_,by simp[Of,U],rfl,hkr,p4⟩
     rw[Mt e0]at A;obtain⟨L,T,V,r1,r2,r3,r4⟩:=hE j e A;exact⟨L,T,V,by simp[Of,e0,r1],r2,r3,r4⟩
    have hval:RL w m s C.val J:=by
     split at p4
     ·exact .val p4
     exact p4
    refine⟨.value (.tuple #[C.val, .int .i64 (i:Nat)]),_,m, .tuple #[C.val, .int .i64 (i:Nat)],?_, .inl rfl,M,?_⟩
    ·unfold execOp;simp only[ho,hv,NZ,G,NP,Nu]
    ·have hS': ∀b o,m.S b o->m.S b o/\k9 w ({ w with heap:=w.heap.setIfInBounds g (.map (l.modify i fun e=>{ e with key:=a.eval k }) d) } :World) b o:=fun b o Q=>⟨Q, .block (by
      have hne:b≠g:=fun e=>((W.rows r f B).map D).fresh g (by rw[S];rfl) o (e ▸ Q)
      simp[Ot hne])⟩
     refine RL.tuple [C.val, .int .i64 (i:Nat)] [J, .lit (.int .i64 (i:Nat))] rfl fun j v c p u=> ?_
     match j,p,u with
     | 0,p,u=>
       simp at p u;subst p u;refine hval.mono hS' (fun _=>NC _) fun k row2 _ Q=> ?_;by_cases e:k=r
       ·subst e;simp only[dk,u3.app,St.setRow,aw,Ms]at Q;subst Q;exact⟨f,B,rfl,rfl⟩
       simp only[dk,u3.app,St.setRow,cR _ _ _ e]at Q;exact⟨row2,Q,rfl,rfl⟩
     |1,p,u=>simp at p u;subst p u;exact .val (.lit _)
     |j+2,p,u=>simp at p
   ·rename_i hf;obtain⟨rr,I,q⟩:=eu hkt Y hl hE' hf;have q:rr=none:=q;subst q;simp only[Rd.run,Ms]at h;subst h;have hzr:=kF (P:=P) hi hz w
    have G:(Instr.mapEntry t (.map (some g)) (a.eval k)).run P w= .ok (.tuple #[z, .int .i64 (f.es.length:Nat)]) { w with heap:=w.heap.setIfInBounds g (.map (l.push { key:=a.eval k,val:=z,born:=d }) (d+1)) } :=by
     unfold Instr.mapEntry;simp only[NZ,NL hu,NP,OJ X,K,I,hzr];rw[Pd _ X];simp[goInt,Z.2.1]
    have M:=W.remap (ents':=l.push { key:=a.eval k,val:=z,born:=d }) (clock':=d+1) (row':={ f with es:=f.es++[[gt x.env s.f k, .ofVal z]] }) B D D S E X (by simpa using Z.push (a.eval k) z) fun j e A=>by
     have A:(f.es++[[gt x.env s.f k, .ofVal z]])[j]? =some e:=A;by_cases hjl:j<f.es.length
     ·rw[Nb hjl]at A;obtain⟨L,T,V,r1,r2,r3,r4⟩:=hE j e A;exact⟨L,T,V,by rw[Pg,Mt (by omega)];exact r1,r2,r3,r4⟩
     ·have hje:j=f.es.length:=by
       have:=(Mr.1 A).1;simp at this;omega
      subst hje;simp at A;subst A;refine⟨{ key:=a.eval k,val:=z,born:=d },_,_,by rw[Pg,Mw hl.symm],rfl,hkr,?_⟩;cases hp:f.pure with
      |true=>exact ij z
      |false=>exact .val (ij z)
    refine⟨.value (.tuple #[z, .int .i64 (f.es.length:Nat)]),_,m, .tuple #[z, .int .i64 (f.es.length:Nat)],?_, .inl rfl,M, .val ?_⟩
    ·unfold execOp;simp only[ho,hv,NZ,G,NP,Nu]
    exact .tuple [z, .int .i64 (f.es.length:Nat)] [.ofVal z, .lit (.int .i64 (f.es.length:Nat))] rfl fun i v c p u=>by
     match i,p,u with
     |0,p,u=>simp at p u;subst p u;exact ij z
     |1,p,u=>simp at p u;subst p u;exact .lit _
     |i+2,p,u=>simp at p
   simp[Rd.run]at h
  simp[Rd.run]at h
 simp[Rd.run]at h
theorem pJ{t:TypeId}{y n v:Operand}(V:o.op= .entryStore t y n v)(u:dT x s a w m)(h:(aX P x.env s.f o).run s=some out):dl P x s a w o out:=by
 have W:=ar u y;have I:=ar u n;have E:=ar u v;unfold aX at h;simp only[V]at h;unfold eU at h;split at h
 ·rename_i r ver X n e1 e2;rw[e1]at W;rw[e2]at I;have I:=I.lit_;obtain⟨b,f,D,q,h⟩:=Fr h;obtain⟨g,d,c,hv,R,k,O,L,U⟩:=u.mapAt W f D q;have hl:=L.1;split at h
  ·rename_i l;obtain⟨h0,z⟩:=l;split at h
   ·rename_i Y vc0 Z;simp only[Rd.run,Ms]at h;subst h;have B:n.toNat<b.es.length:=(Mr.1 Z).1;have A:=L.find B;rw[show ((n.toNat:Nat):Int)=n by omega]at A
    have Q:if b.pure then RV m.S w (a.eval v) (gt x.env s.f v) else RL w m s (a.eval v) (gt x.env s.f v):=by
     cases hp:b.pure with
     | true=>
       rw[hp]at z;simp only[Nt];exact E.bare (by simpa using z)
     |false=>simp only[NU,OA];exact E
    have C:(Instr.entryStore t (.map (some g)) (.int X n) (a.eval v)).run P w= .ok () { w with heap:=w.heap.setIfInBounds g (.map (d.modify n.toNat fun e=>{ e with val:=a.eval v }) c) } :=by
     have N:(asInt (.int X n)).run P w= .ok n w:=rfl;unfold Instr.entryStore;simp only[NZ,OJ O,NP,N,A];rw[Pd _ O]
    have M:=u.remap (ents':=d.modify n.toNat fun e=>{ e with val:=a.eval v }) (clock':=c) (row':={ b with es:=b.es.set n.toNat [Y,gt x.env s.f v] }) f q q R k O (by simpa using L.modify n.toNat (fun e=>{ e with val:=a.eval v }) fun _=>rfl) fun j e p=>by
     have p:(b.es.set n.toNat [Y,gt x.env s.f v])[j]? =some e:=p;rw[O0]at p;by_cases K:n.toNat=j
     ·subst K;rw[Mw rfl,Mw B]at p;cases p;obtain⟨i,G,H,S,J,T,r4⟩:=U _ _ Z;simp only[PZ,Rs]at J;obtain⟨rfl,rfl⟩:=J;exact⟨{ i with val:=a.eval v },_,_,by simp[Of,S],rfl,T,Q⟩
     rw[Mt K]at p;obtain⟨i,G,H,S,J,T,r4⟩:=U j e p;exact⟨i,G,H,by simp[Of,K,S],J,T,r4⟩
    refine⟨.skip,_,m,undef,?_, .inr ⟨rfl,rfl⟩,M, .val (.any _)⟩;unfold execOp;simp only[V,hv,I,NZ,C,NP,Nu]
   simp[Rd.run]at h
  simp[Rd.run]at h
 simp[Rd.run]at h
theorem Ak{t b:TypeId}{y k:Operand}(d:o.op= .call { callee:= .builtin .delete,args:= #[y,k],argTypes:= #[t,b] }){v:Value}{c:World}(h:(Builtin.delete_ #[t,b] o.type #[a.eval y,a.eval k]).run P w= .ok v c):(execOp a.eval o).run P w= .ok (.value v) c:=by
 unfold execOp;simp only[d,resolve,invoke,builtin,NZ,Nu,NP,RI,Nh,O5,h]
theorem Hx{t Q:TypeId}{y k:Operand}(Y:o.op= .call { callee:= .builtin .delete,args:= #[y,k],argTypes:= #[t,Q] })(A:dT x s a w m)(h:(jj P t (gt x.env s.f y) (gt x.env s.f k)).run s=some out):dl P x s a w o out:=by
 have O:=ar A y;have N:=ar A k;unfold jj at h;split at h
 ·rename_i r ver kt et z n z' R U;rw[R]at O;obtain⟨L,l,u,K,h⟩:=Fr h;obtain⟨g,c,d,hv,hρ,E,B,S,T⟩:=A.mapAt O l u K;have X:=S.1;obtain⟨Z,ie,hi,hz⟩:=rZ U;split at h
  ·rename_i G;obtain⟨b,f⟩:=PW.1 G;have i:=jb (P:=P) (w:=w) (em:=c.isEmpty) f N
   have D: ∀(j:Nat)(e:List AV),L.es[j]? =some e-> ∃v C M,c[j]? =some v/\e=[C,M]/\RV m.S w v.key C:=fun j e W=>by
    obtain⟨v,C,M,q1,q2,q3,_⟩:=T j e W;exact⟨v,C,M,q1,q2,q3⟩
   have J:=vi f;split at h
   ·rename_i V;obtain⟨rr,H,q⟩:=eu J N X D V;have q:rr=none:=q;subst q;simp only[Rd.run,Ms]at h;subst h;have I:g<w.heap.size:=(N2.1 B).1
    have hw:({ w with heap:=w.heap.setIfInBounds g (.map c d) } :World)=w:=by
     have:w.heap.setIfInBounds g (.map c d)=w.heap:=by
      apply Array.ext_getElem?;intro q;rw[Array.getElem?_setIfInBounds];by_cases e:g=q
      ·subst e;rw[Mw rfl,Mw I,B]
      rw[Mt e]
     rw[this]
    have p:(Builtin.delete_ #[t,Q] o.type #[.map (some g),a.eval k]).run P w= .ok (.tuple #[]) w:=by
     simp[Builtin.delete_,NL Z,OJ B,i,H,Pd _ B,hw]
    exact⟨.value (.tuple #[]),w,m, .tuple #[],Ak Y (by rw[hv];exact p), .inl rfl,A, .val (.any _)⟩
   ·simp[Rd.run]at h
   simp[Rd.run]at h
  simp[Rd.run]at h
 simp[Rd.run]at h
end
section
variable {P:Program} {x:py} {s:St} {a:Act} {w:World} {m:ld} {o:Oper} {out:Out}
theorem rM{t:TypeId}{l c:Operand}(C:o.op= .makeSlice t l c)(y:dT x s a w m)(h:(aX P x.env s.f o).run s=some out):dl P x s a w o out:=by
 have u:=ar y l;have r:=ar y c;unfold aX at h;simp only[C]at h;unfold vp at h;split at h
 ·rename_i e f eb g n0 z0 k n D n' d L el J B;rw[el]at u;rw[J]at r;have u:=u.lit_;have r:=r.lit_;obtain⟨M,V,G,O,Q,R,T,U⟩:=bI L;split at h
  ·simp[Rd.run]at h
  rename_i b;simp only[Rj,QZ]at b;obtain⟨H,Y,rfl,Z,c5,c6,I⟩:=b;simp only[Rd.run,Ms]at h;subst h;have j:0<f:=by omega
  have A: ∀v∈g,v.oneCell'=true:=fun v N=>(Mz.1 I) v N;have K:=x6.rep (S:=m.S) (w:=w) n.toNat H A j;obtain⟨W,X,E⟩:=qm (d:=d) (e:=e) y j (by simp[maxLen];omega) K;have q:(List.replicate n.toNat (g.map AV.lit)).length=n.toNat:=by simp
  rw[q]at E;have z:G.cells=g.toArray:=by simp[<-U]
  have p:(Instr.makeSlice t (.int k n) (.int D n)).run P w= .ok (.slice (some ⟨w.heap.size,0,none⟩) n.toNat n.toNat) (w.alloc (.cells ((Array.range (n.toNat*f)).map (g.toArray[· % g.toArray.size]!)) e)):=by
   have:=run_make (P:=P) w t e V G M O Q k D n n (by omega) (RX _) (by rw[T];omega) (by omega);rw[z,R]at this;exact this
  refine⟨_,_,W,_,?_, .inl rfl,X,E⟩;have i:((Array.range (n.toNat*f)).map (g.toArray[· % g.toArray.size]!))=((Array.range (n.toNat*f)).map (g.toArray[· % g.toArray.size]!)).toList.toArray:=Ny.symm;rw[i]at p;unfold execOp;simp only[C,u,r,NZ,p,NP,Nu]
 simp[Rd.run]at h
theorem gl{c b:TypeId}{y:Operand}(e:o.op= .convert c b y){v:Value}{d:World}(h:(convert c b (a.eval y)).run P w= .ok v d):(execOp a.eval o).run P w= .ok (.value v) d:=by
 unfold execOp;simp only[e,NZ,h,NP,Nu]
theorem rE: ∀(es:List (List AV))(l:List UInt8),wk es=some l->es.length=l.length/\ ∀(i:Nat)(b:UInt8),l[i]? =some b->bs es i 0=some (.lit (.int .u8 (b.toNat:Int)))
 | [],l,h=>by
   simp only[wk,Ms]at h;subst h;exact⟨rfl,fun i b d=>by simp at d⟩
 | e::es,l,h=>by
   simp only[wk]at h;split at h
   ·rename_i b p d k;cases h;obtain⟨g,j⟩:=rE es p k;refine⟨by simp[g],fun i c f=> ?_⟩;cases i with
    | zero=>
      simp only[Nr,Ms]at f;subst f;unfold byteOf at d;split at d
      ·rename_i n;split at d
       ·rename_i q;cases d;simp only[bs,Nr,OD]
        congr 3
        simp;omega
       cases d
      cases d
    | succ i=>
      have:=j i c (by simpa using f);unfold bs at this |-;simpa using this
   cases h
theorem uG(l:List UInt8)(i j:Nat)(c:AV)(h:bs (l.map TY) i j=some c):j=0/\ ∃b,l[i]? =some b/\c= .lit (.int .u8 (b.toNat:Int)):=by
 unfold bs at h;rw[NB]at h;cases d:l[i]? with
 |none=>rw[d]at h;cases h
 | some b=>
   rw[d]at h;cases j with
   |zero=>simp[TY]at h;exact⟨rfl,b,rfl,h.symm⟩
   |succ j=>simp[TY]at h
theorem vS{I G:TypeId}{y:Operand}(ho:o.op= .convert I G y)(J:dT x s a w m)(h:(aX P x.env s.f o).run s=some out):dl P x s a w o out:=by
 have E:=ar J y;unfold aX at h;simp only[ho]at h;unfold vt at h;split at h
 ·rename_i k n d k' n' z' V B C;simp only[Rd.run,Ms]at h;subst h;rw[V]at E;have E:=E.lit_;have t:=oT C;obtain⟨i1,S,z1,hi1,f,_⟩:=gV B;refine .same J (v:= .int k' (k'.wrap n)) (gl ho ?_) rfl (.val (.lit _));rw[E];cases S<;>simp[convert,NL f,NL t,Conv.intToInt]
 ·rename_i str d n' z' V B C;simp only[Rd.run,Ms]at h;subst h;rw[V]at E;have E:=E.lit_;have t:=dI C;obtain⟨i1,S,z1,hi1,f,_⟩:=gV B;refine .same J (v:= .string str) (gl ho ?_) rfl (.val (.lit _));rw[E];cases S<;>simp[convert,NL f,NL t]
 ·rename_i str n1 z1 e esz eb ez n2 z2 V B C;rw[V]at E;have E:=E.lit_;split at h
  ·rename_i n3 z3 R;simp only[Rd.run,Ms]at h;subst h;obtain⟨t,_⟩:=bI C;have f:=dI B;have D:=oT R;obtain⟨c,w1,z,hb,hr⟩:=EF (P:=P) w I G e (bS str) f t D;rw[<-sI]at z;obtain⟨T,L⟩: ∃T:Nat->Nat->Prop,T=fun b o=>m.S b o\/(b=w.heap.size/\b<w1.heap.size/\o< (bS str).length):=⟨_,rfl⟩
   have hS2:dT x s a w1 ⟨T,m.ρ⟩:=J.move rfl (hb.mono J.Z3.size) (fun b o K=>⟨by rw[L];exact .inl K,hb.stay (J.low b o K)⟩) (fun b o K=>by
    rw[L]at K;rcases K with K|⟨rfl,K,_⟩
    ·exact .inl K
    ·exact .inr ⟨NC _,K⟩) (fun r row hrr g Y=>by
    exact hb.block g ((J.rows r row hrr).blk Y).2) (fun b hf=>hb.block b (J.fxlt hf))
   refine⟨_,w1,⟨T,m.ρ⟩,_,gl ho (by rw[E];exact z), .inl rfl,hS2, .val ?_⟩
   have hlt:0< (bS str).length->w.heap.size<w1.heap.size:=fun h0=>by
    obtain⟨b,off,e2,_,N⟩:=hr.2 h0;cases e2;have:=N 0 _ (by rw[Mq (by rw[MO];exact h0)]);rcases Pa w.heap.size w1.heap.size with q|q
    ·exact q
    simp[World.cell?,P9 q]at this
   have W:(bS str).length<=c:=by
    have:=run_bytes_of_string w I G e str f t D;rw[z]at this;injection this with e3 _
    injection e3 with _ _ e4
    rw[e4, <-jZ];exact SC _ _ _ _
   refine .seq _ _ c 1 _ w.heap.size 0 (fun i _=> .int .u8 (((bS str).getD i 0).toNat:Int)) (by simp) W (fun _=>rfl) (fun i e X=> ?_) (fun i j c' N=> ?_) fun i j c' N=> ?_
   ·rw[NB]at X;cases hq:(bS str)[i]? with
    |none=>rw[hq]at X;cases X
    |some b=>rw[hq]at X;cases X;rfl
   ·obtain⟨rfl,b,H,rfl⟩:=uG _ i j c' N;have hi:i< (bS str).length:=(Mr.1 H).1;obtain⟨b',off,e2,_,Q⟩:=hr.2 (by omega);cases e2;refine⟨by rw[L];exact .inr ⟨rfl,hlt (by omega),by omega⟩,?_,rfl⟩;have hu:(bv (bS str))[i]? =some (.int .u8 (b.toNat:Int)):=by unfold bv;rw[NB,H];rfl
    have:=Q i _ hu;have Y:(bS str).getD i 0=b:=by simp[List.getD,H]
    rw[Y];simpa using this
   obtain⟨rfl,b,H,rfl⟩:=uG _ i j c' N;have Y:(bS str).getD i 0=b:=by simp[List.getD,H]
   rw[Y];exact .lit _
  simp[Rd.run]at h
 ·rename_i e esz eb ez n1 z1 n2 z2 B C hno;split at h
  ·rename_i n3 z3 R;obtain⟨f,_⟩:=bI B;have t:=dI C;have D:=oT R;obtain⟨q,hq,h⟩:=fq h;obtain⟨r,hr,h⟩:=fq h;split at h
   ·rename_i hsz;cases M:wk r.2 with
    |none=>rw[M]at h;simp[Rd.run]at h
    | some l=>
      rw[M]at h;simp only[Rd.run,Ms]at h;subst h;obtain⟨T,q1,q2,q3⟩:=ov hq J E;obtain⟨A,n,U,cl,hv,hn,hA,hE0⟩:=S6 hr q3;have hE:x6 T w 1 cl r.2:=hE0.resize (by rcases hsz with e|e;exact .inl e;exact .inr e);obtain⟨hl,O⟩:=rE r.2 l M;refine⟨_,w,_, .string ⟨l.toArray⟩,gl ho ?_, .inl rfl,q1, .val (.lit _)⟩;rw[hv];by_cases h0:n=0
      ·have hl0:l=[]:=Np (by omega);subst hl0;subst h0;cases A with
       |none=>exact run_convert_bytes_nil w I e f D 0 U G t
       |some ad=>simp[convert,NL f,NL t,NL D,Conv.bytesToString,loadCells,loadCellsFrom];rfl
      obtain⟨b,p,rfl,Q⟩:=hA (by omega)
      have z:=run_convert_bytes_arg (P:=P) w I e f D b p n U (l.map fun b=>(b.toNat:Int)) (by simp;omega) (fun i hi=>by
       have Z:i<l.length:=by omega
       have N:=O i l[i] (Mq Z);obtain⟨u,h1,h2⟩:=hE.cell i 0 _ N;cases h2;have:=Q i _ (by simpa using h1);rw[this]
       simp[List.getD,Z]) G t
      rw[z]
      congr 2
      unfold strOfNums
      congr 2
      rw[P5]
      conv=>rhs;rw[<-SG l]
      apply O9;intro b _;simp
   simp[Rd.run]at h
  simp[Rd.run]at h
 simp[Rd.run]at h
theorem vC{t:TypeId}{y:Operand}(b:o.op= .call { callee:= .builtin .len,args:= #[y],argTypes:= #[t] }){v:Value}(h:(Builtin.len_ #[t] o.type #[a.eval y]).run P w= .ok v w):(execOp a.eval o).run P w= .ok (.value v) w:=by
 unfold execOp;simp only[b,resolve,invoke,builtin,NZ,Nu,NP,RI,Nh,O5,h]
theorem Lz{t:TypeId}{y:Operand}(D:o.op= .call { callee:= .builtin .len,args:= #[y],argTypes:= #[t] })(k:dT x s a w m)(h:(zl P t (gt x.env s.f y)).run s=some out):dl P x s a w o out:=by
 have j:=ar k y;unfold zl at h;split at h
 ·rename_i str n z e l;rw[e]at j;have j:=j.lit_;have p:=dI l;simp only[Rd.run,Ms]at h;subst h;exact .same k (v:= .int .i64 (bS str).length) (vC D (by rw[j];simp[Builtin.len_,NL p,goInt,jZ])) rfl (.val (.lit _))
 ·rename_i r J Z X zv n z e l;rw[e]at j;obtain⟨row,d,i,G,h⟩:=Fr h;obtain⟨g,K,C,H,_,_,Q,O,_⟩:=k.mapAt j d i G;have R:=O.1;obtain⟨p,_⟩:=rZ l;simp only[Rd.run,Ms]at h;subst h;exact .same k (v:= .int .i64 row.es.length) (vC D (by rw[H];simp[Builtin.len_,NL p,goInt,OJ Q,R])) rfl (.val (.lit _))
 ·rename_i e N W Y n z _ l;obtain⟨p,_⟩:=bI l;obtain⟨q,f,h⟩:=fq h;simp only[Rd.run,Ms]at h;subst h
  have I: ∃A c,a.eval y= .slice A q.2.length c:=by
   generalize gt x.env s.f y=L at*;cases L with
   | seq V M=>
     simp only[jX,Rd.run,Ms]at f;subst f;have T:=j.seq_;generalize a.eval y=vy at*;cases T with
     |seq A n B V M b o u S=>exact⟨A,B,by rw[S]⟩
   | lit u=>
     have:=j.lit_;rw[this];cases u with
     | slice A n c=>
       cases n with
       |zero=>simp only[jX,Rd.run,Ms]at f;subst f;exact⟨A,c,rfl⟩
       |succ n=>simp[jX,Rd.run]at f
     |_=>simp[jX,Rd.run]at f
   | row r J=>
     simp only[jX]at f;obtain⟨row,d,i,E,f⟩:=dn f;simp only[Rd.run,Ms]at f;subst f;rw[j.row_.2 i row d];obtain⟨xs,U,_⟩:=((k.rows r row d).cells E).own;obtain⟨A,c,e,_⟩:=wi U;exact⟨A,c,e⟩
   |_=>simp[jX,Rd.run]at f
  obtain⟨A,c,H⟩:=I;exact .same k (v:= .int .i64 q.2.length) (vC D (by rw[H];simp[Builtin.len_,NL p,goInt])) rfl (.val (.lit _))
 simp[Rd.run]at h
theorem Lw{ts:Array TypeId}{y z:Operand}{k:IntKind}{p q:Int}(e:o.op= .call { callee:= .builtin .min,args:= #[y,z],argTypes:=ts })(d:dT x s a w m)(f:gt x.env s.f y= .lit (.int k p))(g:gt x.env s.f z= .lit (.int k q)):
 dl P x s a w o ⟨.lit (.int k (if q<p then q else p)),[]⟩:=by
 have b:=ar d y;have c:=ar d z;rw[f]at b;rw[g]at c;have b:=b.lit_;have c:=c.lit_;refine .same d (v:= .int k (if q<p then q else p)) ?_ rfl (.val (.lit _));unfold execOp;simp[e,resolve,invoke,builtin,b,c,Builtin.min_,Builtin.min2]
theorem Ly{ts:Array TypeId}{y z:Operand}{k:IntKind}{p q:Int}(e:o.op= .call { callee:= .builtin .max,args:= #[y,z],argTypes:=ts })(d:dT x s a w m)(f:gt x.env s.f y= .lit (.int k p))(g:gt x.env s.f z= .lit (.int k q)):
 dl P x s a w o ⟨.lit (.int k (if p<q then q else p)),[]⟩:=by
 have b:=ar d y;have c:=ar d z;rw[f]at b;rw[g]at c;have b:=b.lit_;have c:=c.lit_;refine .same d (v:= .int k (if p<q then q else p)) ?_ rfl (.val (.lit _));unfold execOp;simp[e,resolve,invoke,builtin,b,c,Builtin.max_,Builtin.max2]
theorem wz(c:dT x s a w m): ∀(l:List Operand)(vs:List Value),r6 (l.map (gt x.env s.f))=some vs->l.map a.eval=vs
 |[],vs,h=>by cases h;rfl
 | y::l,vs,h=>by
   have e:=ar c y;rw[Nh]at h;cases d:gt x.env s.f y with
   | lit v=>
     rw[d]at h e;unfold r6 at h;obtain⟨b,f,rfl⟩:=OI.1 h;rw[Nh,wz c l b f,e.lit_]
   |_=>rw[d]at h;cases h
theorem sB{fn:Fn}{first captured:Array Operand}(l:o.op= .makeFunc fn first captured)(f:dT x s a w m)(h:(aX P x.env s.f o).run s=some out):dl P x s a w o out:=by
 unfold aX at h;simp only[l]at h;cases fn with
 | func g=>
   simp only at h;split at h
   ·rename_i d;have n:first= #[]:=by simpa using d.1
    subst n;obtain rfl:=bH h;refine .same f (v:= .func (.func g) #[] (captured.map a.eval)) ?_ rfl ?_
    ·unfold execOp;simp[l,Instr.makeFunc]
    have:=RL.clo (w:=w) (m:=m) (s:=s) g (captured.toList.map a.eval) (captured.toList.map (gt x.env s.f)) (by simp) fun i v c k d=>by
     rw[NB]at k d;cases p:captured.toList[i]? with
     |none=>rw[p]at k;cases k
     |some y=>rw[p]at k d;cases k;cases d;exact ar f y
    rwa [show (captured.toList.map a.eval).toArray=captured.map a.eval by rw[<-RJ,Ny]]at this
   rename_i d;split at h
   ·rename_i j;have n:first= #[]:=by simpa using j
    have b:captured= #[]:=by
     by_cases e:captured.isEmpty=true
     ·simpa using e
     exact absurd ⟨j,by simpa using e⟩ d
    subst n b;obtain rfl:=bH h;refine .same f (v:= .func (.func g) #[] #[]) ?_ rfl (.val (.lit _));unfold execOp;simp[l,Instr.makeFunc]
   unfold mU at h;split at h
   ·rename_i t q r;have b:captured= #[]:=by simpa using q
    subst b;obtain rfl:=bH h;refine .same f (v:= .func (.func g) (first.map a.eval) #[]) ?_ rfl ?_
    ·unfold execOp;simp[l,Instr.makeFunc]
    rw[show first.map a.eval=(first.toList.map a.eval).toArray by rw[<-RJ,Ny],wz f _ t r];exact .val (.lit _)
   simp[Rd.run]at h
 |_=>simp[Rd.run]at h
theorem tl{t:TypeId}{y:Operand}(c:o.op= .call { callee:= .builtin .clear,args:= #[y],argTypes:= #[t] }){v:Value}{b:World}(h:(Builtin.clear_ #[t] o.type #[a.eval y]).run P w= .ok v b):(execOp a.eval o).run P w= .ok (.value v) b:=by
 unfold execOp;simp[c,resolve,invoke,builtin,h]
theorem rq(b:List Value)(n:Nat):(Builtin.zeroCells b.toArray n).toList=(List.replicate n b).flatten:=by
 have f:(List.replicate n b).flatten.length=n*b.length:=by simp
 apply Nv;intro k;by_cases d:k<n*b.length
 ·have c:0<b.length:=Nat.pos_of_ne_zero fun e=>by rw[e]at d;omega
  have g:k%b.length<b.length:=Q4 _ c
  have h:(Builtin.zeroCells b.toArray n).toList[k]? =some b[k%b.length]:=by
   simp[Builtin.zeroCells,d,g]
  have i:(List.replicate n b).flatten[k/b.length*b.length+k%b.length]? =some b[k%b.length]:=by
   have j:k/b.length<n:=(Nat.div_lt_iff_lt_mul c).2 d;refine ky (List.replicate n b) (fun l p=>by rw[Qh p]) _ _ b _ (by simp[j]) (Mq g)
  rw[h, <-i,Q9]
 rw[NI (by simp[Builtin.zeroCells];omega),NI (by omega)]
theorem Ji{t:TypeId}{y:Operand}(ho:o.op= .call { callee:= .builtin .clear,args:= #[y],argTypes:= #[t] })(T:dT x s a w m)(h:(mY P t (gt x.env s.f y)).run s=some out):dl P x s a w o out:=by
 have hy:=ar T y;unfold mY at h;split at h
 ·rename_i r ver f e esz eb H n0 z0 ex hd;rw[ex]at hy;obtain⟨hu,ie,ze,i1,i2,i3,i4,i5⟩:=bI hd;simp only[Rd.run]at h;by_cases A:s.esc r=true
  ·rw[Mw A]at h;simp[Rd.run]at h
  have A:s.esc r=false:=by simpa using A
  rw[Mt (by simp[A])]at h;obtain⟨d,U,Z,hrz,h⟩:=dn h;split at h
  ·rename_i hc;obtain⟨⟨c1,c2,c3⟩,c4,c5⟩:=hc;simp only[Rd.run,Ms]at h;subst h;have S:=hy.sub_.2 Z d U;have k:=(T.rows r d U).cells hrz;obtain⟨xs,k1,k2,k3⟩:=k.own;have hz1: ∀v∈H,v.oneCell'=true:=fun v S=>(Mz.1 c3) v S;have hzv:=kF (P:=P) i1 i2;have hxl:=k1.1
   have W: ∀(i:Nat)(e:List AV),(d.es.take f++List.replicate (d.es.length-f) (H.map AV.lit))[i]? =some e->(i<f/\d.es[i]? =some e)\/(f<=i/\i<d.es.length/\e=H.map .lit):=fun i e B=>by
    rw[List.getElem?_append,NJ,P4 c5]at B;split at B
    ·rename_i hi;rw[N8,Mw hi]at B;exact .inl ⟨hi,B⟩
    rename_i hi;rw[Pn]at B;split at B
    ·cases B;exact .inr ⟨by omega,by omega,rfl⟩
    cases B
   have C:(d.es.take f++List.replicate (d.es.length-f) (H.map AV.lit)).length=d.es.length:=by simp;omega
   have hzl: ∀(i:Nat)(e:List AV),(d.es.take f++List.replicate (d.es.length-f) (H.map AV.lit))[i]? =some e->e.length=d.sz:=fun i e B=>by
    rcases W i e B with⟨_,q⟩|⟨_,_,rfl⟩
    ·exact k.len i e q
    simp;omega
   have hze:ze.cells=H.toArray:=by rw[<-i5]
   by_cases hn:d.es.length=f
   ·
    have I:(Builtin.clear_ #[t] o.type #[a.eval y]).run P w= .ok (.tuple #[]) w:=by
     rw[S];rcases k1.2 with⟨N,e0⟩|⟨g,O,z,N,_⟩
     ·rw[N];simp[Builtin.clear_,NL hu,Ss]
     rw[N];simp only[Ss,hn,QQ];split
     ·simp[Builtin.clear_,NL hu]
     simp[Builtin.clear_,NL hu]
    have X:({ d with es:=d.es.take f++List.replicate (d.es.length-f) (H.map AV.lit) } :Row)=d:=by
     rw[<-hn,QQ,List.replicate_zero,OP,NR]
    have K:dk ([.set r { d with es:=d.es.take f++List.replicate (d.es.length-f) (H.map AV.lit) }]:List u3) s=s:=by
     rw[X];simp only[dk,u3.app,St.setRow]
     have:mu s.rows r (some d)=s.rows:=by
      funext q
      by_cases e:q=r
      ·rw[e,aw,U]
      rw[cR _ _ _ e]
     rw[this]
    refine⟨_,w,m, .tuple #[],tl ho I, .inl rfl,by rw[K];exact T, .val (.any _)⟩
   rcases k1.2 with⟨N,e0⟩|⟨g,O,z,N,e2,e3,e4,e5,e6,e7⟩
   ·omega
   have D:(m.ρ r).ownBlock=some g:=by rw[N];rfl
   have R:=k.fresh A g D;have hcur:d.es.length*d.sz<=z.size:=by rw[e6];exact Nk _ e4
   obtain⟨G,M⟩: ∃G:List Value,G=(List.replicate (d.es.length-f) H).flatten:=⟨_,rfl⟩;have L:G.length=(d.es.length-f)*d.sz:=by rw[M];simp[c2,c1]
   have Y: ∀v∈G,v.oneCell'=true:=fun v S=>by
    rw[M]at S;obtain⟨l,hl,L⟩:=Rv.1 S;rw[Qh hl]at L;exact hz1 v L
   have hfit:f*d.sz+G.length=d.es.length*d.sz:=by rw[L, <-OY];congr 1;omega
   have K:=Rn P g (f*d.sz) d.e G 0 z w e3 (by omega) Y;simp only[PY]at K
   have I:(Builtin.clear_ #[t] o.type #[a.eval y]).run P w= .ok (.tuple #[]) (w.setRow g (ew z.toList (f*d.sz) G).toArray):=by
    rw[S,N];simp only[Ss];rw[Mt (by omega),NT,uR,OM];obtain⟨q,J⟩: ∃q,d.es.length-f=q+1:=⟨d.es.length-f-1,by omega⟩;have hzz:(Builtin.zeroCells ze.cells (d.es.length-f)).toList=G:=by rw[hze,rq,M]
    rw[J]at hzz |-;simp[Builtin.clear_,NL hu,hzv,hzz,K,ew]
   have hb:Below x.w.heap.size w (w.setRow g (ew z.toList (f*d.sz) G).toArray):=⟨rfl,rfl,rfl,by simp,fun q J=>PI w g q _ (by omega)⟩;have V: ∀b o,m.S b o->m.S b o/\k9 w (w.setRow g (ew z.toList (f*d.sz) G).toArray) b o:=fun b o hh=>⟨hh, .block (PI w g b _ fun e=>R o (e ▸ hh))⟩;have hx: ∀q,q<d.es.length*d.sz->xs[q]? =z.toList[q]? :=fun q J=>by rw[<-e7,N8,Mw J]
   refine⟨_,_,m, .tuple #[],tl ho I, .inl rfl,?_, .val (.any _)⟩;refine T.reset r d _ U rfl hb (fun b o hh=>(V b o hh).2) (fun q row1 hne J gq E=>PI w g gq _ (fun e=>T.inj r q d row1 U J (Ot hne) g D (e ▸ E))) ?_ fun b hf=>PI w g b _ fun e=>T.Z5 r d U g D (e ▸ hf);refine .inl ⟨k.pos,hzl,⟨ew xs (f*d.sz) G,⟨?_, .inr ⟨g,O,_,by rw[C];exact N,e2,QO w g z _ d.e _ e3,by rw[C];exact e4,e5,?_,?_⟩⟩,?_,?_⟩,fun B=> ?_,fun gq E o _=> ?_,fun _ gq E o=> ?_⟩
   ·rw[dQ _ _ _ (by omega),C];exact hxl
   ·show (ew z.toList (f*d.sz) G).toArray.size=O*d.sz;rw[PD,dQ _ _ _ (by simp;omega),OK,e6]
   ·show (ew z.toList (f*d.sz) G).toArray.toList.take ((d.es.take f++List.replicate (d.es.length-f) (H.map AV.lit)).length*d.sz)=ew xs (f*d.sz) G;apply Nv;intro q;rw[C,Qd,N8,bz z.toList _ _ (by simp;omega),bz xs _ _ (by omega)];split
    ·rename_i J;split
     ·exact(hx q J).symm
     split
     ·rfl
     exact(hx q J).symm
    rename_i J;rw[Mt (by omega),Mt (by omega),NI (by omega)]
   ·intro u hu;simp only[ew,NY]at hu;rcases hu with(hu|hu)|hu
    ·exact k2 u (Ou hu)
    ·exact Y u hu
    exact k2 u (P8 hu)
   ·intro i j c p;have Q:=eO hzl p;rw[C]at Q;show ∃u,(ew xs (f*d.sz) G)[i*d.sz+j]? =some u/\(if d.pure=true then _ else _);simp only[c4,Nt];rw[bz _ _ _ (by omega)];unfold bs at p;cases B:(d.es.take f++List.replicate (d.es.length-f) (H.map AV.lit))[i]? with
    |none=>rw[B]at p;cases p
    | some e=>
      rw[B]at p;have p:e[j]? =some c:=p;rcases W i e B with⟨q1,q2⟩|⟨q1,q2,rfl⟩
      ·obtain⟨u,u1,u2⟩:=k3 i j c (by unfold bs;rw[q2];exact p);rw[Mw c4]at u2;have:=kZ (n:=f) q1 Q.2;exact⟨u,by rw[Mw this];exact u1,u2.mono V⟩
      ·rw[NB]at p;cases hj:H[j]? with
       |none=>rw[hj]at p;cases p
       | some v=>
         rw[hj]at p;cases p;refine⟨v,?_, .lit v⟩;have h1:f*d.sz<=i*d.sz:=Nk _ q1;have h2:=kZ q2 Q.2;rw[Mt (by omega),Mw (by omega),M];have:=ky (List.replicate (d.es.length-f) H) (fun l hl=>by rw[Qh hl,c2,c1]) (i-f) j H v (by rw[Pn,Mw (by omega)]) hj;rw[<-this]
         congr 1
         rw[Nat.sub_mul];omega
   ·simp only[St.setRow]at B;rw[A]at B;cases B
   ·rw[D]at E;cases E;exact R o
   rw[D]at E;cases E;exact R o
  simp[Rd.run]at h
 simp[Rd.run]at h
theorem Dy(j:dT x s a w m)(h:(aX P x.env s.f o).run s=some out):dl P x s a w o out:=by
 cases g:o.op with
 |move y=>exact Co g j h
 |assign y=>exact yF g j h
 |pick c y z=>exact Cn g j h
 |alloc t=>exact AJ g j h
 |box t y=>exact GV g j h
 |build t N=>exact AG g j h
 |buildSlice t n N=>exact pK g j h
 |load t y=>exact Cp g j h
 |store t y z=>exact AC g j h
 |nilCheck y=>exact rz g j h
 |binOp M t y z U=>exact AH g j h
 |unOp M t y=>exact Cm g j h
 |convert src K y=>exact vS g j h
 |makeInterface t y=>exact lF g j h
 |makeSlice t l c=>exact rM g j h
 | makeMap t O=>
   cases O with
   |none=>exact vQ g j h
   |some y=>unfold aX at h;simp[g,Rd.run]at h
 |lookup t y k T=>exact yE g j h
 |makeFunc Q first E=>exact sB g j h
 |mapUpdate t y k v=>exact rL g j h
 |mapEntry t y k=>exact sA g j h
 |entryStore t y n v=>exact pJ g j h
 | slice t y S R J=>
   cases J with
   |none=>exact AD g j h
   |some J=>exact Cq g j h
 |fieldAddr t y i=>exact rP g j h
 |field t y i=>exact AF g j h
 |indexAddr t y i=>exact rO g j h
 |index t y i=>exact AE g j h
 |extract y i=>exact vR g j h
 | call c=>
   obtain⟨B,args,d⟩:=c;cases B with
   | builtin b=>
     unfold aX at h;simp only[g]at h;split at h
     ·rename_i y t u C;have A:args= #[y]:=by rw[<-Ny (xs:=args),u]
      have D:d= #[t]:=by rw[<-Ny (xs:=d),C]
      subst A D;exact Lz g j h
     ·rename_i y z t I u C;have A:args= #[y,z]:=by rw[<-Ny (xs:=args),u]
      have D:d= #[t,I]:=by rw[<-Ny (xs:=d),C]
      subst A D;split at h
      ·rename_i e;subst e;exact II g j h
      simp[Rd.run]at h
     ·rename_i y z u;have A:args= #[y,z]:=by rw[<-Ny (xs:=args),u]
      subst A;unfold EA at h;split at h
      ·rename_i k p L q G H;split at h
       ·rename_i e;subst e;obtain rfl:=bH h;exact Lw g j G H
       simp[Rd.run]at h
      simp[Rd.run]at h
     ·rename_i y z u;have A:args= #[y,z]:=by rw[<-Ny (xs:=args),u]
      subst A;unfold EB at h;split at h
      ·rename_i k p L q G H;split at h
       ·rename_i e;subst e;obtain rfl:=bH h;exact Ly g j G H
       simp[Rd.run]at h
      simp[Rd.run]at h
     ·rename_i y t u C;have A:args= #[y]:=by rw[<-Ny (xs:=args),u]
      have D:d= #[t]:=by rw[<-Ny (xs:=d),C]
      subst A D;exact Ji g j h
     ·rename_i y z t I u C;have A:args= #[y,z]:=by rw[<-Ny (xs:=args),u]
      have D:d= #[t,I]:=by rw[<-Ny (xs:=d),C]
      subst A D;exact Hx g j h
     simp[Rd.run]at h
   |value f=>unfold aX at h;simp[g,Rd.run]at h
   |invoke r n=>unfold aX at h;simp[g,Rd.run]at h
 |_=>unfold aX at h;simp[g,Rd.run]at h
end
end
section
def Rd.log{a:Type} :Rd a->St->List Nat×List Nat
 | .ret _,_=>([],[])
 | .fail,_=>([],[])
 | .look r k,s=>(r::((k (s.rows r) (s.vs r)).log s).1,((k (s.rows r) (s.vs r)).log s).2)
 | .esc r k,s=>(((k (s.esc r)).log s).1,r::((k (s.esc r)).log s).2)
def Rd.frame{h:Type}(q:Rd h)(s s':St)(d: ∀r∈(q.log s).1,s'.rows r=s.rows r/\s'.vs r=s.vs r)(e: ∀r∈(q.log s).2,s'.esc r=s.esc r):q.run s'=q.run s/\q.log s'=q.log s:=by
 induction q with
 |ret a=>exact⟨rfl,rfl⟩
 |fail=>exact⟨rfl,rfl⟩
 | look r k f=>
   obtain⟨c,g⟩:=d r (by simp[Rd.log]);have:=f (s.rows r) (s.vs r) (fun q b=>d q (by simp[Rd.log,b])) (fun q b=>e q (by simpa[Rd.log]using b));simp only[Rd.run,Rd.log,c,g,this.1,this.2,NH]
 | esc r k f=>
   have c:=e r (by simp[Rd.log]);have:=f (s.esc r) (fun q b=>d q (by simpa[Rd.log]using b)) (fun q b=>e q (by simp[Rd.log,b]));simp only[Rd.run,Rd.log,c,this.1,this.2,NH]
def nb:List u3->List Nat
 |[]=>[]
 | .renew r _::l | .grow r _::l | .set r _::l=>r::nb l
 | .show _::l=>nb l
def zs:List u3->List Nat
 |[]=>[]
 | .show r::l=>r::zs l
 |_::l=>zs l
structure fy where
 rd:List Nat
 re:List Nat
 wr:List Nat
 we:List Nat
def eX:fy:=⟨[],[],[],[]⟩
def r7(q:Rd Out)(s:St)(a:Out):fy:=⟨(q.log s).1,(q.log s).2,nb a.Z2,zs a.Z2⟩
def JT(a b:List Nat):Bool:=a.all fun x=> !b.contains x
def fy.apart(a b:fy):Bool:=JT a.wr (b.rd++b.re++b.wr++b.we)&&JT b.wr (a.rd++a.re++a.wr++a.we)&&JT a.we b.re&&JT b.we a.re
def eN{a b:List Nat}(h:JT a b=true){r:Nat}(c:r∈a)(d:r∈b):False:=by
 have:=(Mz.1 h) r c;simp[d]at this
/-! Effects change places -/
def eV{s s':St}(a:s.f=s'.f)(b:s.rows=s'.rows)(c:s.vs=s'.vs)(d:s.esc=s'.esc):s=s':=by
 cases s;cases s';simp_all
def MV(l:List u3)(s:St):(dk l s).f=s.f:=by
 induction l generalizing s with
 |nil=>rfl
 |cons e l a=>rw[dk,a];cases e<;>rfl
def IG(l:List u3)(s:St)(r:Nat)(h:r∉nb l):(dk l s).rows r=s.rows r/\(dk l s).vs r=s.vs r:=by
 induction l generalizing s with
 |nil=>exact⟨rfl,rfl⟩
 | cons e l d=>
   cases e with
   | renew q a=>
     simp only[nb,NV,Rj]at h;obtain⟨b,c⟩:=d (s.renew q a false) h.2;rw[dk];exact⟨b.trans (cR _ _ _ h.1),c.trans (cR _ _ _ h.1)⟩
   | grow q a=>
     simp only[nb,NV,Rj]at h;obtain⟨b,c⟩:=d (s.renew q a (s.esc q)) h.2;rw[dk];exact⟨b.trans (cR _ _ _ h.1),c.trans (cR _ _ _ h.1)⟩
   | set q a=>
     simp only[nb,NV,Rj]at h;obtain⟨b,c⟩:=d (s.setRow q a) h.2;rw[dk];exact⟨b.trans (cR _ _ _ h.1),c⟩
   | «show» q=>
     simp only[nb]at h;obtain⟨b,c⟩:=d (s.show q) h;rw[dk];exact⟨b,c⟩
def Jq(l:List u3)(s:St)(r:Nat)(h:r∉nb l)(b:r∉zs l):(dk l s).esc r=s.esc r:=by
 induction l generalizing s with
 |nil=>rfl
 | cons e l c=>
   cases e with
   | renew q a=>
     simp only[nb,zs,NV,Rj]at h b;rw[dk];exact(c (s.renew q a false) h.2 b).trans (cR _ _ _ h.1)
   | grow q a=>
     simp only[nb,zs,NV,Rj]at h b;rw[dk];exact(c (s.renew q a (s.esc q)) h.2 b).trans (cR _ _ _ h.1)
   | set q a=>
     simp only[nb,zs,NV,Rj]at h b;rw[dk];exact c (s.setRow q a) h.2 b
   | «show» q=>
     simp only[nb,zs,NV,Rj]at h b;rw[dk];exact(c (s.show q) h b.2).trans (cR _ _ _ b.1)
def bA{b:Type}(f:Nat->b){i j:Nat}(u v:b)(h:i≠j):mu (mu f i u) j v=mu (mu f j v) i u:=by
 funext t
 simp only[mu];by_cases a:t=j
 ·subst a;rw[Mw rfl,Mt (Ot h),Mw rfl]
 rw[Mt a];split<;>rfl
def J8(e:u3)(l:List u3)(s:St)(m:JT (nb [e]) (nb l++zs l)=true)(n:JT (nb l) (zs [e])=true):dk l (e.app s)=e.app (dk l s):=by
 induction l generalizing s with
 |nil=>rfl
 | cons k l p=>
   have i:JT (nb [e]) (nb l++zs l)=true:=by
    refine Mz.2 fun r d=> ?_;have:=(Mz.1 m) r d;cases k<;>simp_all[nb,zs]
   have j:JT (nb l) (zs [e])=true:=by
    refine Mz.2 fun r d=> ?_;exact(Mz.1 n) r (by cases k<;>simp[nb,d])
   have t:k.app (e.app s)=e.app (k.app s):=by
    have c: ∀r∈nb [e],∀q∈nb [k]++zs [k],r≠q:=fun r d q f h=>by
     subst h;refine eN m d ?_;rcases NY.1 f with f|f
     ·cases k<;>simp_all[nb,zs]
     cases k<;>simp_all[nb,zs]
    have o: ∀r∈nb [k],∀q∈zs [e],r≠q:=fun r d q f h=>by
     subst h;refine eN n ?_ f;cases k<;>simp_all[nb]
    cases e with
    | renew r g=>
      cases k with
      | renew q b=>
        have a:r≠q:=c r (by simp[nb]) q (by simp[nb]);exact eV rfl (bA _ _ _ a) (by simp only[u3.app,St.renew,cR _ _ _ a,cR _ _ _ (Ot a)];exact bA _ _ _ a) (bA _ _ _ a)
      | grow q b=>
        have a:r≠q:=c r (by simp[nb]) q (by simp[nb]);exact eV rfl (bA _ _ _ a) (by simp only[u3.app,St.renew,cR _ _ _ a,cR _ _ _ (Ot a)];exact bA _ _ _ a) (by simp only[u3.app,St.renew,cR _ _ _ (Ot a)];exact bA _ _ _ a)
      | set q b=>
        have a:r≠q:=c r (by simp[nb]) q (by simp[nb]);exact eV rfl (bA _ _ _ a) rfl rfl
      | «show» q=>
        have a:r≠q:=c r (by simp[nb]) q (by simp[zs]);exact eV rfl rfl rfl (bA _ _ _ a)
    | grow r g=>
      cases k with
      | renew q b=>
        have a:r≠q:=c r (by simp[nb]) q (by simp[nb]);exact eV rfl (bA _ _ _ a) (by simp only[u3.app,St.renew,cR _ _ _ a,cR _ _ _ (Ot a)];exact bA _ _ _ a) (by simp only[u3.app,St.renew,cR _ _ _ a];exact bA _ _ _ a)
      | grow q b=>
        have a:r≠q:=c r (by simp[nb]) q (by simp[nb]);exact eV rfl (bA _ _ _ a) (by simp only[u3.app,St.renew,cR _ _ _ a,cR _ _ _ (Ot a)];exact bA _ _ _ a) (by simp only[u3.app,St.renew,cR _ _ _ a,cR _ _ _ (Ot a)];exact bA _ _ _ a)
      | set q b=>
        have a:r≠q:=c r (by simp[nb]) q (by simp[nb]);exact eV rfl (bA _ _ _ a) rfl rfl
      | «show» q=>
        have a:r≠q:=c r (by simp[nb]) q (by simp[zs]);exact eV rfl rfl rfl (by simp only[u3.app,St.renew,St.show,cR _ _ _ a];exact bA _ _ _ a)
    | set r g=>
      cases k with
      | renew q b=>
        have a:r≠q:=c r (by simp[nb]) q (by simp[nb]);exact eV rfl (bA _ _ _ a) rfl rfl
      | grow q b=>
        have a:r≠q:=c r (by simp[nb]) q (by simp[nb]);exact eV rfl (bA _ _ _ a) rfl rfl
      | set q b=>
        have a:r≠q:=c r (by simp[nb]) q (by simp[nb]);exact eV rfl (bA _ _ _ a) rfl rfl
      | «show» q=>rfl
    | «show» r=>
      cases k with
      | renew q b=>
        have a:q≠r:=o q (by simp[nb]) r (by simp[zs]);exact eV rfl rfl rfl (bA _ _ _ (Ot a))
      | grow q b=>
        have a:q≠r:=o q (by simp[nb]) r (by simp[zs]);exact eV rfl rfl rfl (by simp only[u3.app,St.renew,St.show,cR _ _ _ a];exact bA _ _ _ (Ot a))
      |set q b=>rfl
      | «show» q=>
        by_cases a:r=q
        ·subst a;rfl
        exact eV rfl rfl rfl (bA _ _ _ a)
   show dk l (k.app (e.app s))=e.app (dk l (k.app s));rw[t,p _ i j]
def IH(a b:List u3)(s:St)(d:JT (nb a) (nb b++zs b)=true)(f:JT (nb b) (zs a)=true):dk b (dk a s)=dk a (dk b s):=by
 induction a generalizing s with
 |nil=>rfl
 | cons e a g=>
   have h:JT (nb [e]) (nb b++zs b)=true:=Mz.2 fun r c=>(Mz.1 d) r (by cases e<;>simp_all[nb]);have i:JT (nb a) (nb b++zs b)=true:=Mz.2 fun r c=>(Mz.1 d) r (by cases e<;>simp_all[nb])
   have j:JT (nb b) (zs [e])=true:=Mz.2 fun r c=>by
    have:=(Mz.1 f) r c;cases e<;>simp_all[zs]
   have k:JT (nb b) (zs a)=true:=Mz.2 fun r c=>by
    have:=(Mz.1 f) r c;cases e<;>simp_all[zs]
   show dk b (dk a (e.app s))=dk a (e.app (dk b s));rw[g _ i k,J8 e b s h j]
def B5(l:List u3)(s:St)(d:Option Nat)(c:AV):dk l (s.put d c)=(dk l s).put d c:=by
 cases d with
 |none=>rfl
 | some d=>
   induction l generalizing s with
   |nil=>rfl
   | cons e l a=>
     have:e.app (s.put (some d) c)=(e.app s).put (some d) c:=by cases e<;>rfl
     rw[dk,this,a];rfl
def Tx(s:St){d a:Option Nat}(c b:AV)(h: ∀t,d=some t->a≠some t):(s.put d c).put a b=(s.put a b).put d c:=by
 cases d with
 |none=>rfl
 | some d=>
   cases a with
   |none=>rfl
   |some a=>exact eV (bA _ _ _ (fun e=>h d rfl (by rw[e]))) rfl rfl rfl
def BZ(s:St)(d:Option Nat)(c:AV):(s.put d c).rows=s.rows/\(s.put d c).vs=s.vs/\(s.put d c).esc=s.esc:=by
 cases d<;>exact⟨rfl,rfl,rfl⟩
def M5(s:St)(d:Option Nat)(c:AV)(t:Nat)(h:d≠some t):(s.put d c).f t=s.f t:=by
 cases d with
 |none=>rfl
 |some d=>exact cR _ _ _ (fun e=>h (by rw[e]))
/-! An operation's reading hangs on its operands alone -/
def Dz{P:Program}{env:b8}{f f':Nat->AV}(o:Oper)(h: ∀y∈o.op.operands,gt env f y=gt env f' y):aX P env f o=aX P env f' o:=by
 obtain⟨k,r,j,s,i,guard⟩:=o
 have a: ∀ps:Array (Nat×Operand),(∀y∈(ps.toList.map (·.2)).toArray,gt env f y=gt env f' y)->(ps.toList.map fun p=>(p.1,gt env f p.2))=ps.toList.map fun p=>(p.1,gt env f' p.2):=fun ps q=>
  O9 fun p m=>by rw[q p.2 (by simp;exact⟨p.1,by simpa using m⟩)]
 cases r<;>simp only[Op.operands]at h<;>simp only[aX]
 case makeMap t rs=>cases rs<;>rfl
 case makeFunc fn first captured=>
  cases fn with
  | func g=>
    have:captured.toList.map (gt env f)=captured.toList.map (gt env f'):=O9 fun y e=>h y (by simp;exact .inr (by simpa using e));have l:first.toList.map (gt env f)=first.toList.map (gt env f'):=O9 fun y e=>h y (by simp;exact .inl (by simpa using e));simp only[this,l]
  |_=>rfl
 case build t ps=>rw[a ps h]
 case buildSlice t n ps=>rw[a ps h]
 case slice t y lo hi mx=>
  cases mx with
  |some mx=>cases lo<;>cases hi<;>simp_all
  |none=>cases lo<;>cases hi<;>simp_all
 case call c=>
  obtain⟨d,args,v⟩:=c;cases d with
  | builtin b=>
    simp only[Call.operands]at h;have u: ∀y∈args.toList,gt env f y=gt env f' y:=fun y e=>h y (by simpa using e);simp only;split<;>simp_all
  |_=>rfl
 all_goals (first|rfl|(simp_all;done))
end
end Go.Proofs.YtfhkmjbjafeckaaGreatDoor
