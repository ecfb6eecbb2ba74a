/- Operations that turn no memory: places, numbers, texts, equality. No program is named here. Values as others see them; stores. No program is named here. Operations that make rows. No program is named here. Operations that make rows, the rest; all operations together. No program is named here. Pieces, appends, made rows, lengths; all operations together. No program is named here. All operations together. No program is named here. What an operation leans on: operations that lean on nothing of one another may change places. No program is named here. -/
import Derived.Test.YtfhkmjbjafeckaaGreatDoorQ2
set_option linter.unusedSimpArgs false
set_option maxHeartbeats 1000000
set_option linter.defProp false
namespace Go.Proofs.YtfhkmjbjafeckaaGreatDoor
open Go.RowKit
section
section
variable {P:Program} {x:ph} {s:St} {a:Act} {w:World} {m:lP} {o:Oper} {out:Out}
theorem io{t e:TypeId}{c:TypeInfo}(w:World)(b p len cap:Nat)(k:IntKind)(i:Int)(h:P.underlying t=some (.slice e))(hi:P.info? e=some c)(d:0<=i)(f:i<len):
 (Instr.indexAt t (.slice (some ⟨b,p,none⟩) len cap) (.int k i)).run P w= .ok (.pointer (some ⟨b,p+i.toNat*c.size,none⟩)) w:=by
 have g:(sizeOf e).run P w= .ok c.size w:=by simp[sizeOf,typeInfo,hi]
 simp[Instr.indexAt,asIntOf,NO h,d,f,g,SR]
theorem rQ{t:TypeId}{y i:Operand}(O:o.op= .indexAddr t y i)(C:dT x s a w m)(h:(ae P x.env s.f o).run s=some out):dh P x s a w o out:=by
 have B:=ao C y;have l:=ao C i;unfold ae at h;simp only[O]at h;unfold gK at h;split at h
 ·rename_i sz Y k n e z eb ez n' z' I J M;rw[I]at B;rw[J]at l;have l:=l.lit_;obtain⟨T,ie,ze,V,q2,W,q4,q5⟩:=bH M;split at h
  ·rename_i K;obtain⟨H,b1,rfl⟩:=K;simp only[Rd.run,Mu]at h;subst h;have hr:=B.seq_;generalize G:a.eval y=vy at*;cases hr with
   | seq A U q sz Y b p u hn Z hA hz L Q=>
     obtain rfl:=hA (by omega);have d:=io (P:=P) w b p U q k n T V H (by omega);refine .same C (v:= .pointer (some ⟨b,p+(n.toNat*z+0),none⟩)) ?_ rfl (.val (.ref z Y n.toNat 0 b p u hz L Q));unfold execOp;simp only[O,G,l,N2,d,NR,Nq,W,PP]
  simp[Rd.run]at h
 ·rename_i r X k n e z eb ez n' z' I J M;rw[I]at B;rw[J]at l;have l:=l.lit_;obtain⟨T,ie,ze,V,q2,W,q4,q5⟩:=bH M;simp only[Rd.row,Rd.run]at h;cases c:s.rows r with
  |none=>rw[c]at h;simp[Rd.run]at h
  | some j=>
    rw[c]at h;simp only at h;split at h
    ·rename_i f;obtain⟨f,R⟩:=f;split at h
     ·rename_i K;obtain⟨H,b1,S⟩:=K;simp only[Rd.run,Mu]at h;subst h;obtain⟨N,B⟩:=B.row_;have G:=B f j c;have k':=(C.rows r j c).cells R;obtain⟨xs,k1,_⟩:=k'.own;obtain⟨g,q,D,_⟩:=k1.form (by omega);rw[D]at G;have d:=io (P:=P) w g 0 j.es.length q k n T V H (by omega);refine .same C (v:= .pointer (some ⟨g,n.toNat*j.sz+0,none⟩)) ?_ rfl (.loc r X n.toNat 0 rfl N fun _ row' E=>⟨g,by rw[D];rfl,by rw[c]at E;cases E;rfl⟩);unfold execOp;simp only[O,G,l,N2,d,NR,Nq,W,PP,OI,S]
     simp[Rd.run]at h
    simp[Rd.run]at h
 simp[Rd.run]at h
theorem kR(b:ByteArray):b.toList=bR b:=ByteArray.toList_eq b
theorem jW(b:ByteArray):b.size=(bR b).length:=by
 obtain⟨⟨l⟩⟩:=b;rfl
theorem sO(b:ByteArray):b=⟨(bR b).toArray⟩:=by
 obtain⟨⟨l⟩⟩:=b;rfl
theorem AR{t:TypeId}{y i:Operand}(u:o.op= .index t y i)(l:dT x s a w m)(h:(ae P x.env s.f o).run s=some out):dh P x s a w o out:=by
 have j:=ao l y;have g:=ao l i;unfold ae at h;simp only[u]at h;obtain⟨c,d,h⟩:=gC h;obtain rfl:=bG h;unfold pg at d;split at d
 ·rename_i str k n G H z A D;rw[z]at j;rw[A]at g;have j:=j.lit_;have g:=g.lit_;have E:=dH D;split at d
  ·rename_i B;split at d
   ·rename_i b r;cases d
    have p:str[n.toNat]? =some b:=by
     have q:n.toNat< (bR str).length:=(Mt.1 r).1;have e:n.toNat<str.size:=by rw[jW];exact q
     have C:=(Mt.1 r).2;rw[getElem?_pos str n.toNat e, <-C];rfl
    refine .same l (v:= .int .u8 b.toNat) ?_ rfl (.val (.lit _))
    have f:(Instr.index t (.string str) (.int k n)).run P w= .ok (.int .u8 b.toNat) w:=by
     simp only[Instr.index,asIntOf,N2,Nq,NR,NO E,Mw B,p]
    unfold execOp;simp only[u,j,g,N2,f,NR,Nq]
   cases d
  cases d
 cases d
theorem bC{d:BinOp}{t:TypeId}{x y:Operand}{b c:Value}(w:World)(e: ¬(b= .nilIface/\c= .nilIface))(f: ∀p q,¬(b= .agg p/\c= .agg q)):(eqGuard d t x y b c).run P w= .ok () w:=by
 cases d<;>first
  |rfl
  |(unfold eqGuard
    simp only[Oh,NW,OB];split
    ·exact absurd ⟨rfl,rfl⟩ e
    ·exact absurd ⟨rfl,rfl⟩ (f _ _)
    rfl)
theorem Az{b:BinOp}{t:TypeId}{x y:Operand}(w:World)(h:(cS x||cS y)=true):(eqGuard b t x y .nilIface .nilIface).run P w= .ok () w:=by
 cases x<;>cases y<;>cases b<;>first|rfl|(simp[cS]at h;done)|simp[eqGuard]
section
variable (w:World) (d:Nat) (t:TypeId)
theorem Fo{b:Array (String×TypeId)}(h:P.underlying t=some (.interface b)):(Op.equalIn (d+1) t .nilIface .nilIface).run P w= .ok true w:=by simp[Op.equalIn,NO h]
theorem Fq{b:Array (String×TypeId)}(h:P.underlying t=some (.interface b))(q:TypeId)(v:Value):(Op.equalIn (d+1) t (.iface q v) .nilIface).run P w= .ok false w:=by simp[Op.equalIn,NO h]
theorem Fp{b:Array (String×TypeId)}(h:P.underlying t=some (.interface b))(q:TypeId)(v:Value):(Op.equalIn (d+1) t .nilIface (.iface q v)).run P w= .ok false w:=by simp[Op.equalIn,NO h]
theorem uG{e:TypeId}(h:P.underlying t=some (.slice e))(A:Option Addr)(n c f b:Nat):(Op.equalIn (d+1) t (.slice A n c) (.slice none f b)).run P w= .ok A.isNone w:=by cases A<;>simp[Op.equalIn,NO h]
theorem Fl{e:TypeId}(h:P.underlying t=some (.pointer e)):(Op.equalIn (d+1) t (.pointer none) (.pointer none)).run P w= .ok true w:=by simp[Op.equalIn,NO h]
theorem uF{e:TypeId}(h:P.underlying t=some (.pointer e))(q:Addr):(Op.equalIn (d+1) t (.pointer (some q)) (.pointer none)).run P w= .ok false w:=by simp[Op.equalIn,NO h]
theorem Fj{e:TypeId}(h:P.underlying t=some (.pointer e))(q:Addr):(Op.equalIn (d+1) t (.pointer none) (.pointer (some q))).run P w= .ok false w:=by simp[Op.equalIn,NO h]
end
theorem cH{t:TypeId}{b c:Value}{r:Bool}(f:binOp .eql t b c=(do pure (.bool (<-Op.equal t b c))))(h: ∀d,(Op.equalIn (d+1) t b c).run P w= .ok r w):(binOp .eql t b c).run P w= .ok (.bool r) w:=by
 have e:(Op.equal t b c).run P w= .ok r w:=h 9999;rw[f,N2,e];rfl
theorem cG{t:TypeId}{b c:Value}{r:Bool}(f:binOp .neq t b c=(do pure (.bool (!(<-Op.equal t b c)))))(h: ∀d,(Op.equalIn (d+1) t b c).run P w= .ok r w):(binOp .neq t b c).run P w= .ok (.bool (!r)) w:=by
 have e:(Op.equal t b c).run P w= .ok r w:=h 9999;rw[f,N2,e];rfl
theorem aK{b:BinOp}{t e:TypeId}{y z:Operand}(d:o.op= .binOp b t y z e){v:Value}(c:(eqGuard b t y z (a.eval y) (a.eval z)).run P w= .ok () w)(h:(binOp b t (a.eval y) (a.eval z)).run P w= .ok v w):(execOp a.eval o).run P w= .ok (.value v) w:=by
 unfold execOp;simp only[d,N2,c,h,NR,Nq]
theorem xo{t:TypeId}{l n:AV}{b:Bool}{u v:Value}(h:cZ P t l n=some b)(j:RL w m s u l)(k:RL w m s v n):
 (∀(xs:Array Value)(o:Nat)(q:Value)(w:World),xs[o]? =some q->(part t xs o).run P w= .ok q w)/\ ∀(d:Nat)(w:World),(Op.equalIn (d+1) t u v).run P w= .ok b w:=by
 unfold cZ at h;split at h
 ·split at h
  ·rename_i g;split at h
   ·rename_i p;cases h;have e:=j.lit_;have f:=k.lit_;subst p e f;have c:=o9 g;exact⟨fun xs o q w i=>by simp[part,isAgg,NO c,i],fun d w=>run_equalIn_int w d t _ _ _ _ c⟩
   cases h
  cases h
 ·split at h
  ·rename_i g;cases h;have e:=j.lit_;have f:=k.lit_;subst e f;have c:=dH g;exact⟨fun xs o q w i=>by simp[part,isAgg,NO c,i],fun d w=>by rw[run_equalIn_string w d t _ _ c];simp[kR]⟩
  cases h
 ·split at h
  ·rename_i g;cases h;have e:=j.lit_;have f:=k.lit_;subst e f;have c:=mF g;exact⟨fun xs o q w i=>by simp[part,isAgg,NO c,i],fun d w=>Rm w d t _ _ c⟩
  cases h
 cases h
theorem EQ{t:TypeId}{f g:AV}{b:Bool}{u:Value}(h:cZ P t f g=some b)(_hu:RL w m s u f): ∀(xs:Array Value)(o:Nat)(q:Value)(w:World),xs[o]? =some q->(part t xs o).run P w= .ok q w:=by
 unfold cZ at h;split at h
 ·split at h
  ·rename_i c;have d:=o9 c;exact fun xs o q w e=>by simp[part,isAgg,NO d,e]
  cases h
 ·split at h
  ·rename_i c;have d:=dH c;exact fun xs o q w e=>by simp[part,isAgg,NO d,e]
  cases h
 ·split at h
  ·rename_i c;have d:=mF c;exact fun xs o q w e=>by simp[part,isAgg,NO d,e]
  cases h
 cases h
theorem zV{xs C:List AV}{j vs:List Value}(k:j.length=xs.length)(l:vs.length=C.length)(I: ∀(i:Nat)(v:Value)(c:AV),j[i]? =some v->xs[i]? =some c->RL w m s v c)(J: ∀(i:Nat)(v:Value)(c:AV),vs[i]? =some v->C[i]? =some c->RL w m s v c)(d:Nat):
 ∀(e:List Field)(n:List (Nat×TypeId×Nat))(b:Bool),e.mapM (fun f=>(P.info? f.type).map fun i=>(f.offset,f.type,i.size))=some n->e.all (fun f=>f.name≠ "_")=true->ru P xs C n=some b->(Op.eqFields (d+1) j.toArray vs.toArray e).run P w= .ok b w
 | [],n,b,g,_,h=>by
   simp only[List.mapM_nil,QS,Mu]at g;subst g;simp only[ru,Mu]at h;subst h;rfl
 | f::e,n,b,g,z,h=>by
   simp only[Q2,Qd,QS]at g;cases t:P.info? f.type with
   |none=>simp[t]at g
   | some i=>
     cases B:e.mapM (fun f=>(P.info? f.type).map fun i=>(f.offset,f.type,i.size)) with
     |none=>simp[t,B]at g
     | some r=>
       simp only[t,B,NU,OD,Mu]at g;subst g;simp only[Qf,Mx]at z;simp only[ru]at h;split at h
       ·rename_i Q R G H;split at h
        ·rename_i p q L M;cases h;have u:f.offset<j.length:=by rw[k];exact(Mt.1 G).1
         have y:f.offset<vs.length:=by rw[l];exact(Mt.1 H).1
         have D:j[f.offset]? =some j[f.offset]:=Ms u;have E:vs[f.offset]? =some vs[f.offset]:=Ms y;obtain⟨K,O⟩:=xo L (I _ _ _ D G) (J _ _ _ E H);have N:=zV k l I J d e r q B z.2 M;have A:f.name≠ "_" :=by simpa using z.1
         simp only[Op.eqFields,Mw A,N2,K j.toArray f.offset _ w (by rw[Qz];exact D),K vs.toArray f.offset _ w (by rw[Qz];exact E),NR,O d w];cases p
         ·simp
         simpa using N
        cases h
       cases h
theorem dm{e:Type}{r b:Nat}{k:Row->Rd e}{s:St}{y:e}(h:(Rd.row r b k).run s=some y): ∃row,s.rows r=some row/\s.vs r=b/\row.sz≠0/\(k row).run s=some y:=by
 simp only[Rd.row,Rd.run]at h;cases c:s.rows r with
 |none=>rw[c]at h;simp[Rd.run]at h
 | some row=>
   rw[c]at h;simp only at h;split at h
   ·rename_i d;exact⟨row,rfl,d.1,d.2,h⟩
   simp[Rd.run]at h
theorem AX{L:BinOp}{t ty:TypeId}{y z:Operand}(D:o.op= .binOp L t y z ty)(C:dT x s a w m)(h:(ae P x.env s.f o).run s=some out):dh P x s a w o out:=by
 have j:=ao C y;have e:=ao C z;unfold ae at h;simp only[D]at h;unfold vx at h;split at h
 ·rename_i r ver i O H I;rw[H]at j;rw[I]at e;have e:=e.lit_;obtain⟨row,V,W,_,h'⟩:=dm h;try clear h
  have h:=h';try clear h'
  obtain⟨g,_,K⟩:=j.loc_.2 W row V;have l:(eqGuard L t y z (a.eval y) (a.eval z)).run P w= .ok () w:=by rw[K,e];exact bC w (by simp) (by simp)
  split at h
  ·rename_i E;obtain rfl:=bG h;obtain⟨N,G⟩:=mD E;exact .same C (aK D l (by rw[K,e];exact cH rfl fun d=>uF w d t G _)) rfl (.val (.lit _))
  ·rename_i E;obtain rfl:=bG h;obtain⟨N,G⟩:=mD E;exact .same C (aK D l (by rw[K,e];exact cG rfl fun d=>uF w d t G _)) rfl (.val (.lit _))
  simp[Rd.run]at h
 ·rename_i A Y R Z S H I;rw[H]at j;rw[I]at e;have j:=j.lit_;have e:=e.lit_;have l:(eqGuard L t y z (a.eval y) (a.eval z)).run P w= .ok () w:=by rw[j,e];exact bC w (by simp) (by simp)
  split at h
  ·rename_i E;obtain rfl:=bG h;have G:=(bH E).1;exact .same C (aK D l (by rw[j,e];exact cH rfl fun d=>uG w d t G A Y R Z S)) rfl (.val (.lit _))
  ·rename_i E;obtain rfl:=bG h;have G:=(bH E).1;exact .same C (aK D l (by rw[j,e];exact cG rfl fun d=>uG w d t G A Y R Z S)) rfl (.val (.lit _))
  simp[Rd.run]at h
 ·rename_i sz e0 es0 Z S H I;rw[H]at j;rw[I]at e;have j:=j.seq_;have e:=e.lit_;generalize Q:a.eval y=vy at*;cases j with
  | seq A Y R sz es b o u hn hcap hA hzz M hrr=>
    have hA:=hA (by simp at hn;omega);subst hA;have l:(eqGuard L t y z (a.eval y) (a.eval z)).run P w= .ok () w:=by rw[Q,e];exact bC w (by simp) (by simp)
    split at h
    ·rename_i E;obtain rfl:=bG h;have G:=(bH E).1;exact .same C (aK D l (by rw[Q,e];exact cH rfl fun d=>uG w d t G _ Y R Z S)) rfl (.val (.lit _))
    ·rename_i E;obtain rfl:=bG h;have G:=(bH E).1;exact .same C (aK D l (by rw[Q,e];exact cG rfl fun d=>uG w d t G _ Y R Z S)) rfl (.val (.lit _))
    simp[Rd.run]at h
 obtain⟨c,B,h⟩:=gC h;obtain rfl:=bG h;unfold IZ at B;split at B
 ·rename_i k p k' q H I;rw[H]at j;rw[I]at e;have j:=j.lit_;have e:=e.lit_;have l:(eqGuard L t y z (a.eval y) (a.eval z)).run P w= .ok () w:=by rw[j,e];exact bC w (by simp) (by simp)
  split at B<;>(try cases B;done)<;>(split at B<;>(try cases B;done))<;>rename_i J<;>cases B
  ·exact .same C (aK D l (v:= .int k (k.wrap (p+q))) (by rw[j,e];subst J;simp[binOp,Op.intArith])) rfl (.val (.lit _))
  ·exact .same C (aK D l (v:= .int k (k.wrap (p-q))) (by rw[j,e];subst J;simp[binOp,Op.intArith])) rfl (.val (.lit _))
  ·exact .same C (aK D l (v:= .int k (k.wrap (p*q))) (by rw[j,e];subst J;simp[binOp,Op.intArith])) rfl (.val (.lit _))
  ·obtain⟨J,hq⟩:=J;exact .same C (aK D l (v:= .int k (k.wrap (p.tdiv q))) (by rw[j,e];subst J;simp[binOp,Op.intDiv,hq])) rfl (.val (.lit _))
  ·obtain⟨J,hq⟩:=J;exact .same C (aK D l (v:= .int k (p.tmod q)) (by rw[j,e];subst J;simp[binOp,Op.intDiv,hq])) rfl (.val (.lit _))
  ·exact .same C (aK D l (v:= .bool (p==q)) (by rw[j,e];subst J;simp[binOp,Op.intCmp])) rfl (.val (.lit _))
  ·exact .same C (aK D l (v:= .bool (p != q)) (by rw[j,e];subst J;simp[binOp,Op.intCmp])) rfl (.val (.lit _))
  ·exact .same C (aK D l (v:= .bool (decide (p<q))) (by rw[j,e];subst J;simp[binOp,Op.intCmp])) rfl (.val (.lit _))
  ·exact .same C (aK D l (v:= .bool (decide (p<=q))) (by rw[j,e];subst J;simp[binOp,Op.intCmp])) rfl (.val (.lit _))
  ·exact .same C (aK D l (v:= .bool (decide (p>q))) (by rw[j,e];subst J;simp[binOp,Op.intCmp])) rfl (.val (.lit _))
  ·exact .same C (aK D l (v:= .bool (decide (p>=q))) (by rw[j,e];subst J;simp[binOp,Op.intCmp])) rfl (.val (.lit _))
  ·exact .same C (aK D l (v:= .int k (uQ .and k p q)) (by rw[j,e];subst J;simp[binOp,Op.intBits,uQ])) rfl (.val (.lit _))
  ·exact .same C (aK D l (v:= .int k (uQ .or k p q)) (by rw[j,e];subst J;simp[binOp,Op.intBits,uQ])) rfl (.val (.lit _))
  ·exact .same C (aK D l (v:= .int k (uQ .xor k p q)) (by rw[j,e];subst J;simp[binOp,Op.intBits,uQ])) rfl (.val (.lit _))
  ·exact .same C (aK D l (v:= .int k (uQ .andNot k p q)) (by rw[j,e];subst J;simp[binOp,Op.intBits,uQ])) rfl (.val (.lit _))
  ·exact .same C (aK D l (v:= .int k (k.wrap (p*2^min q.toNat k.bits))) (by rw[j,e];simp[binOp,Op.shift,SQ.2 J])) rfl (.val (.lit _))
  exact .same C (aK D l (v:= .int k (p.fdiv (2^min q.toNat k.bits))) (by rw[j,e];simp[binOp,Op.shift,SQ.2 J])) rfl (.val (.lit _))
 ·rename_i p q H I;rw[H]at j;rw[I]at e;have j:=j.lit_;have e:=e.lit_;have l:(eqGuard L t y z (a.eval y) (a.eval z)).run P w= .ok () w:=by rw[j,e];exact bC w (by simp) (by simp)
  split at B
  ·split at B
   ·rename_i hle;cases B;refine .same C (aK D l (v:= .string ⟨(bR p++bR q).toArray⟩) ?_) rfl (.val (.lit _));rw[j,e];have:=Km (P:=P) (bR p) (bR q) hle w;rw[<-sO, <-sO]at this;simpa[binOp]using this
   cases B
  ·cases B;exact .same C (aK D l (v:= .bool (bR p==bR q)) (by rw[j,e];simp[binOp,Op.stringOp,kR])) rfl (.val (.lit _))
  ·cases B;exact .same C (aK D l (v:= .bool (!(bR p==bR q))) (by rw[j,e];simp[binOp,Op.stringOp,kR])) rfl (.val (.lit _))
  ·cases B;exact .same C (aK D l (v:= .bool (Op.bytesLess (bR p) (bR q))) (by rw[j,e];simp[binOp,Op.stringOp,kR])) rfl (.val (.lit _))
  ·cases B;exact .same C (aK D l (v:= .bool (Op.bytesLess (bR p) (bR q)||bR p==bR q)) (by rw[j,e];simp[binOp,Op.stringOp,kR])) rfl (.val (.lit _))
  ·cases B;exact .same C (aK D l (v:= .bool (!(Op.bytesLess (bR p) (bR q)||bR p==bR q))) (by rw[j,e];simp[binOp,Op.stringOp,kR])) rfl (.val (.lit _))
  ·cases B;exact .same C (aK D l (v:= .bool (!Op.bytesLess (bR p) (bR q))) (by rw[j,e];simp[binOp,Op.stringOp,kR])) rfl (.val (.lit _))
  cases B
 ·rename_i p q H I;rw[H]at j;rw[I]at e;have j:=j.lit_;have e:=e.lit_;have l:(eqGuard L t y z (a.eval y) (a.eval z)).run P w= .ok () w:=by rw[j,e];exact bC w (by simp) (by simp)
  split at B
  ·rename_i E;cases B;have G:=mF E;exact .same C (aK D l (by rw[j,e];exact cH rfl fun d=>Rm w d t p q G)) rfl (.val (.lit _))
  ·rename_i E;cases B;have G:=mF E;exact .same C (aK D l (by rw[j,e];exact cG rfl fun d=>Rm w d t p q G)) rfl (.val (.lit _))
  cases B
 ·rename_i H I;rw[H]at j;rw[I]at e;have j:=j.lit_;have e:=e.lit_
  have l:(cS y||cS z)=true->(eqGuard L t y z (a.eval y) (a.eval z)).run P w= .ok () w:=fun hh=>by
   rw[j,e];exact Az w hh
  split at B
  ·rename_i E M;cases B;obtain⟨N,G⟩:=jb E;exact .same C (aK D (l M) (by rw[j,e];exact cH rfl fun d=>Fo w d t G)) rfl (.val (.lit _))
  ·rename_i E M;cases B;obtain⟨N,G⟩:=jb E;exact .same C (aK D (l M) (by rw[j,e];exact cG rfl fun d=>Fo w d t G)) rfl (.val (.lit _))
  cases B
 ·rename_i ti ci H I;rw[H]at j;rw[I]at e;obtain⟨u,j,_⟩:=j.iface_;have e:=e.lit_;have l:(eqGuard L t y z (a.eval y) (a.eval z)).run P w= .ok () w:=by rw[j,e];exact bC w (by simp) (by simp)
  split at B
  ·rename_i E;cases B;obtain⟨N,G⟩:=jb E;exact .same C (aK D l (by rw[j,e];exact cH rfl fun d=>Fq w d t G _ _)) rfl (.val (.lit _))
  ·rename_i E;cases B;obtain⟨N,G⟩:=jb E;exact .same C (aK D l (by rw[j,e];exact cG rfl fun d=>Fq w d t G _ _)) rfl (.val (.lit _))
  cases B
 ·rename_i ti ci H I;rw[H]at j;rw[I]at e;obtain⟨u,e,_⟩:=e.iface_;have j:=j.lit_;have l:(eqGuard L t y z (a.eval y) (a.eval z)).run P w= .ok () w:=by rw[j,e];exact bC w (by simp) (by simp)
  split at B
  ·rename_i E;cases B;obtain⟨N,G⟩:=jb E;exact .same C (aK D l (by rw[j,e];exact cH rfl fun d=>Fp w d t G _ _)) rfl (.val (.lit _))
  ·rename_i E;cases B;obtain⟨N,G⟩:=jb E;exact .same C (aK D l (by rw[j,e];exact cG rfl fun d=>Fp w d t G _ _)) rfl (.val (.lit _))
  cases B
 ·rename_i H I;rw[H]at j;rw[I]at e;have j:=j.lit_;have e:=e.lit_;have l:(eqGuard L t y z (a.eval y) (a.eval z)).run P w= .ok () w:=by rw[j,e];exact bC w (by simp) (by simp)
  split at B
  ·rename_i E;cases B;obtain⟨N,G⟩:=mD E;exact .same C (aK D l (by rw[j,e];exact cH rfl fun d=>Fl w d t G)) rfl (.val (.lit _))
  ·rename_i E;cases B;obtain⟨N,G⟩:=mD E;exact .same C (aK D l (by rw[j,e];exact cG rfl fun d=>Fl w d t G)) rfl (.val (.lit _))
  cases B
 ·rename_i sz es i O H I;rw[H]at j;rw[I]at e;have e:=e.lit_;have hr:=j.ref_;generalize K:a.eval y=vy at*;cases hr with
  | ref sz es i O b p u hz' M hrv=>
    have l:(eqGuard L t y z (a.eval y) (a.eval z)).run P w= .ok () w:=by rw[K,e];exact bC w (by simp) (by simp)
    split at B
    ·rename_i E;cases B;obtain⟨N,G⟩:=mD E;exact .same C (aK D l (by rw[K,e];exact cH rfl fun d=>uF w d t G _)) rfl (.val (.lit _))
    ·rename_i E;cases B;obtain⟨N,G⟩:=mD E;exact .same C (aK D l (by rw[K,e];exact cG rfl fun d=>uF w d t G _)) rfl (.val (.lit _))
    cases B
 ·rename_i sz es i O H I;rw[H]at j;rw[I]at e;have j:=j.lit_;have hr:=e.ref_;generalize K:a.eval z=vz at*;cases hr with
  | ref sz es i O b p u hz' M hrv=>
    have l:(eqGuard L t y z (a.eval y) (a.eval z)).run P w= .ok () w:=by rw[K,j];exact bC w (by simp) (by simp)
    split at B
    ·rename_i E;cases B;obtain⟨N,G⟩:=mD E;exact .same C (aK D l (by rw[K,j];exact cH rfl fun d=>Fj w d t G _)) rfl (.val (.lit _))
    ·rename_i E;cases B;obtain⟨N,G⟩:=mD E;exact .same C (aK D l (by rw[K,j];exact cG rfl fun d=>Fj w d t G _)) rfl (.val (.lit _))
    cases B
 ·rename_i xs ys H I;rw[H]at j;rw[I]at e;obtain⟨us,G,hul,_,huc⟩:=j.agg_;obtain⟨vs,K,hvl,_,hvc⟩:=e.agg_
  have X: ∀ {fs:List (Nat×TypeId×Nat)}{n:Nat}{z':List Value}{b:Bool},ef P t=some ⟨.struct fs true,n,z'⟩->ru P xs ys fs=some b->(eqGuard L t y z (a.eval y) (a.eval z)).run P w= .ok () w/\(Op.equalIn 10000 t (.agg us.toArray) (.agg vs.toArray)).run P w= .ok b w:=fun {fs n z' b} E T=>by
   obtain⟨f,hf,hm,he⟩:=eF E;have he:=he.symm;simp only[Mx,OA]at he;obtain⟨⟨h1,h2⟩,h3⟩:=he;have U:P.fieldsOf t=f:=by simp[Program.fieldsOf,hf]
   refine⟨?_,?_⟩
   ·rw[G,K];exact run_eqGuard_agg w L t y z _ _ h1
   rw[run_equalIn_agg w 9999 t _ _ (by rw[U];exact hf) h2,U];exact zV hul hvl huc hvc 9998 _ _ _ hm h3 T
  split at B
  ·rename_i E;obtain⟨b,T,rfl⟩:=OK.1 B;obtain⟨k1,k2⟩:=X E T;exact .same C (aK D k1 (v:= .bool b) (by rw[G,K,run_eql_struct,k2];rfl)) rfl (.val (.lit _))
  ·rename_i E;obtain⟨b,T,rfl⟩:=OK.1 B;obtain⟨k1,k2⟩:=X E T;exact .same C (aK D k1 (v:= .bool (!b)) (by rw[G,K,run_neq_struct,k2];rfl)) rfl (.val (.lit _))
  cases B
 cases B
end
end
section
def g8(a b:List va)(s:St):ds (a++b) s=ds b (ds a s):=by
 induction a generalizing s with
 |nil=>rfl
 |cons e l c=>exact c _
def cm(l:List Nat)(s:St):(ds (iS l) s).rows=s.rows/\(ds (iS l) s).vs=s.vs/\(ds (iS l) s).f=s.f:=by
 induction l generalizing s with
 |nil=>exact⟨rfl,rfl,rfl⟩
 |cons r l a=>exact a (s.show r)
def G5(l:List Nat)(s:St)(r:Nat)(h:l.all (· != r)=true):(ds (iS l) s).esc r=s.esc r:=by
 induction l generalizing s with
 |nil=>rfl
 | cons q l a=>
   simp only[Qf,Mx,Rf,ne_eq]at h;refine(a (s.show q) h.2).trans ?_;simp[St.show,m6,Oq h.1]
def RL.shown{w:World}{m:lP}{s:St}{v:Value}{c:AV}(h:RL w m s v c)(l:List Nat){S':Nat->Nat->Prop}(g: ∀b o,m.S b o->S' b o):RL w ⟨S',m.ρ⟩ (ds (iS l) s) v c:=by
 obtain⟨e,f,_⟩:=cm l s;refine h.mono (fun b o i=>⟨g b o i, .rfl⟩) (fun r=>by rw[f];exact ND _) fun r a _ d=>⟨a,by rw[e]at d;exact d,rfl,rfl⟩
def fI{b c:Type}{q:Rd b}{k:b->Rd c}{s:St}{y:c}(h:(q.bind k).run s=some y): ∃z,q.run s=some z/\(k z).run s=some y:=by
 rw[Rd.run_bind]at h;cases a:q.run s with
 |none=>rw[a]at h;cases h
 |some z=>rw[a]at h;exact⟨z,rfl,h⟩
def lF{f:Type}{sz:Nat} : ∀(d:List (List f)),(∀l∈d,l.length=sz)-> ∀(i j:Nat)(l:List f)(u:f),d[i]? =some l->l[j]? =some u->d.flatten[i*sz+j]? =some u
 |[],_,i,j,l,u,h,_=>by simp at h
 | e::b,c,0,j,l,u,h,a=>by
   have h:e=l:=by simpa using h
   subst h;have m:j<e.length:=(Mt.1 a).1;simp only[QW,Pr,OI];rw[N9 m,a]
 | e::b,c,i+1,j,l,u,h,a=>by
   have h:b[i]? =some l:=by simpa using h
   have k:e.length=sz:=c e (by simp);have o:=lF b (fun l n=>c l (by simp[n])) i j l u h a;have g:(i+1)*sz+j-sz=i*sz+j:=by rw[OX,P5];omega
   have p:sz<=(i+1)*sz+j:=by rw[OX,P5];omega
   simp only[QW];rw[NY (by omega),k,g];exact o
def qy{c:AV}{s s':St}(d:s'.rows=s.rows)(e:s'.vs=s.vs):(cY c).run s'=(cY c).run s:=by
 cases c<;>simp only[cY,Rd.row,Rd.run]
 ·rw[d,e];rename_i r b;cases s.rows r with
  |none=>rfl
  | some a=>
    simp only;split<;>(try split)<;>rfl
 ·rw[d,e];rename_i r b i f;cases s.rows r with
  |none=>rfl
  | some a=>
    simp only;split<;>(try split)<;>rfl
 ·rw[d,e];rename_i r b g;cases s.rows r with
  |none=>rfl
  | some a=>
    simp only;split<;>(try split)<;>rfl
def gh{s s':St}(a:s'.rows=s.rows)(b:s'.vs=s.vs): ∀cs:List AV,(eL cs).run s'=(eL cs).run s
 |[]=>rfl
 | c::cs=>by
   simp only[eL,Rd.run_bind,qy a b,gh a b cs];rfl
section
variable {x:ph} {a:Act} {w:World}
theorem nq(b p k:Nat):(⟨b,p,none⟩:Addr).add k=⟨b,p+k,none⟩:=by unfold Addr.add;split<;>simp_all
theorem RV.cut{S:Nat->Nat->Prop}{w:World}{v:Value}{sz lo:Nat}{es:List (List AV)}(h:RV S w v (.seq sz es))(C:lo<=es.length):RV S w (Pl v (lo*sz) lo) (.seq sz (es.drop lo)):=by
 cases h with
 | seq A n k sz es b o u D p t z g y=>
   have d: ∀(i j:Nat)(c:AV),bx (es.drop lo) i j=some c->bx es (i+lo) j=some c:=fun i j c g=>by
    unfold bx at g |-;rw[OS,Ry lo i]at g;exact g
   refine .seq _ (n-lo) (k-lo) sz (es.drop lo) b (o+lo*sz) (fun i j=>u (i+lo) j) (by simp;omega) (by omega) (fun B=> ?_) (fun i e q=>z _ e (by rw[OS]at q;exact q)) (fun i j c f=> ?_) (fun i j c f=>y _ _ _ (d i j c f))
   ·rw[Mv (by omega),t (by omega),NU,nq]
   obtain⟨l,m,s⟩:=g _ _ _ (d i j c f);have r:o+((i+lo)*sz+j)=o+lo*sz+(i*sz+j):=by rw[OX];omega
   rw[r]at l m;exact⟨l,m,s⟩
theorem RL.plain{s:St}{m:lP}{c:AV}{u:Value}(d:RL w m s u c)(b:c.plain=true):RV m.S w u c:=by
 cases d with
 |val h=>exact h
 |agg=>simp[AV.plain]at b
 |tuple=>simp[AV.plain]at b
 |row=>simp[AV.plain]at b
 |loc=>simp[AV.plain]at b
 |mp=>simp[AV.plain]at b
 |sub=>simp[AV.plain]at b
 |clo=>simp[AV.plain]at b
theorem xW{s:St}{m:lP}{c:AV}{y:AV×List Nat}{v:Value}(h:(cY c).run s=some y)(H:dT x s a w m)(k:RL w m s v c):
 ∃S',dT x (ds (iS y.2) s) a w ⟨S',m.ρ⟩/\(∀b o,m.S b o->S' b o)/\RV S' w v y.1:=by
 have plain: ∀ {c:AV},RV m.S w v c->y=(c,[])-> ∃S',dT x (ds (iS y.2) s) a w ⟨S',m.ρ⟩/\(∀b o,m.S b o->S' b o)/\RV S' w v y.1:=fun N e=>by
  subst e;exact⟨m.S,H,fun _ _ h=>h,N⟩
 cases c with
 | row r K=>
   obtain⟨row,l,C,d,h⟩:=dm h;split at h
   ·rename_i E;simp only[Rd.run,Mu]at h;subst h;obtain⟨S',z,A,B⟩:=H.show r row l d E;have:=k.row_.2 C row l;subst this;exact⟨S',z,A,B⟩
   simp[Rd.run]at h
 | loc r K i J=>
   obtain⟨row,l,C,d,h⟩:=dm h;split at h
   ·rename_i E;simp only[Rd.run,Mu]at h;subst h
    obtain⟨S',z,A,_,B⟩:=H.show_ r row l d (fun p j c u D n=>by
     by_cases G:row.pure=true
     ·rw[Mw G]at n;exact n
     ·rw[Mv G]at n;have I:row.es.all (·.all AV.plain)=true:=by simpa[G]using E
      unfold bx at D;cases L:row.es[p]? with
      |none=>rw[L]at D;cases D
      | some e=>
        rw[L]at D;have f:=(NB.1 ((NB.1 I) e (My L))) c (My D);cases n with
        |val h=>exact h
        |agg=>simp[AV.plain]at f
        |tuple=>simp[AV.plain]at f
        |row=>simp[AV.plain]at f
        |loc=>simp[AV.plain]at f
        |mp=>simp[AV.plain]at f
        |sub=>simp[AV.plain]at f
        |clo=>simp[AV.plain]at f)
    obtain⟨g,M,q⟩:=k.loc_.2 C row l;subst q;exact⟨S',z,A,B g M i J⟩
   simp only[Rd.run,Mu]at h;subst h
   obtain⟨S',z,A,_,B⟩:=H.showF AV.soft r row l d (fun p j c u D n=>by
    unfold AV.soft;by_cases f:c.plain=true
    ·rw[Mw f];by_cases G:row.pure=true
     ·rw[Mw G]at n;exact n
     rw[Mv G]at n;exact n.plain f
    rw[Mv f]
    exact .any u)
   obtain⟨g,M,q⟩:=k.loc_.2 C row l;subst q;exact⟨S',z,A,B g M i J⟩
 | sub r K O=>
   obtain⟨row,l,C,d,h⟩:=dm h;split at h
   ·rename_i E;simp only[Rd.run,Mu]at h;subst h;obtain⟨S',z,A,B⟩:=H.show r row l d E.1;have:=k.sub_.2 C row l;subst this;exact⟨S',z,A,B.cut E.2⟩
   simp[Rd.run]at h
 |own=>simp[cY,Rd.run]at h
 |agg=>simp[cY,Rd.run]at h
 |tuple=>simp[cY,Rd.run]at h
 |mp=>simp[cY,Rd.run]at h
 |clo=>simp[cY,Rd.run]at h
 |fmap=>exact plain (by cases k with|val h=>exact h) (by simpa[cY,Rd.run]using h.symm)
 |full=>exact plain (by cases k with|val h=>exact h) (by simpa[cY,Rd.run]using h.symm)
 |news=>exact plain (by cases k with|val h=>exact h) (by simpa[cY,Rd.run]using h.symm)
 |any=>exact plain (.any v) (by simpa[cY,Rd.run]using h.symm)
 |lit u=>exact plain (by cases k with|val h=>exact h) (by simpa[cY,Rd.run]using h.symm)
 |iface t u=>exact plain (by cases k with|val h=>exact h) (by simpa[cY,Rd.run]using h.symm)
 |seq=>exact plain (by cases k with|val h=>exact h) (by simpa[cY,Rd.run]using h.symm)
 |ref=>exact plain (by cases k with|val h=>exact h) (by simpa[cY,Rd.run]using h.symm)
theorem nf: ∀ {cs:List AV}{vs:List Value}{s:St}{m:lP}{y:List AV×List Nat},(eL cs).run s=some y->dT x s a w m->vs.length=cs.length->(∀(i:Nat)(v:Value)(c:AV),vs[i]? =some v->cs[i]? =some c->RL w m s v c)->
 ∃S',dT x (ds (iS y.2) s) a w ⟨S',m.ρ⟩/\(∀b o,m.S b o->S' b o)/\y.1.length=cs.length/\ ∀(i:Nat)(v:Value)(c:AV),vs[i]? =some v->y.1[i]? =some c->RV S' w v c
 | [],vs,s,m,y,h,f,g,j=>by
   simp only[eL,Rd.run,Mu]at h;subst h;exact⟨m.S,f,fun _ _ h=>h,rfl,fun i v c _ D=>by simp at D⟩
 |c::cs,[],s,m,y,h,f,g,j=>by simp at g
 | c::cs,v::vs,s,m,y,h,f,g,j=>by
   simp only[eL]at h;obtain⟨q,B,h⟩:=fI h;obtain⟨I,C,h⟩:=fI h;simp only[Rd.run,Mu]at h;subst h;obtain⟨J,G,t,H⟩:=xW B f (j 0 v c rfl rfl);obtain⟨z,A,_⟩:=cm q.2 s;have l:(eL cs).run (ds (iS q.2) s)=some I:=by rw[<-C];exact gh z A cs
   obtain⟨u,E,r,p3,p4⟩:=nf l G (by simpa using g) (fun i p k e d=>(j (i+1) p k (by simpa using e) (by simpa using d)).shown q.2 t);refine⟨u,by simp only[iS,NC,g8];exact E,fun b o n=>r b o (t b o n),by simp[p3],fun i p k e d=> ?_⟩;cases i with
   | zero=>
     simp only[Nr,Mu]at e d;subst e d;exact H.mono fun b o n=>⟨r b o n, .rfl⟩
   |succ i=>exact p4 i p k (by simpa using e) (by simpa using d)
theorem pC{s:St}{m:lP}{c:AV}{y:AV×List Nat}{v:Value}(h:(fz c).run s=some y)(i:dT x s a w m)(l:RL w m s v c):
 ∃S',dT x (ds (iS y.2) s) a w ⟨S',m.ρ⟩/\(∀b o,m.S b o->S' b o)/\RV S' w v y.1:=by
 cases c with
 | agg t=>
   simp only[fz]at h;obtain⟨z,d,h⟩:=fI h;simp only[Rd.run,Mu]at h;subst h;obtain⟨r,e,k,f,j⟩:=l.agg_;obtain⟨S',n,p,u,q⟩:=nf d i k j;subst e;exact⟨S',n,p, .agg r _ (by omega) f q⟩
 | clo g t=>
   simp only[fz]at h;obtain⟨z,d,h⟩:=fI h;simp only[Rd.run,Mu]at h;subst h;obtain⟨r,e,k,j⟩:=l.clo_;obtain⟨S',n,p,u,q⟩:=nf d i k j;subst e;exact⟨S',n,p, .clo g r _ (by omega) q⟩
 |_=>exact xW (by simpa only[fz]using h) i l
end
def cells_one{v:Value}(h:v.oneCell'=true):v.cells= #[v]:=by
 cases v<;>first|rfl|cases h
def nk{w:World}{m:lP}{s:St}{v:Value}{c:AV}{cs:List AV}(h:c.asCells=some cs)(b:RL w m s v c):
 ∃vs:List Value,v.cells=vs.toArray/\vs.length=cs.length/\(∀v∈vs,v.oneCell'=true)/\ ∀(i:Nat)(v:Value)(c:AV),vs[i]? =some v->cs[i]? =some c->RL w m s v c:=by
 have one:v.oneCell'=true->cs=[c]-> ∃vs:List Value,v.cells=vs.toArray/\vs.length=cs.length/\(∀v∈vs,v.oneCell'=true)/\ ∀(i:Nat)(v:Value)(c:AV),vs[i]? =some v->cs[i]? =some c->RL w m s v c:=fun a e=>by
  subst e;refine⟨[v],by rw[cells_one a],rfl,by simpa using a,fun i C z f k=> ?_⟩;cases i with
  |zero=>simp at f k;subst f k;exact b
  |succ i=>simp at f
 cases c with
 | agg o=>
   simp only[AV.asCells,Mu]at h;subst h;obtain⟨vs,e,y,a,x⟩:=b.agg_;subst e;exact⟨vs,rfl,y,a,x⟩
 |any=>simp[AV.asCells]at h
 |tuple=>simp[AV.asCells]at h
 |own=>simp[AV.asCells]at h
 | lit u=>
   simp only[AV.asCells]at h;split at h
   ·rename_i a;cases h;have:=b.lit_;subst this;exact one a rfl
   cases h
 | iface t u=>
   simp only[AV.asCells,Mu]at h;obtain⟨B,e,_⟩:=b.iface_;exact one (by rw[e];rfl) h.symm
 | seq q l=>
   simp only[AV.asCells,Mu]at h;have d:=b.seq_;exact one (by cases d;rfl) h.symm
 | ref q l i p=>
   simp only[AV.asCells,Mu]at h;have d:=b.ref_;exact one (by cases d;rfl) h.symm
 | row r j=>
   simp only[AV.asCells,Mu]at h;exact one (by cases b with|val h=>cases h|row _ _ a=>exact a) h.symm
 | loc r j i p=>
   simp only[AV.asCells,Mu]at h;exact one (by cases b with|val h=>cases h|loc _ _ _ _ a=>exact a) h.symm
 | mp r j=>
   simp only[AV.asCells,Mu]at h;exact one (by cases b with|val h=>cases h|mp _ _ a=>exact a) h.symm
 | sub r j A=>
   simp only[AV.asCells,Mu]at h;exact one (by cases b with|val h=>cases h|sub _ _ _ a=>exact a) h.symm
 | clo g o=>
   simp only[AV.asCells,Mu]at h;obtain⟨vs,e,_⟩:=b.clo_;exact one (by rw[e];rfl) h.symm
 | fmap l=>
   simp only[AV.asCells,Mu]at h;have d:=b.fmap_;exact one (by cases d;rfl) h.symm
 | full q l=>
   simp only[AV.asCells,Mu]at h;have d:=b.full_;exact one (by cases d;rfl) h.symm
 | news n q l=>
   simp only[AV.asCells,Mu]at h;have d:=b.news_;exact one (by cases d;rfl) h.symm
def RV.rl{w:World}{m:lP}{s:St}{v:Value}{c:AV}(h:RV m.S w v c):RL w m s v c:= .val h
def uV{S:Nat->Nat->Prop}{w:World}{v:Value}{c:AV}{cs:List AV}(h:c.asCells=some cs)(N:RV S w v c):
 ∃vs:List Value,v.cells=vs.toArray/\vs.length=cs.length/\(∀v∈vs,v.oneCell'=true)/\ ∀(i:Nat)(v:Value)(c:AV),vs[i]? =some v->cs[i]? =some c->RV S w v c:=by
 cases N with
 |any=>simp[AV.asCells]at h
 |tuple=>simp[AV.asCells]at h
 | agg vs B E z p=>
   simp only[AV.asCells,Mu]at h;subst h;exact⟨vs,rfl,E,z,p⟩
 | lit u=>
   simp only[AV.asCells]at h;split at h
   ·rename_i z;cases h;refine⟨[v],by rw[cells_one z],rfl,by simpa using z,fun i q j a d=> ?_⟩;cases i with
    |zero=>simp at a d;subst a d;exact .lit v
    |succ i=>simp at a
   cases h
 | iface t u j M=>
   simp only[AV.asCells,Mu]at h;subst h;refine⟨[.iface t u],rfl,rfl,by simp[Value.oneCell'],fun i q j a d=> ?_⟩;cases i with
   |zero=>simp at a d;subst a d;exact .iface t u _ M
   |succ i=>simp at a
 | seq A n e l f b o u G s C x p H=>
   simp only[AV.asCells,Mu]at h;subst h;refine⟨[.slice A n e],rfl,rfl,by simp[Value.oneCell'],fun i q j a d=> ?_⟩;cases i with
   |zero=>simp at a d;subst a d;exact .seq A n e l f b o u G s C x p H
   |succ i=>simp at a
 | ref l f i y b o u x p H=>
   simp only[AV.asCells,Mu]at h;subst h;refine⟨[.pointer (some ⟨b,o+(i*l+y),none⟩)],rfl,rfl,by simp[Value.oneCell'],fun i q j a d=> ?_⟩;cases i with
   |zero=>simp at a d;subst a d;exact .ref l f _ y b o u x p H
   |succ i=>simp at a
 | clo g vs B E p=>
   simp only[AV.asCells,Mu]at h;subst h;refine⟨[.func (.func g) #[] vs.toArray],rfl,rfl,by simp[Value.oneCell'],fun i q j a d=> ?_⟩;cases i with
   |zero=>simp at a d;subst a d;exact .clo g vs _ E p
   |succ i=>simp at a
 | fmap g r m f J K G x L I=>
   simp only[AV.asCells,Mu]at h;subst h;refine⟨[.map (some g)],rfl,rfl,by simp[Value.oneCell'],fun i q j a d=> ?_⟩;cases i with
   |zero=>simp at a d;subst a d;exact .fmap g r m f J K G x L I
   |succ i=>simp at a
 | full A n l f D=>
   simp only[AV.asCells,Mu]at h;subst h;refine⟨[.slice A n n],rfl,rfl,by simp[Value.oneCell'],fun i q j a d=> ?_⟩;cases i with
   |zero=>simp at a d;subst a d;exact .full A n l f D
   |succ i=>simp at a
 | news A n k e l f C D=>
   simp only[AV.asCells,Mu]at h;subst h;refine⟨[.slice A k e],rfl,rfl,by simp[Value.oneCell'],fun i q j a d=> ?_⟩;cases i with
   |zero=>simp at a d;subst a d;exact .news A n k e l f C D
   |succ i=>simp at a
section
variable {P:Program} {x:ph} {s:St} {a:Act} {w:World} {m:lP} {o:Oper} {out:Out}
theorem kK{t:TypeId}{g p:Nat}{e:TypeId}{b:Array Value}{v:Value}{vs:List Value}(w:World)(k:w.heap[g]? =some (.cells b e (0,0)))(n:v.cells=vs.toArray)(f:(P.info? t).map (·.size)=some vs.length)(c:p+vs.length<=b.size)(j: ∀v∈vs,v.oneCell'=true):
 (Instr.storeAt t (.pointer (some ⟨g,p,none⟩)) v).run P w= .ok () (w.setRow g (b.toList.take p++vs++b.toList.drop (p+vs.length)).toArray):=by
 have d:=Rn P g p e vs 0 b w k (by simpa using c) j;cases h:P.info? t with
 |none=>rw[h]at f;cases f
 | some i=>
   rw[h]at f;have l:vs.length=i.size:=by simpa using f.symm
   simp only[PP]at d;simp[Instr.storeAt,Instr.sureAddr,storeVar,sizeOf,typeInfo,h,n,l,d]
theorem AP{t:TypeId}{y z:Operand}(U:o.op= .store t y z)(K:dT x s a w m)(h:(ae P x.env s.f o).run s=some out):dh P x s a w o out:=by
 have hy:=ao K y;have hz:=ao K z;unfold ae at h;simp only[U]at h;unfold pd at h;split at h
 ·rename_i r ver i H d e1 hd;rw[e1]at hy;obtain⟨C,A,G,E,h⟩:=dm h;obtain⟨g,Z,D⟩:=hy.loc_.2 G C A;obtain⟨k,n,zz⟩:=d;obtain⟨td,hu,hk,hn⟩:=wS hd;simp only[Rd.run]at h;cases l:s.esc r with
  |true=>rw[l]at h;simp[Rd.run]at h
  | false=>
    rw[l]at h;simp only[NW,OB]at h;cases L:C.es[i]? with
    |none=>rw[L]at h;simp[Rd.run]at h
    | some e=>
      rw[L]at h;simp only at h;split at h
      ·rename_i V;obtain⟨q,hq,h⟩:=fI h;cases b:q.1.asCells with
       |none=>rw[b]at h;simp[Rd.run]at h
       | some Q=>
         rw[b]at h;simp only at h;split at h
         ·rename_i f;obtain⟨u,p,T⟩:=f;simp only[Rd.run,Mu]at h;subst h;obtain⟨S',q1,q2,q3⟩:=pC hq K hz;obtain⟨W,X,I,J,Y⟩:=uV b q3;obtain⟨er,ev,_⟩:=cm q.2 s;obtain⟨R,M,N,O⟩:=q1.store r C (by rw[er];exact A) E (by rw[G5 _ _ _ T];exact l) i H e L Q W I p J (fun j v c D S=>by rw[Mw V];exact Y j v c D S) g Z;have B:=kK (P:=P) (t:=t) w M X (by rw[hn,I];simp[u]) N J;refine⟨.skip,_,_,undef,?_, .inr ⟨rfl,rfl⟩,by rw[g8];exact O, .val (.any _)⟩;unfold execOp;simp only[U,D,N2,B,NR,Nq]
         simp[Rd.run]at h
      ·rename_i V;cases b:(gt x.env s.f z).asCells with
       |none=>rw[b]at h;simp[Rd.run]at h
       | some Q=>
         rw[b]at h;simp only at h;split at h
         ·rename_i f;obtain⟨u,p⟩:=f;simp only[Rd.run,Mu]at h;subst h;obtain⟨W,X,I,J,Y⟩:=nk b hz;obtain⟨R,M,N,O⟩:=K.store r C A E l i H e L Q W I p J (fun j v c D S=>by rw[Mv V];exact Y j v c D S) g Z;have B:=kK (P:=P) (t:=t) w M X (by rw[hn,I];simp[u]) N J;refine⟨.skip,_,_,undef,?_, .inr ⟨rfl,rfl⟩,O, .val (.any _)⟩;unfold execOp;simp only[U,D,N2,B,NR,Nq]
         simp[Rd.run]at h
 simp[Rd.run]at h
end
end
section
section
variable {P:Program} {x:ph} {s:St} {a:Act} {w:World} {m:lP} {o:Oper} {out:Out}
theorem K0{d:Option Nat}{t:TypeId}{cs:List AV}{vs:List Value}(q:dT x s a w m)(h:(mO d t cs).run s=some out)(n:vs.length=cs.length)(p: ∀v∈vs,v.oneCell'=true)
 (r: ∀(i:Nat)(v:Value)(c:AV),vs[i]? =some v->cs[i]? =some c->RL w m s v c):
 ∃m',dT x (ds out.Z3 s) a (w.alloc (.cells vs.toArray t)) m'/\RL (w.alloc (.cells vs.toArray t)) m' (ds out.Z3 s) (.pointer (some ⟨w.heap.size,0,none⟩)) out.val:=by
 unfold mO at h;cases d with
 |none=>simp[Rd.run]at h
 | some d=>
   simp only at h;split at h
   ·rename_i f;simp only[Rd.run,Mu]at h;subst h
    have g:=q.newRow d ⟨cs.length,[cs],t,false⟩ vs f (by simp[maxLen]) (fun i e k=>by
     cases i with
     |zero=>simp at k;rw[<-k]
     |succ i=>simp at k) (by simpa using n) p (fun i j c b=>by
     unfold bx at b;cases i with
     | zero=>
       have b:cs[j]? =some c:=by simpa using b
       have l:j<vs.length:=by rw[n];exact(Mt.1 b).1
       exact⟨vs[j],by simp[Ms l],by simpa using r j _ c (Ms l) b⟩
     |succ i=>simp at b)
    refine⟨_,g, .loc d (s.vs d+1) 0 0 rfl (by simp[ds,va.app,St.renew,aw]) fun _ u y=>⟨w.heap.size,by simp[aw,Value.ownBlock],by simp⟩⟩
   simp[Rd.run]at h
theorem AY{t:TypeId}(l:o.op= .alloc t)(p:dT x s a w m)(h:(ae P x.env s.f o).run s=some out):dh P x s a w o out:=by
 unfold ae at h;simp only[l]at h;cases e:ef P t with
 |none=>rw[e]at h;simp[Rd.run]at h
 | some d=>
   rw[e]at h;simp only at h;split at h
   ·rename_i r;obtain⟨i,E,z,q,D,k,B,C,j⟩:=gU e;have n: ∀v∈d.zero,v.oneCell'=true:=fun v f=>(NB.1 r.2) v f
    obtain⟨u,y,A⟩:=K0 p h (vs:=d.zero) (by simp) n (fun i v c f b=>by
     rw[NE,f]at b;simp only[NU,Mu]at b;subst b
     exact .val (.lit v))
    refine⟨_,_,u,_,?_, .inl rfl,y,A⟩;have g:z.cells=d.zero.toArray:=by rw[<-j]
    unfold execOp;simp[l,Instr.alloc,zeroValue,typeInfo,q,k,newVar,newRow,g]
   simp[Rd.run]at h
theorem GZ{t:TypeId}{y:Operand}(d:o.op= .box t y)(c:dT x s a w m)(h:(ae P x.env s.f o).run s=some out):dh P x s a w o out:=by
 have e:=ao c y;unfold ae at h;simp only[d]at h;obtain⟨p,b,h⟩:=gC h;obtain⟨q,j,k,l,n⟩:=nk b e;obtain⟨f,g,i⟩:=K0 c h k l n;refine⟨_,_,f,_,?_, .inl rfl,g,i⟩;unfold execOp;simp[d,Instr.box,newVar,newRow,j]
/-! Parts -/
theorem AO{b:Type}(l:List b)(p:Nat)(v:b)(vs:List b)(h:p+(vs.length+1)<=l.length):ew (l.set p v) (p+1) vs=ew l p (v::vs):=by
 apply Nv;intro k;rw[bu _ _ _ (by simp;omega),bu _ _ _ (by simp;omega)];simp only[NQ];by_cases c:k<p
 ·rw[Mw (by omega),Mw c,Pz (by omega)]
 by_cases e:k=p
 ·subst e;rw[Mw (by omega),Mv (by omega),Mw (by omega),QP (by omega)];simp
 rw[Mv (by omega),Mv c];by_cases d:k<p+1+vs.length
 ·rw[Mw d,Mw (by omega),show k-p=(k-(p+1))+1 by omega,Of]
 rw[Mv d,Mv (by omega),Pz (by omega)]
theorem Cq{b:Type}(l:List b)(p:Nat)(_h:p<=l.length):ew l p ([]:List b)=l:=by
 simp[ew]
theorem oQ(off:Nat): ∀(vs:List Value)(k:Nat)(b:Array Value),off+k+vs.length<=b.size->(vs.zipIdx k).foldl (fun(cs:Array Value) p=>cs.setIfInBounds (off+p.2) p.1) b=(ew b.toList (off+k) vs).toArray
 |[],k,b,h=>by simp[Cq _ _ (show off+k<=b.toList.length by simpa using h)]
 | v::vs,k,b,h=>by
   simp only[List.zipIdx_cons,R4];rw[oQ off vs (k+1) _ (by simp at h |-;omega)];simp only[Array.toList_setIfInBounds];rw[show off+(k+1)=off+k+1 by omega,AO _ _ _ _ (by simp at h |-;omega)]
theorem xd{b:Nat->Option (Nat×Nat)}{l vs:List Value}{i off size:Nat}{v:Value}{c:List (Nat×Value)}(k:b i=some (off,size))(e:v.cells=vs.toArray)(j:vs.length=size)(d:off+vs.length<=l.length):
 Instr.fill b l.toArray ((i,v)::c)=Instr.fill b (ew l off vs).toArray c:=by
 have g:(decide (v.cells.size≠size)||decide (off+v.cells.size>l.toArray.size))=false:=by
  rw[e];simp[j];omega
 have h:Array.foldl (fun(f:Array Value)(p:Value×Nat)=>f.setIfInBounds (off+p.2) p.1) l.toArray v.cells.zipIdx=(ew l off vs).toArray:=by
  rw[e];have:=oQ off vs 0 l.toArray (by simpa using d);simpa[Rh]using this
 simp only[Instr.fill,k,h];rw[Mv (by simpa using g)]
theorem xf{R:Value->AV->Prop}(I: ∀ {v:Value}{c:AV}{cs:List AV},c.asCells=some cs->R v c-> ∃vs:List Value,v.cells=vs.toArray/\vs.length=cs.length/\(∀v∈vs,v.oneCell'=true)/\ ∀(i:Nat)(v:Value)(c:AV),vs[i]? =some v->cs[i]? =some c->R v c)
 (D:List (Nat×TypeId×Nat))(d:Nat->Option (Nat×Nat))(J: ∀(i off:Nat)(t:TypeId)(n:Nat),D[i]? =some (off,t,n)->d i=some (off,n)):
 ∀(ps:List (Nat×AV))(pv:List (Nat×Value))(cs:List AV)(l:List Value)(cs':List AV),me D cs ps=some cs'->pv.map (·.1)=ps.map (·.1)->(∀(i:Nat)(p:Nat×Value)(q:Nat×AV),pv[i]? =some p->ps[i]? =some q->R p.2 q.2)->
  l.length=cs.length->(∀v∈l,v.oneCell'=true)->(∀(i:Nat)(v:Value)(c:AV),l[i]? =some v->cs[i]? =some c->R v c)->
  ∃r:List Value,Instr.fill d l.toArray pv=some r.toArray/\r.length=cs'.length/\(∀v∈r,v.oneCell'=true)/\ ∀(i:Nat)(v:Value)(c:AV),r[i]? =some v->cs'[i]? =some c->R v c
 | [],pv,cs,l,cs',h,g,_,C,z,A=>by
   have:pv=[]:=by simpa using g
   subst this;simp only[me,Mu]at h;subst h;exact⟨l,rfl,C,z,A⟩
 |(i,y)::ps,[],cs,l,cs',h,g,_,C,z,A=>by simp at g
 |(i,y)::ps,(j,v)::pv,cs,l,cs',h,g,B,C,z,A=>by
   simp only[Nh,PZ]at g;obtain⟨rfl,g⟩:=g;simp only[me]at h;split at h
   ·rename_i off Q n M N O;split at h
    ·rename_i S;obtain⟨T,E⟩:=S;obtain⟨vs,Y,w2,Z,w4⟩:=I O (B 0 (j,v) (j,y) rfl rfl);have e:off+vs.length<=l.length:=by omega
     have f:off+M.length<=cs.length:=E
     obtain⟨r,U,V,W,X⟩:=xf I D d J ps pv (ew cs off M) (ew l off vs) cs' h g (fun i p q G H=>B (i+1) p q (by simpa using G) (by simpa using H)) (by rw[dP _ _ _ e,dP _ _ _ f,C])
      (fun u hu=>by
       simp only[ew,N1]at hu;rcases hu with(hu|hu)|hu
       ·exact z u (Ot hu)
       ·exact Z u hu
       exact z u (P6 hu))
      (fun k u c hu b=>by
       rw[bu _ _ _ e]at hu;rw[bu _ _ _ f]at b;by_cases K:k<off
       ·rw[Mw K]at hu b;exact A k u c hu b
       rw[Mv K]at hu b;by_cases L:k<off+vs.length
       ·rw[Mw L]at hu;rw[Mw (by omega)]at b;exact w4 _ u c hu b
       rw[Mv L]at hu;rw[Mv (by omega)]at b
       exact A k u c hu b)
     exact⟨r,by rw[xd (J j off Q n N) Y (by omega) e];exact U,V,W,X⟩
    cases h
   cases h
theorem xD: ∀(b:List Field)(c:List (Nat×TypeId×Nat)),b.mapM (fun f=>(P.info? f.type).map fun i=>(f.offset,f.type,i.size))=some c->b.mapM (fun f=>(P.info? f.type).map fun i=>(f.offset,i.size))=some (c.map fun q=>(q.1,q.2.2))
 |[],c,h=>by simp at h;subst h;simp
 | f::b,c,h=>by
   simp only[Q2,Qd,QS]at h |-;cases e:P.info? f.type with
   |none=>simp[e]at h
   | some g=>
     cases d:b.mapM (fun f=>(P.info? f.type).map fun i=>(f.offset,f.type,i.size)) with
     |none=>simp[e,d]at h
     | some r=>
       simp[e,d]at h;subst h;rw[xD b r d];rfl
theorem AW{t:TypeId}{b:Array (Nat×Operand)}(I:o.op= .build t b)(E:dT x s a w m)(h:(ae P x.env s.f o).run s=some out):dh P x s a w o out:=by
 unfold ae at h;simp only[I]at h;split at h
 ·rename_i k eq n z H;split at h
  ·rename_i U;obtain⟨V,A⟩:=U;obtain⟨D,N,h⟩:=gC h;obtain rfl:=bG h;obtain⟨i,td,J,Q,T,B,hk,hs,e⟩:=gU H;obtain⟨f,S,r,_⟩:=eF H;have l:=xD (P:=P) f.toList k r;have e:J.cells.toList=z:=e
   have d:=xf (R:=RL w m s) (fun K L=>nk K L) k (fun i=>(k.map fun q=>(q.1,q.2.2)).toArray[i]?) (fun i W t n O=>by simp[O]) _ (b.toList.map fun p=>(p.1,a.eval p.2)) _ z D N (by simp) (fun i p q g u=>by
    rw[NE]at g u;cases j:b.toList[i]? with
    |none=>rw[j]at g;cases g
    | some X=>
      rw[j]at g u;cases g;cases u;exact ao E X.2) (by simp) (fun v y=>(NB.1 A) v y) (fun i v c y G=>by
    rw[NE,y]at G;cases G
    exact .val (.lit v))
   obtain⟨C,Y,Z,r3,r4⟩:=d
   have M:P.built t (b.map fun(i,x)=>(i,a.eval x)).toList=some C.toArray:=by
    unfold Program.built;rw[Q,S];simp only[B,l];rw[show J.cells=z.toArray by simp[<-e]];simpa using Y
   refine .same E (v:= .agg C.toArray) ?_ rfl (.agg C D Z r3 r4);unfold execOp;simp only[I,N2,run_build w t _ _ M,NR,Nq]
  simp[Rd.run]at h
 simp[Rd.run]at h
end
end
section
def ME{k:Nat}(h:k=0)(f:Nat->Value):(Array.range k).map f= #[]:=by
 subst h;apply Array.ext<;>simp
structure x0(S:Nat->Nat->Prop)(w:World)(sz:Nat)(l:List Value)(es:List (List AV)):Prop where
 len:l.length=es.length*sz
 one: ∀v∈l,v.oneCell'=true
 ZS: ∀(i:Nat)(e:List AV),es[i]? =some e->e.length=sz
 cell: ∀(i j:Nat)(c:AV),bx es i j=some c-> ∃u,l[i*sz+j]? =some u/\RV S w u c
def x0.mono{S S':Nat->Nat->Prop}{w a:World}{sz:Nat}{l:List Value}{es:List (List AV)}(h:x0 S w sz l es)(f: ∀b o,S b o->S' b o/\l5 w a b o):x0 S' a sz l es:=
 ⟨h.len,h.one,h.ZS,fun i j c g=>by obtain⟨u,d,e⟩:=h.cell i j c g;exact⟨u,d,e.mono f⟩⟩
def x0.rep{S:Nat->Nat->Prop}{w:World}{sz:Nat}{a:List Value}(n:Nat)(l:a.length=sz)(q: ∀v∈a,v.oneCell'=true)(f:0<sz):
 x0 S w sz ((Array.range (n*sz)).map (a.toArray[· % a.toArray.size]!)).toList (List.replicate n (a.map .lit)):=by
 have d: ∀k,k<n*sz->(((Array.range (n*sz)).map (a.toArray[· % a.toArray.size]!)).toList)[k]? =some (a.getD (k%sz) undef):=fun k h=>by
  have o:k%sz<a.length:=by rw[l];exact Qm _ f
  simp[h,l];rw[Ms o];simp
 refine⟨by simp,fun v s=> ?_,fun i e g=> ?_,fun i j c b=> ?_⟩
 ·obtain⟨k,h,rfl⟩:=O1 s;have m:k<n*sz:=by simpa using h
  have:=d k m;rw[Ms h]at this;injection this with this
  rw[this];have o:k%sz<a.length:=by rw[l];exact Qm _ f
  simp only[List.getD,Ms o,OJ];exact q _ (Oo _)
 ·rw[Pm]at g;split at g
  ·cases g;simpa using l
  cases g
 unfold bx at b;rw[Pm]at b;split at b
 ·rename_i r;have b:(a.map AV.lit)[j]? =some c:=b;have p:j<sz:=by have:=(Mt.1 b).1;simp at this;omega
  rw[NE]at b;refine⟨a.getD j undef,?_,?_⟩
  ·rw[d _ (kh r p),Ph i sz,Nat.mul_add_mod,RD p]
  rw[Ms (by omega)]at b;simp only[NU,Mu]at b;subst b;simp only[List.getD,Ms (show j<a.length by omega),OJ];exact .lit _
 cases b
def x0.set{S:Nat->Nat->Prop}{w:World}{sz:Nat}{l:List Value}{es:List (List AV)}(h:x0 S w sz l es)(i:Nat)(hi:i<es.length)(m:List AV)(vs:List Value)(y:m.length=sz)(q:vs.length=sz)(t: ∀v∈vs,v.oneCell'=true)
 (x: ∀(j:Nat)(v:Value)(c:AV),vs[j]? =some v->m[j]? =some c->RV S w v c):i*sz+vs.length<=l.length/\x0 S w sz (ew l (i*sz) vs) (es.set i m):=by
 have b:i*sz+vs.length<=l.length:=by
  have:(i+1)*sz<=es.length*sz:=Ni _ hi;rw[OX,P5]at this;rw[h.len,q];exact this
 have k: ∀(p:Nat)(e:List AV),(es.set i m)[p]? =some e->e.length=sz:=fun p e hp=>by
  rw[O0]at hp;by_cases n:i=p
  ·rw[Mw n,Mw hi]at hp;cases hp;exact y
  rw[Mv n]at hp;exact h.ZS p e hp
 refine⟨b,by rw[dP _ _ _ b,h.len];simp,fun u hu=> ?_,k,fun p j c a=> ?_⟩
 ·simp only[ew,N1]at hu;rcases hu with(hu|hu)|hu
  ·exact h.one u (Ot hu)
  ·exact t u hu
  exact h.one u (P6 hu)
 have f:=eN k a;simp only[PG]at f;rw[bu _ _ _ b];by_cases g:p=i
 ·subst g
  have d:m[j]? =some c:=by
   unfold bx at a;rw[QP hi]at a;exact a
  have o:j<vs.length:=by rw[q];exact f.2
  refine⟨vs[j],?_,x j _ c (Ms o) d⟩;rw[Mv (by omega),Mw (by omega),show p*sz+j-p*sz=j by omega,Ms o]
 have d:bx es p j=some c:=by
  unfold bx at a |-;rw[Pz (Oq g)]at a;exact a
 obtain⟨u,s,z⟩:=h.cell p j c d;refine⟨u,?_,z⟩;by_cases r:p*sz+j<i*sz
 ·rw[Mw r];exact s
 rw[Mv r,Mv ?_]
 ·exact s
 intro A;rcases P8 p i with hp|hp
 ·have:(p+1)*sz<=i*sz:=Ni _ hp;rw[OX,P5]at this;omega
 have:(i+1)*sz<=p*sz:=Ni _ (by omega);rw[OX,P5]at this;omega
def xe{S:Nat->Nat->Prop}{w:World}{sz:Nat} : ∀(ps:List (Nat×AV))(pv:List (Nat×Value))(es:List (List AV))(l:List Value)(a:List (List AV)),jJ sz es ps=some a->pv.map (·.1)=ps.map (·.1)->
 (∀(i:Nat)(p:Nat×Value)(q:Nat×AV),pv[i]? =some p->ps[i]? =some q->RV S w p.2 q.2)->x0 S w sz l es->
 ∃g:List Value,Instr.fill (fun i=>some (i*sz,sz)) l.toArray pv=some g.toArray/\x0 S w sz g a
 | [],pv,es,l,a,h,b,_,f=>by
   have:pv=[]:=by simpa using b
   subst this;simp only[jJ,Mu]at h;subst h;exact⟨l,rfl,f⟩
 |(i,y)::ps,[],es,l,a,h,b,_,f=>by simp at b
 |(i,y)::ps,(j,v)::pv,es,l,a,h,b,e,f=>by
   simp only[Nh,PZ]at b;obtain⟨rfl,b⟩:=b;simp only[jJ]at h;cases c:y.asCells with
   |none=>rw[c]at h;cases h
   | some C=>
     rw[c]at h;simp only at h;split at h
     ·rename_i s;obtain⟨m,n⟩:=s;obtain⟨x,z,D,A,B⟩:=uV c (e 0 (j,v) (j,y) rfl rfl);obtain⟨d,k⟩:=f.set j n C x m (by omega) A B;obtain⟨g,t,u⟩:=xe ps pv _ _ a h b (fun i p q o r=>e (i+1) p q (by simpa using o) (by simpa using r)) k;exact⟨g,by rw[xd (off:=j*sz) rfl z (by omega) d];exact t,u⟩
     cases h
section
variable {x:ph} {a:Act} {w:World}
theorem tl{s s':St}(b:s'.rows=s.rows)(d:s'.vs=s.vs)(c:AV):(fz c).run s'=(fz c).run s:=by
 cases c with
 | agg e=>
   simp only[fz,Rd.run_bind,gh b d];rfl
 | clo g e=>
   simp only[fz,Rd.run_bind,gh b d];rfl
 | _=>
   simp only[fz];exact qy b d
theorem oP{s s':St}(b:s'.rows=s.rows)(d:s'.vs=s.vs): ∀ps:List (Nat×AV),(eK ps).run s'=(eK ps).run s
 |[]=>rfl
 |(i,c)::ps=>by
   simp only[eK,Rd.run_bind,tl b d,oP b d ps];rfl
theorem tm: ∀ {ps:List (Nat×AV)}{pv:List (Nat×Value)}{s:St}{m:lP}{y:List (Nat×AV)×List Nat},(eK ps).run s=some y->dT x s a w m->pv.map (·.1)=ps.map (·.1)->
 (∀(i:Nat)(p:Nat×Value)(q:Nat×AV),pv[i]? =some p->ps[i]? =some q->RL w m s p.2 q.2)->
 ∃S',dT x (ds (iS y.2) s) a w ⟨S',m.ρ⟩/\(∀b o,m.S b o->S' b o)/\pv.map (·.1)=y.1.map (·.1)/\ ∀(i:Nat)(p:Nat×Value)(q:Nat×AV),pv[i]? =some p->y.1[i]? =some q->RV S' w p.2 q.2
 | [],pv,s,m,y,h,l,d,_=>by
   have:pv=[]:=by simpa using d
   subst this;simp only[eK,Rd.run,Mu]at h;subst h;exact⟨m.S,l,fun _ _ h=>h,rfl,fun i p q e _=>by simp at e⟩
 |(i,c)::ps,[],s,m,y,h,l,d,_=>by simp at d
 |(i,c)::ps,(j,v)::pv,s,m,y,h,l,d,f=>by
   simp only[Nh,PZ]at d;obtain⟨rfl,d⟩:=d;simp only[eK]at h;obtain⟨t,D,h⟩:=fI h;obtain⟨J,E,h⟩:=fI h;simp only[Rd.run,Mu]at h;subst h;obtain⟨K,H,z,I⟩:=pC D l (f 0 (j,v) (j,c) rfl rfl);obtain⟨B,C,_⟩:=cm t.2 s;have n:(eK ps).run (ds (iS t.2) s)=some J:=by rw[<-E];exact oP B C ps
   obtain⟨A,G,u,p3,p4⟩:=tm n H d (fun i p q e g=>(f (i+1) p q (by simpa using e) (by simpa using g)).shown t.2 z);refine⟨A,by simp only[iS,NC,g8];exact G,fun b o r=>u b o (z b o r),by simp[p3],fun k p q e g=> ?_⟩;cases k with
   | zero=>
     simp only[Nr,Mu]at e g;subst e g;exact I.mono fun b o r=>⟨u b o r, .rfl⟩
   |succ k=>exact p4 k p q (by simpa using e) (by simpa using g)
end
section
variable {P:Program} {x:ph} {s:St} {a:Act} {w:World} {m:lP} {o:Oper} {out:Out}
theorem qk{d:Nat}{e:TypeId}{sz:Nat}{es:List (List AV)}{l:List Value}(p:dT x s a w m)(f:0<sz)(b:es.length<=maxLen)(g:x0 m.S w sz l es):
 ∃m',dT x (ds [.renew d ⟨sz,es,e,true⟩] s) a (w.alloc (.cells l.toArray e)) m'/\RL (w.alloc (.cells l.toArray e)) m' (ds [.renew d ⟨sz,es,e,true⟩] s) (.slice (some ⟨w.heap.size,0,none⟩) es.length es.length) (.row d (s.vs d+1)):=by
 have h:=p.newRow d ⟨sz,es,e,true⟩ l f b g.ZS g.len g.one (fun i j c q=>by
  obtain⟨u,k,n⟩:=g.cell i j c q
  exact⟨u,k,by simpa using n⟩)
 exact⟨_,h, .row d (s.vs d+1) rfl (by simp[ds,va.app,St.renew,aw]) fun _ r t=>by simp[aw]⟩
theorem pR{t:TypeId}{n:Nat}{c:Array (Nat×Operand)}(W:o.op= .buildSlice t n c)(R:dT x s a w m)(h:(ae P x.env s.f o).run s=some out):dh P x s a w o out:=by
 unfold ae at h;simp only[W]at h;split at h
 ·rename_i e b eb l n' z' d hd U;split at h
  ·rename_i hc;obtain⟨K,g,L,T⟩:=hc;have G: ∀v∈l,v.oneCell'=true:=fun v hv=>(NB.1 L) v hv;obtain⟨q,E,h⟩:=fI h;obtain⟨r,V,h⟩:=gC h;simp only[Rd.run,Mu]at h;subst h;obtain⟨hu,ie,Z,X,i2,i3,i4,i5⟩:=bH hd
   obtain⟨S',q1,q2,q3,q4⟩:=tm (pv:=c.toList.map fun p=>(p.1,a.eval p.2)) E R (by simp) (fun i p q C E=>by
    rw[NE]at C E;cases D:c.toList[i]? with
    |none=>rw[D]at C;cases C
    | some pp=>
      rw[D]at C E;cases C;cases E
      exact ao R pp.2)
   obtain⟨Y,O,r2⟩:=xe (S:=S') (w:=w) (sz:=b) q.1 (c.toList.map fun p=>(p.1,a.eval p.2)) _ _ r V q3 q4 (x0.rep n K G g);obtain⟨e1,e2,_⟩:=cm q.2 s
   have f:r.length=n:=by
    have: ∀(H:List (Nat×AV))(r j:List (List AV)),jJ b r H=some j->j.length=r.length:=by
     intro H
     induction H with
     |nil=>intro r j h;simp only[jJ,Mu]at h;rw[h]
     | cons p H ih=>
       intro r j h;obtain⟨i,y⟩:=p;simp only[jJ]at h;split at h
       ·split at h
        ·rw[ih _ _ h];simp
        cases h
       cases h
    rw[this _ _ _ V];simp
   have hnm:n<=16777216:=by
    rcases P8 16777216 n with B|B
    ·have:n*1<=n*b:=Nat.mul_le_mul_left _ g;omega
    exact B
   obtain⟨m',p1,p2⟩:=qk (d:=d) (e:=e) q1 g (by rw[f];unfold maxLen;omega) r2;refine⟨_,_,m',_,?_, .inl rfl,by rw[g8];exact p1,by rw[g8];have:=p2;rw[e2]at this;exact this⟩;have M:Z.cells=l.toArray:=by simp[<-i5]
   have hs:(sizeOf e).run P w= .ok b w:=by simp[sizeOf,typeInfo,X,i3]
   have N:(zeroValue e).run P w= .ok Z w:=by simp[zeroValue,typeInfo,X,i2]
   have u: ¬(n*b>2^24):=by omega
   have k:((Array.range (n*b)).map (l.toArray[· % l.toArray.size]!))=((Array.range (n*b)).map (l.toArray[· % l.toArray.size]!)).toList.toArray:=Nz.symm;unfold execOp;simp only[W,Instr.buildSlice,N2,NO hu,NR,hs,Sem.run_ite,Mv u];by_cases I:n*b=0
   ·have J:n=0:=by
     rcases Nat.mul_eq_zero.1 I with B|B
     ·exact B
     omega
    subst J;have Q: ∀z:Array Value,((Array.range (0*b)).map (z[· % z.size]!))= #[]:=fun z=>ME (Pr _) _;rw[Q]at O
    have A:Instr.fill (fun i=>some (i*b,b)) #[] (c.map fun(i,x)=>(i,a.eval x)).toList=some Y.toArray:=by
     simpa using O
    simp only[Mw I,Nq,NR,Q,A];simp[newRow,f]
   have A:Instr.fill (fun i=>some (i*b,b)) ((Array.range (n*b)).map (l.toArray[· % l.toArray.size]!)) (c.map fun(i,x)=>(i,a.eval x)).toList=some Y.toArray:=by
    rw[k];simpa using O
   simp only[Mv I,N,N2,NR,Nq,M,A];simp[newRow,f]
  simp[Rd.run]at h
 simp[Rd.run]at h
theorem lK{t:TypeId}{y:Operand}(f:o.op= .makeInterface t y)(c:dT x s a w m)(h:(ae P x.env s.f o).run s=some out):dh P x s a w o out:=by
 have p:=ao c y;unfold ae at h;simp only[f]at h;split at h
 ·simp[Rd.run]at h
 ·rename_i d b g;obtain⟨B,v,D,i,l,_,e,_⟩:=gU g;obtain⟨q,j,h⟩:=fI h;simp only[Rd.run,Mu]at h;subst h;obtain⟨A,r,C,u⟩:=pC j c p;refine⟨_,w,_, .iface t (a.eval y),?_, .inl rfl,r, .val (.iface t _ _ u)⟩;unfold execOp;obtain⟨k,n,z⟩:=d
  cases v<;>first
   |(simp only[rp,Mu]at e;exact absurd (by rw[<-e]) (b _ _))
   |simp[f,Instr.makeInterface,NO l]
 simp[Rd.run]at h
end
end
section
section
variable {P:Program} {x:ph} {s:St} {a:Act} {w:World} {m:lP} {o:Oper} {out:Out}
def u4(w:World)(m:lP)(s:St):Option Value->Option AV->Prop
 |none,none=>True
 |some u,some c=>RL w m s u c
 |_,_=>False
theorem pL{g:World}{m':lP}{s':St}{l d k:Nat}{y:Option AV}{v:Option Value}(h:ur l d y=some k)(b:u4 g m' s' v y):
 (y=none/\v=none/\k=d)\/ ∃e i,v=some (.int e i)/\0<=i/\i<=l/\k=i.toNat:=by
 cases y with
 | none=>
   cases v with
   |none=>simp only[ur,Mu]at h;exact .inl ⟨rfl,rfl,h.symm⟩
   |some u=>exact b.elim
 | some c=>
   cases v with
   |none=>exact b.elim
   | some u=>
     have b:RL g m' s' u c:=b;cases c with
     | lit val=>
       have:=b.lit_;subst this;cases u with
       | int e i=>
         simp only[ur]at h;split at h
         ·rename_i f;cases h;exact .inr ⟨e,i,rfl,f.1,f.2,rfl⟩
         cases h
       |_=>simp[ur]at h
     |_=>simp[ur]at h
theorem kM{isS:Bool}{n cap:Nat}{lo hi:Option Value}{l h:Nat}(p:n<=cap)(q:(hi=none/\h=n)\/ ∃b i,hi=some (.int b i)/\0<=i/\i<=n/\h=i.toNat)
 (r:(lo=none/\l=0)\/ ∃b i,lo=some (.int b i)/\0<=i/\i<=h/\l=i.toNat):(Instr.sliceBounds isS n cap lo hi none).run P w= .ok (l,h,cap) w/\l<=h/\h<=n:=by
 have f:h<=n:=by rcases q with⟨_,e⟩|⟨b,i,_,d,k,e⟩<;>omega
 have g:l<=h:=by rcases r with⟨_,e⟩|⟨b,i,_,d,k,e⟩<;>omega
 refine⟨?_,g,f⟩;rcases q with⟨rfl,rfl⟩|⟨b,i,rfl,d,k,rfl⟩<;>rcases r with⟨rfl,rfl⟩|⟨c,j,rfl,t,u,rfl⟩
 ·simp[Instr.sliceBounds]
 ·simp[Instr.sliceBounds,Q3 w c j h _ t u]
 ·simp[Instr.sliceBounds,Q3 w b i cap _ d (by omega)]
 simp[Instr.sliceBounds,Q3 w b i cap _ d (by omega),Q3 w c j i.toNat _ t u]
theorem zn(b:dT x s a w m)(lo:Option Operand):u4 w m s (lo.map a.eval) (lo.map (gt x.env s.f)):=by
 cases lo with
 |none=>trivial
 |some y=>exact ao b y
structure Sn(s s':St):Prop where
 f: ∀t,s'.f t=s.f t\/s'.f t= .any
 rows: ∀r,s'.rows r=s.rows r\/s'.rows r=none
 vs:s'.vs=s.vs
 esc:s'.esc=s.esc
theorem dT.less{x:ph}{s s':St}{a:Act}{w:World}{m:lP}(h:dT x s a w m)(j:Sn s s'):dT x s' a w m:=by
 have l: ∀r c,s'.vs r=s.vs r->s'.rows r=some c-> ∃d,s.rows r=some d/\d.sz=c.sz/\m.ρ r=m.ρ r:=fun r c _ g=>by
  rcases j.rows r with e|e
  ·exact⟨c,by rw[<-e];exact g,rfl,rfl⟩
  rw[e]at g;cases g
 have f: ∀r c,s'.rows r=some c->s.rows r=some c:=fun r c g=>by
  rcases j.rows r with e|e
  ·rw[<-e];exact g
  rw[e]at g;cases g
 have i: ∀r,s.vs r<=s'.vs r:=fun r=>by rw[j.vs];exact ND _
 refine⟨h.Z4,h.low,h.ZT,h.sub,h.env,h.ZX,h.ZV,h.ZU,h.ZR,fun t=> ?_,fun r d g=> ?_,fun r u d c n p=>h.inj r u d c (f _ _ n) (f _ _ p),h.ZL,h.toV i,h.toK i l,h.ZY,h.fix,fun r d g=>h.Z5 r d (f r d g)⟩
 ·rcases j.f t with e|e
  ·rw[e];exact(h.slot t).mono (fun b o k=>⟨k, .rfl⟩) i l
  rw[e];exact .val (.any _)
 exact(h.rows r d (f r d g)).mono (fun b o k=>⟨k, .rfl⟩) i l rfl (fun _ _=>rfl) (by rw[j.esc]) (fun _ _ _ q=>q)
theorem dT.cut{x:ph}{s:St}{a:Act}{w:World}{m:lP}(h:dT x s a w m)(r n:Nat)(row:Row)(O:s.rows r=some row)(S:row.sz≠0)(W:row.pure=true)(K:s.esc r=false)(V:n<=row.es.length):
 ∃A len cap,m.ρ r= .slice A len cap/\len=row.es.length/\n<=cap/\len<=cap/\(∀k,A.map (·.add k)=A.map (·.add k))/\(A=none\/ ∃g,A=some ⟨g,0,none⟩)/\dT x (s.renew r { row with es:=row.es.take n } (s.esc r)) a w ⟨m.S,m6 m.ρ r (.slice A n cap)⟩:=by
 have k:=(h.rows r row O).cells S;obtain⟨Z,X,k2,k3⟩:=k.own
 have h0:dT x { s with rows:=m6 s.rows r none } a w m:=h.less ⟨fun _=> .inl rfl,fun q=>by
  by_cases e:q=r
  ·right;simp[e,aw]
  left;simp[cU _ _ _ e],rfl,rfl⟩
 have Q: ∀q d,({ s with rows:=m6 s.rows r none } :St).rows q=some d->q≠r/\s.rows q=some d:=fun q d B=>by
  by_cases e:q=r
  ·subst e;simp[aw]at B
  exact⟨e,by simpa[cU _ _ _ e]using B⟩
 have T:({ s with rows:=m6 s.rows r none } :St).renew r { row with es:=row.es.take n } (s.esc r)=s.renew r { row with es:=row.es.take n } (s.esc r):=by
  simp only[St.renew,St.mk.injEq,true_and,Rt]
  funext q
  by_cases e:q=r
  ·subst e;simp[aw]
  simp[cU _ _ _ e]
 have z: ∀i j c,bx (row.es.take n) i j=some c->bx row.es i j=some c/\i<n:=fun i j c y=>by
  unfold bx at y |-;rw[Na]at y;split at y
  ·rename_i t;exact⟨y,t⟩
  simp at y
 have D:(row.es.take n).length=n:=by rw[NK];omega
 have v: ∀A len cap,m.ρ r= .slice A len cap->(∀b,(Value.slice A n cap).ownBlock=some b->(m.ρ r).ownBlock=some b)->w.ownsRow x.w.heap.size row.e row.sz (.slice A n cap) n (Z.take (n*row.sz))->dT x (s.renew r { row with es:=row.es.take n } (s.esc r)) a w ⟨m.S,m6 m.ρ r (.slice A n cap)⟩:=fun A len cap hm f E=>by
  have U:=h0.renew r { row with es:=row.es.take n } (s.esc r) (.slice A n cap) m.S (OY _ _) (fun b o l=>⟨l, .rfl⟩) (fun b o l=> .inl l) (fun q d B R g p=>by
   obtain⟨e1,I⟩:=Q q d R
   exact⟨rfl,fun e=>h.inj r q row d O I (Oq e1) g (f g e) p,fun o l=>l⟩)
   (.inl ⟨k.pos,(fun i G t=>by
    have t:(row.es.take n)[i]? =some G:=t;rw[Na]at t;split at t
    ·exact k.len i G t
    ·cases t),(by
    refine⟨Z.take (n*row.sz),by simp only[aw,D];exact E,fun u hu=>k2 u (Ot hu),fun i j c y=> ?_⟩;obtain⟨C,c2⟩:=z i j c y;obtain⟨u,u1,Y⟩:=k3 i j c C;rw[Mw W]at Y
    have hj:j<row.sz:=by
     unfold bx at C;cases B:row.es[i]? with
     |none=>rw[B]at C;cases C
     | some G=>
       rw[B]at C;rw[<-k.len i G B];exact(Mt.1 C).1
    have L:i*row.sz+j<n*row.sz:=by
     calc i*row.sz+j<i*row.sz+row.sz:=by omega
      _=(i+1)*row.sz:=by rw[OX,P5]
      _<=n*row.sz:=Ni _ c2
    exact⟨u,by rw[Na,Mw L];exact u1,by rw[Mw W];exact Y⟩),(fun l g p o ho=>by
    simp only[aw,St.renew]at l p;rw[K]at l;cases l),(fun g p o ho=>by
    simp only[aw]at p;exact k.fresh K g (f g p) o),(fun l g p o=>by
    simp only[aw,St.renew]at l p
    exact k.fresh K g (f g p) o)⟩) (fun b hf=>⟨rfl,fun _ l=>l,fun e=>h.Z5 r row O b (f b e) hf⟩)
  rw[T]at U;exact U
 rcases X.2 with⟨e,e0⟩|⟨g,cap,H,e,I,e3,e4,e5,e6,e7⟩
 ·have M:n=0:=by omega
  subst M;refine⟨none,0,0,e,e0.symm,ND _,ND _,fun _=>rfl, .inl rfl,v none 0 0 e (fun b J=>by simp[Value.ownBlock]at J) ?_⟩;rw[Pr];exact QX _ _ _ _
 have N:row.es.length<=cap:=e4;refine⟨some ⟨g,0,none⟩,row.es.length,cap,e,rfl,by omega,N,fun _=>rfl, .inr ⟨g,rfl⟩,v _ _ cap e (fun b J=>by rw[e];exact J) ⟨?_, .inr ⟨g,cap,H,rfl,I,e3,by omega,e5,e6,?_⟩⟩⟩
 ·rw[NK,X.1,P3 (Ni _ V)]
 rw[<-e7,Ri,P3 (Ni _ V)]
theorem GY{t e:TypeId}{j M n:Nat}{z N:List Value}{y:Operand}{lo hi:Option Operand}{r k:Nat}{E:IntKind}{i:Int}{row:Row}(U:o.op= .slice t y lo hi none)(Q:dT x s a w m)(R:ef P t=some ⟨.slice e j M N,n,z⟩)(Y:RL w m s (a.eval y) (.row r k))(q:u4 w m s (lo.map a.eval) none)(c:u4 w m s (hi.map a.eval) (some (.lit (.int E i))))
 (S:s.esc r=false)(J:s.rows r=some row)(f:s.vs r=k)(H:row.sz≠0)(V:row.pure=true)(G:0<=i)(T:i<=row.es.length)(B:out=⟨.row r (k+1),[.grow r { row with es:=row.es.take i.toNat }]⟩):dh P x s a w o out:=by
 obtain⟨K,ie,ze,Z,i2,i3,i4,i5⟩:=bH R;have X:a.eval y=m.ρ r:=Y.row_.2 f row J;obtain⟨A,d,b,q1,q2,q3,q4, -,q5,q6⟩:=Q.cut r i.toNat row J H V S (by omega)
 have v:lo.map a.eval=none:=by
  cases D:lo.map a.eval with
  |none=>rfl
  |some u=>rw[D]at q;exact q.elim
 have p:hi.map a.eval=some (.int E i):=by
  cases D:hi.map a.eval with
  |none=>rw[D]at c;exact c.elim
  |some u=>rw[D]at c;have c:RL w m s u (.lit (.int E i)):=c;rw[c.lit_]
 obtain⟨C,p1,p2⟩:=kM (P:=P) (w:=w) (isS:=true) (n:=d) (cap:=b) (lo:=lo.map a.eval) (hi:=hi.map a.eval) (l:=0) (h:=i.toNat) q4
  (.inr ⟨E,i,p,G,by omega,rfl⟩) (.inl ⟨v,rfl⟩)
 have W:(sizeOf e).run P w= .ok j w:=by simp[sizeOf,typeInfo,Z,i3]
 have O:(if b=0 then A else A.map (·.add (0*j)))=A:=by
  split
  ·rfl
  rcases q5 with rfl|⟨g,rfl⟩
  ·rfl
  rw[Pr,NU,add_plain]
 have I:(Instr.sliceAt t (.slice A d b) (lo.map a.eval) (hi.map a.eval) none).run P w= .ok (.slice A i.toNat b) w:=by
  have:(Instr.sliceAt t (.slice A d b) (lo.map a.eval) (hi.map a.eval) none).run P w=(Instr.slice t (.slice A d b) (lo.map a.eval) (hi.map a.eval) none).run P w:=by
   simp[Instr.sliceAt,NO K]
  rw[this];simp only[Instr.slice,NO K,N2,NR,C,W,Nq,P9];rw[O]
 subst B;refine⟨_,w,_, .slice A i.toNat b,?_, .inl rfl,q6,?_⟩
 ·unfold execOp;simp only[U,X,q1,Qk,N2,I,NR,Nq]
 subst f;exact .row r (s.vs r+1) rfl (by simp[ds,va.app,St.renew,aw]) fun _ L _=>by simp[aw]
theorem js{t e:TypeId}{d eb n:Nat}{z ez:List Value}{y:Operand}{lo hi:Option Operand}(ho:o.op= .slice t y lo hi none)(hS:dT x s a w m)(hd:ef P t=some ⟨.slice e d eb ez,n,z⟩)(hy:RL w m s (a.eval y) (gt x.env s.f y))(N:u4 w m s (lo.map a.eval) (lo.map (gt x.env s.f)))(M:u4 w m s (hi.map a.eval) (hi.map (gt x.env s.f)))
 (h:(il d (gt x.env s.f y) (lo.map (gt x.env s.f)) (hi.map (gt x.env s.f))).run s=some out):dh P x s a w o out:=by
 obtain⟨W,ie,ze,i1,i2,i3,i4,i5⟩:=bH hd;unfold il at h;obtain⟨q,hq,h⟩:=fI h;split at h
 ·rename_i sz E r;split at h
  ·rename_i R;subst R;cases K:ur E.length E.length (hi.map (gt x.env s.f)) with
   |none=>rw[K]at h;simp[Rd.run]at h
   | some B=>
     rw[K]at h;simp only at h;cases C:ur B 0 (lo.map (gt x.env s.f)) with
     |none=>rw[C]at h;simp[Rd.run]at h
     | some l=>
       rw[C]at h;simp only[Rd.run,Mu]at h;subst h;have Y:=pL K M;have Z:=pL C N;obtain⟨S',q1,q2,X⟩:=pC hq hS hy;rw[r]at X;generalize hv:a.eval y=vy at*;cases X with
       | seq A v f sz E b p u hn G hA hz L O=>
         obtain⟨I,p1,p2⟩:=kM (P:=P) (w:=w) (isS:=true) (n:=v) (cap:=f) (lo:=lo.map a.eval) (hi:=hi.map a.eval) (l:=l) (h:=B) G
          (by rcases Y with⟨_,r,D⟩ | ⟨S,i,r,D,T,J⟩
              ·exact .inl ⟨r,by omega⟩
              exact .inr ⟨S,i,r,D,by omega,J⟩)
          (by rcases Z with⟨_,r,D⟩ | ⟨S,i,r,D,T,J⟩
              ·exact .inl ⟨r,D⟩
              exact .inr ⟨S,i,r,D,T,J⟩)
         have hs:(sizeOf e).run P w= .ok d w:=by simp[sizeOf,typeInfo,i1,i3]
         have Q:(Instr.sliceAt t (.slice A v f) (lo.map a.eval) (hi.map a.eval) none).run P w= .ok (.slice (if f=l then A else A.map (·.add (l*d))) (B-l) (f-l)) w:=by
          have:(Instr.sliceAt t (.slice A v f) (lo.map a.eval) (hi.map a.eval) none).run P w=(Instr.slice t (.slice A v f) (lo.map a.eval) (hi.map a.eval) none).run P w:=by
           simp[Instr.sliceAt,NO W]
          rw[this];simp only[Instr.slice,NO W,N2,NR,I,hs,Nq]
         refine⟨_,w,_, .slice (if f=l then A else A.map (·.add (l*d))) (B-l) (f-l),?_, .inl rfl,q1, .val ?_⟩
         ·unfold execOp;simp only[ho,hv,Qk,N2,Q,NR,Nq]
         have g: ∀(i j:Nat)(c:AV),bx ((E.drop l).take (B-l)) i j=some c->bx E (i+l) j=some c/\i<B-l:=fun i j c k=>by
          unfold bx at k |-;rw[Na]at k;split at k
          ·rename_i hi;rw[OS,Ry l i]at k;exact⟨k,hi⟩
          simp at k
         refine .seq _ (B-l) (f-l) d ((E.drop l).take (B-l)) b (p+l*d) (fun i j=>u (i+l) j) (by simp;omega) (by omega) (fun h0=> ?_) (fun i e H=> ?_) (fun i j c k=> ?_) (fun i j c k=>O _ _ _ (g i j c k).1)
         ·rw[Mv (by omega),hA (by omega),NU,add_plain]
         ·rw[Na]at H;split at H
          ·rw[OS]at H;exact hz _ e H
          cases H
         obtain⟨U,V,h3⟩:=L _ _ _ (g i j c k).1;have ea:p+((i+l)*d+j)=p+l*d+(i*d+j):=by rw[OX];omega
         rw[ea]at U V;exact⟨U,V,h3⟩
  simp[Rd.run]at h
 simp[Rd.run]at h
theorem GX{t e:TypeId}{d W n:Nat}{z X:List Value}{y:Operand}{lo hi:Option Operand}{r p:Nat}{I:IntKind}{i:Int}{row:Row}(Z:o.op= .slice t y lo hi none)(R:dT x s a w m)(Y:ef P t=some ⟨.slice e d W X,n,z⟩)(hy:RL w m s (a.eval y) (.row r p))(c:u4 w m s (lo.map a.eval) (some (.lit (.int I i))))(B:u4 w m s (hi.map a.eval) none)
 (N:s.rows r=some row)(f:s.vs r=p)(O:row.sz≠0)(J:d=row.sz)(K:0<=i)(L:i<=row.es.length):dh P x s a w o ⟨.sub r p i.toNat,[]⟩:=by
 obtain⟨S,ie,ze,i1,i2,i3,i4,i5⟩:=bH Y;have hv:a.eval y=m.ρ r:=hy.row_.2 f row N;have k:=(R.rows r row N).cells O;obtain⟨xs,k1,_⟩:=k.own
 obtain⟨A,b,j,q⟩: ∃A b,m.ρ r= .slice A row.es.length b/\row.es.length<=b:=by
  rcases k1.2 with⟨e,V⟩|⟨g,b,U,e,_,_,M,_⟩
  ·exact⟨none,0,by rw[e,V],by omega⟩
  exact⟨_,b,e,M⟩
 have D:lo.map a.eval=some (.int I i):=by
  cases H:lo.map a.eval with
  |none=>rw[H]at c;exact c.elim
  |some u=>rw[H]at c;have c:RL w m s u (.lit (.int I i)):=c;rw[c.lit_]
 have C:hi.map a.eval=none:=by
  cases H:hi.map a.eval with
  |none=>rfl
  |some u=>rw[H]at B;exact B.elim
 obtain⟨G,p1,p2⟩:=kM (P:=P) (w:=w) (isS:=true) (n:=row.es.length) (cap:=b) (lo:=lo.map a.eval) (hi:=hi.map a.eval) (l:=i.toNat) (h:=row.es.length) q (.inl ⟨C,rfl⟩) (.inr ⟨I,i,D,K,L,rfl⟩);have hs:(sizeOf e).run P w= .ok d w:=by simp[sizeOf,typeInfo,i1,i3]
 have Q:(Instr.sliceAt t (.slice A row.es.length b) (lo.map a.eval) (hi.map a.eval) none).run P w= .ok (Pl (.slice A row.es.length b) (i.toNat*d) i.toNat) w:=by
  have:(Instr.sliceAt t (.slice A row.es.length b) (lo.map a.eval) (hi.map a.eval) none).run P w=(Instr.slice t (.slice A row.es.length b) (lo.map a.eval) (hi.map a.eval) none).run P w:=by
   simp[Instr.sliceAt,NO S]
  rw[this];simp only[Instr.slice,NO S,N2,NR,G,hs,Nq,Pl]
 subst f J;refine .same R (v:=Pl (m.ρ r) (i.toNat*row.sz) i.toNat) ?_ rfl (.sub r _ i.toNat (by rw[j];rfl) (ND _) fun _ T E=>by rw[N]at E;cases E;rfl);rw[j];unfold execOp;simp only[Z,hv,j,Qk,N2,Q,NR,Nq]
theorem AQ{t:TypeId}{y:Operand}{lo hi:Option Operand}(E:o.op= .slice t y lo hi none)(j:dT x s a w m)(h:(ae P x.env s.f o).run s=some out):dh P x s a w o out:=by
 have g:=ao j y;have d:=zn j lo;have c:=zn j hi;unfold ae at h;simp only[E]at h;unfold pe at h;split at h
 ·rename_i str n z e C;rw[e]at g;have g:=g.lit_;have S:=dH C;cases M:ur (bR str).length (bR str).length (hi.map (gt x.env s.f)) with
  |none=>rw[M]at h;simp[Rd.run]at h
  | some D=>
    rw[M]at h;simp only at h;cases A:ur D 0 (lo.map (gt x.env s.f)) with
    |none=>rw[A]at h;simp[Rd.run]at h
    | some l=>
      rw[A]at h;simp only[Rd.run,Mu]at h;subst h;have T:=pL M c;have U:=pL A d
      obtain⟨H,Z,q2⟩:=kM (P:=P) (w:=w) (isS:=false) (n:=str.size) (cap:=str.size) (lo:=lo.map a.eval) (hi:=hi.map a.eval) (l:=l) (h:=D) (ND _)
       (by rcases T with⟨_,k,p⟩ | ⟨I,i,k,p,J,K⟩
           ·exact .inl ⟨k,by rw[jW];exact p⟩
           exact .inr ⟨I,i,k,p,by rw[jW];exact J,K⟩)
       (by rcases U with⟨_,k,p⟩ | ⟨I,i,k,p,J,K⟩
           ·exact .inl ⟨k,p⟩
           exact .inr ⟨I,i,k,p,J,K⟩)
      refine .same j (v:= .string ⟨(((bR str).drop l).take (D-l)).toArray⟩) ?_ rfl (.val (.lit _))
      have W:str.extract l D=⟨(((bR str).drop l).take (D-l)).toArray⟩:=by
       have:=yc (bR str) l D;rwa [<-sO]at this
      have O:(Instr.sliceAt t (.string str) (lo.map a.eval) (hi.map a.eval) none).run P w= .ok (.string (str.extract l D)) w:=by
       rw[run_sliceAt_string w t _ _ _ _ S];simp[Instr.slice,NO S,H]
      unfold execOp;simp only[E,g,Qk,N2,O,NR,Nq,W]
 ·rename_i e V X Y n z C;split at h
  ·rename_i r R I i L u q;simp only[Rd.run]at h;by_cases b:s.esc r=true
   ·rw[Mw b]at h;exact js E j C g d c h
   have b:s.esc r=false:=by simpa using b
   rw[Mv (by simp[b])]at h;obtain⟨Q,N,f,G,h⟩:=dm h;split at h
   ·rename_i B;simp only[Rd.run,Mu]at h;rw[L]at g;rw[u]at d;rw[q]at c;exact GY E j C g d c b N f G B.2.1 B.2.2.1 B.2.2.2 h.symm
   simp[Rd.run]at h
  ·rename_i r R I i L u q;simp only[Rd.run]at h;by_cases b:s.esc r=true
   ·rw[Mw b]at h;exact js E j C g d c h
   have b:s.esc r=false:=by simpa using b
   rw[Mv (by simp[b])]at h;obtain⟨Q,N,f,G,h⟩:=dm h;split at h
   ·rename_i B;simp only[Rd.run,Mu]at h;subst h;rw[L]at g;rw[u]at d;rw[q]at c;exact GX E j C g d c N f G B.1 B.2.2.1 B.2.2.2
   simp[Rd.run]at h
  exact js E j C g d c h
 simp[Rd.run]at h
theorem qW{t:TypeId}{y mx:Operand}{lo hi:Option Operand}{e:TypeId}{g V:Nat}{W zz:List Value}{nn:Nat}{D O:IntKind}{j:Nat}{q:AV×List Nat}{es:List (List AV)}
 (ho:o.op= .slice t y lo hi (some mx))(z:dT x s a w m)(Y:ef P t=some ⟨.slice e g V W,nn,zz⟩)(H:lo.map (gt x.env s.f)=none)(G:hi.map (gt x.env s.f)=some (.lit (.int D (j:Int))))(I:gt x.env s.f mx= .lit (.int O (j:Int)))
 (hq:(fz (gt x.env s.f y)).run s=some q)(U:q.1= .seq g es)(hj:j<=es.length):dh P x s a w o ⟨.full g (es.take j),iS q.2⟩:=by
 have hy:=ao z y;have v:=zn z lo;have d:=zn z hi;have n:=ao z mx;rw[H]at v;rw[G]at d;rw[I]at n;have n:=n.lit_;obtain⟨T,ie,ze,i1,i2,i3,i4,i5⟩:=bH Y
 have C:lo.map a.eval=none:=by
  cases E:lo.map a.eval with
  |none=>rfl
  |some u=>rw[E]at v;exact v.elim
 have B:hi.map a.eval=some (.int D j):=by
  cases E:hi.map a.eval with
  |none=>rw[E]at d;exact d.elim
  |some u=>rw[E]at d;have d:RL w m s u (.lit (.int D j)):=d;rw[d.lit_]
 obtain⟨S',q1,q2,Q⟩:=pC hq z hy;rw[U]at Q;generalize hv:a.eval y=vy at*;have q4:=Q;cases Q with
 | seq A len f sz es b p u Z S R hz K M=>
   subst Z;have hs:(sizeOf e).run P w= .ok g w:=by simp[sizeOf,typeInfo,i1,i3]
   have J:(if j=0 then A else A.map (·.add (0*g)))=A:=by
    split
    ·rfl
    rw[R (by omega),Pr,NU,add_plain];rfl
   have X:(Instr.sliceBounds true es.length f none (some (.int D j)) (some (.int O j))).run P w= .ok (0,j,j) w:=by
    simp[Instr.sliceBounds,Q3 w O (j:Int) f _ (by omega) (by omega),Q3 w D (j:Int) j _ (by omega) (by omega)]
   have N:(Instr.sliceAt t (.slice A es.length f) (lo.map a.eval) (hi.map a.eval) (some (a.eval mx))).run P w= .ok (.slice A j j) w:=by
    have:(Instr.sliceAt t (.slice A es.length f) (lo.map a.eval) (hi.map a.eval) (some (a.eval mx))).run P w=(Instr.slice t (.slice A es.length f) (lo.map a.eval) (hi.map a.eval) (some (a.eval mx))).run P w:=by
     simp[Instr.sliceAt,NO T]
    rw[this,n,C,B];simp only[Instr.slice,NO T,N2,NR,X,hs,Nq,P9];rw[J]
   have l: ∀(i k:Nat)(c:AV),bx (es.take j) i k=some c->bx es i k=some c:=fun i k c r=>by
    unfold bx at r |-;by_cases h:i<j
    ·rwa [PV h]at r
    rw[Q4 (by omega)]at r;simp at r
   refine⟨_,w,_, .slice A j j,?_, .inl rfl,q1, .val (.full A j _ (es.take j) ?_)⟩
   ·unfold execOp;simp only[ho,hv,NU,N2,N,NR,Nq]
   exact .seq A j j _ (es.take j) b p u (by rw[NK];omega) (ND _) (fun h=>R (by omega)) (fun i e L=>hz i e (by
    by_cases h:i<j
    ·rwa [PV h]at L
    rw[Q4 (by omega)]at L
    simp at L)) (fun i k c r=>K i k c (l i k c r)) (fun i k c r=>M i k c (l i k c r))
theorem Cv{t:TypeId}{y mx:Operand}{lo hi:Option Operand}(g:o.op= .slice t y lo hi (some mx))(p:dT x s a w m)(h:(ae P x.env s.f o).run s=some out):dh P x s a w o out:=by
 unfold ae at h;simp only[g]at h;unfold vv at h;split at h
 ·rename_i e v B D n z G i H k r c b d;obtain⟨q,u,h⟩:=fI h;split at h
  ·rename_i I C l;split at h
   ·rename_i f;simp only[Rd.run,Mu]at h;subst h;obtain⟨rfl,rfl,rfl⟩:=f;have:=qW g p r c b d u l (ND _);rwa [NS]at this
   split at h
   ·rename_i f;simp only[Rd.run,Mu]at h;subst h;obtain⟨rfl,rfl,A,E⟩:=f;obtain⟨j,rfl⟩:=Int.eq_ofNat_of_zero_le A;exact qW g p r c b d u l (by omega)
   simp[Rd.run]at h
  simp[Rd.run]at h
 simp[Rd.run]at h
theorem Sz{S:Nat->Nat->Prop}{v:Value}{c:AV}{s0:St}{q:Nat×List (List AV)}(h:(jU c).run s0=some q)(z:RV S w v c):
 ∃A n cap l,v= .slice A n cap/\n=q.2.length/\(0<n-> ∃b p,A=some ⟨b,p,none⟩/\ ∀(j:Nat)(u:Value),l[j]? =some u->w.cell? ⟨b,p+j,none⟩=some u)/\x0 S w q.1 l q.2:=by
 cases c with
 | seq d G=>
   simp only[jU,Rd.run,Mu]at h;subst h;cases z with
   | seq A n cap d G b o u O L R K H U=>
     have N: ∀k,k<n*d-> ∃i j c,i<n/\j<d/\k=i*d+j/\bx G i j=some c:=fun k y=>by
      have f:0<d:=Nat.pos_of_ne_zero fun e=>by subst e;omega
      have M:k/d<n:=(Nat.div_lt_iff_lt_mul f).2 y;have t:k%d<d:=Qm _ f;have E:k/d<G.length:=by omega
      refine⟨k/d,k%d,(G[k/d])[k%d]'(by rw[K _ _ (Ms E)];exact t),M,t,(Q8 k d).symm,?_⟩;unfold bx;rw[Ms E];simp
     have C: ∀(k:Nat)(v:Value),((List.range (n*d)).map fun k=>u (k/d) (k%d))[k]? =some v->k<n*d/\v=u (k/d) (k%d):=fun k v y=>by
      have r:k<n*d:=by
       have:=(Mt.1 y).1;simpa using this
      rw[NE,O5 r]at y;exact⟨r,by simpa using y.symm⟩
     have g: ∀i j,j<d->(i*d+j)/d=i/\(i*d+j)%d=j:=fun i j t=>by
      have f:0<d:=by omega
      exact⟨by rw[Ph,Nat.mul_add_div f,Nat.div_eq_of_lt t,PP],by rw[Ph,Nat.mul_add_mod,RD t]⟩
     refine⟨A,n,cap,(List.range (n*d)).map fun k=>u (k/d) (k%d),rfl,O.symm,fun I=>⟨_,_,R I,fun j v t=> ?_⟩,by simp[O],fun v z=> ?_,K,fun i j c D=> ?_⟩
     ·obtain⟨r,rfl⟩:=C j v t;obtain⟨i,k,c,Q,B,rfl,J⟩:=N j r;rw[(g i k B).1,(g i k B).2];exact(H i k c J).2.1
     ·obtain⟨k,y,rfl⟩:=O1 z;obtain⟨r,e⟩:=C k _ (Ms y);obtain⟨i,j,c,Q,B,rfl,J⟩:=N k r;rw[e,(g i j B).1,(g i j B).2];exact(H i j c J).2.2
     obtain⟨M,t⟩:=eN K D;refine⟨u i j,?_,U i j c D⟩;rw[NE,O5 (kh (by omega) t)];simp only[NU,(g i j t).1,(g i j t).2]
 | lit u=>
   cases z;simp only[jU]at h;split at h
   ·rename_i e;cases e
   ·rename_i A k e;cases e;simp only[Rd.run,Mu]at h;subst h;exact⟨A,0,k,[],rfl,rfl,fun I=>absurd I (by omega),rfl,fun v z=>by simp at z,fun i e T=>by simp at T,fun i j c H=>by simp[bx]at H⟩
   ·rename_i e;cases e
   simp[Rd.run]at h
 |row=>cases z
 |_=>simp[jU,Rd.run]at h
theorem x0.resize{S:Nat->Nat->Prop}{sz b:Nat}{l:List Value}{es:List (List AV)}(h:x0 S w sz l es)(d:sz=b\/es=[]):x0 S w b l es:=by
 rcases d with rfl|rfl
 ·exact h
 exact⟨by simpa using h.len,h.one,fun i e d=>by simp at d,fun i j c f=>by simp[bx]at f⟩
theorem lG{t c:TypeId}{y z:Operand}(e:o.op= .call { callee:= .builtin .append,args:= #[y,z],argTypes:= #[t,t] })(b:o.type=c){v:Value}{d:World}(h:(Builtin.append_ #[t,t] c #[a.eval y,a.eval z]).run P w= .ok v d):
 (execOp a.eval o).run P w= .ok (.value v) d:=by
 subst b;unfold execOp;simp only[e,resolve,invoke,builtin,N2,Nq,NR,RF,Nh,O3,h]
theorem IJ{t:TypeId}{y z:Operand}(ho:o.op= .call { callee:= .builtin .append,args:= #[y,z],argTypes:= #[t,t] })(hS:dT x s a w m)(h:(jj P o.dst t (gt x.env s.f y) (gt x.env s.f z)).run s=some out):dh P x s a w o out:=by
 have hy:=ao hS y;have hz:=ao hS z;unfold jj at h;split at h
 ·rename_i e E eb ez n0 z0 hd;obtain⟨hu,ie,ze,i1,i2,i3,i4,i5⟩:=bH hd;split at h
  ·simp[Rd.run]at h
  rename_i hcond;obtain⟨hz1,hpos'⟩:=Rj.1 hcond;have hz1:ez.length=E:=QY.1 hz1;have T:0<E:=by omega
  obtain⟨q,hq,h⟩:=fI h;obtain⟨r,hr,h⟩:=fI h;split at h
  ·simp[Rd.run]at h
  rename_i hsz;obtain⟨S',D,q2,q3⟩:=pC hq hS hz;obtain⟨A,n,cap,l,hv,hn,hA0,hE0⟩:=Sz hr q3
  have hA:0<n-> ∃ad,A=some ad/\ ∀(j:Nat)(u:Value),l[j]? =some u->w.cell? (ad.add j)=some u:=fun h0=>by
   obtain⟨b,p,e,N⟩:=hA0 h0;exact⟨_,e,fun j u hj=>by rw[add_plain];exact N j u hj⟩
  have Q:x0 S' w E l r.2:=hE0.resize (by
   by_cases he:r.1=E
   ·exact .inl he
   exact .inr (QY.1 fun hne=>hsz ⟨he,hne⟩))
  obtain⟨e1,e2,_⟩:=cm q.2 s
  have hzc:ze.cells.size=E:=by
   have:ze.cells.toList.length=E:=by rw[i5];exact hz1
   simpa using this
  split at h
  ·
   rename_i ey;rw[ey]at hy;have hy:=hy.lit_;split at h
   ·rename_i d hdst;split at h
    ·rename_i hb;obtain⟨X,hb2⟩:=hb;simp only[Rd.run,Mu]at h;subst h;obtain⟨V,w',L,I,O⟩:=fH (P:=P) w x.w.heap.size t o.type e ie ze E eb hu i1 i2 i3 i4 hzc T (.slice none 0 0) 0 [] (QX w x.w.heap.size e E) A n cap l (by rw[Q.len,hn]) hA Q.one (by unfold maxLen;omega) (by rw[OI,hn];exact X) D.Z4.size
     have hb':Below x.w.heap.size w w':=by
      rcases O with⟨_,O⟩|⟨_,O⟩
      ·exact(OY _ _).grown O D.Z4.size (fun q hq=>by simp[Value.ownBlock]at hq)
      exact(OY _ _).grown O D.Z4.size (fun q hq=>by cases hq)
     have C: ∀k,k<w.heap.size->w'.heap[k]? =w.heap[k]? :=fun k hk=>by
      rcases O with⟨_,O⟩|⟨_,O⟩
      ·exact O.block k hk (by simp[Value.ownBlock])
      exact O.block k hk (by simp)
     have J: ∀g,V.ownBlock=some g->g=w.heap.size:=fun g f=>by
      rcases O with⟨hv',_⟩|⟨hv',_⟩
      ·rw[hv']at f;simp[Value.ownBlock]at f
      rw[hv']at f;injection f with f;exact f.symm
     have B: ∀b o,S' b o->S' b o/\l5 w w' b o:=fun b o v=>⟨v, .block (C b (D.low b o v))⟩
     have hS2:=D.renew d ⟨E,r.2,e,true⟩ false V S' hb' B (fun b o v=> .inl v) (fun k Z hk hrk g hgk=>by
      have R:=((D.rows k Z hrk).blk hgk).2
      exact⟨C g R,fun v=>by have:=J g v;omega,fun o v=>v⟩)
      (.inl ⟨T,Q.ZS,⟨l,by simp only[aw];have:=I;rw[OI,PY,hn]at this;exact this,Q.one,fun i j c N=>by
       obtain⟨u,u1,u2⟩:=Q.cell i j c N
       exact⟨u,u1,by simpa using u2.mono B⟩⟩,(fun he=>by simp[St.renew,aw]at he),(fun g f o ho2 v=>by
        simp only[aw]at f;have:=J g f;have:=D.low g o v;omega),(fun _ g f o v=>by
        simp only[aw]at f;have:=J g f;have:=D.low g o v
        omega)⟩) (fun b hf=>⟨C b (D.fxlt hf),fun _ v=>v,fun e=>by have:=J b e;have:=D.fxlt hf;omega⟩)
     have W:V.oneCell'=true:=by
      rcases I.2 with⟨ee,_⟩|⟨g,cp,cur,ee,_⟩<;>rw[ee]<;>rfl
     refine⟨_,w',_,V,?_, .inl rfl,by rw[g8];exact hS2,?_⟩
     ·exact lG ho rfl (by rw[hy,hv];exact L)
     rw[g8];refine .row d (s.vs d+1) W ?_ fun _ S hr=> ?_
     ·simp[ds,va.app,St.renew,aw,e2]
     simp[aw]
    simp[Rd.run]at h
   simp[Rd.run]at h
  ·rename_i rr ver ey;rw[ey]at hy;obtain⟨S,Y,hver,hrz,h⟩:=dm h;have hvy:=hy.row_.2 hver S Y;split at h
   ·rename_i hb;obtain⟨hp,M,hee,X,hb2⟩:=hb;simp only[Rd.run,Mu]at h;subst h;have k:=(D.rows rr S (by rw[e1];exact Y)).cells hrz;obtain⟨xs,k1,k2,k3⟩:=k.own;obtain⟨V,w',L,I,O⟩:=fH (P:=P) w x.w.heap.size t o.type e ie ze E eb hu i1 i2 i3 i4 hzc T (m.ρ rr) S.es.length xs (by rw[<-hee, <-M];exact k1) A n cap l (by rw[Q.len,hn]) hA Q.one (by unfold maxLen;omega) (by rw[hn];exact X) D.Z4.size
    obtain⟨S2,p1,p2⟩:=D.grow rr S (by rw[e1];exact Y) hrz hp r.2 xs l V k1 k2 (fun i j c N=>by
     obtain⟨u,u1,u2⟩:=k3 i j c N;rw[Mw hp]at u2
     exact⟨u,u1,u2⟩) (by rw[M];exact Q.ZS) Q.one (by rw[M];exact Q.len) (fun i j c N=>by rw[M];exact Q.cell i j c N) (by rw[M,hee, <-hn];exact I) O
    have W:V.oneCell'=true:=by
     rcases I.2 with⟨ee,_⟩|⟨g,cp,cur,ee,_⟩<;>rw[ee]<;>rfl
    refine⟨_,w',_,V,?_, .inl rfl,by rw[g8];exact p1,?_⟩
    ·exact lG ho rfl (by rw[hvy,hv];exact L)
    rw[g8];refine .row rr (ver+1) W ?_ fun _ S hr=> ?_
    ·simp[ds,va.app,St.renew,aw,e2,hver]
    simp[aw]
   simp[Rd.run]at h
  ·
   rename_i H G ey;rw[ey]at hy;have hy:=hy.full_;split at h
   ·rename_i d hdst;split at h
    ·rename_i hb;obtain⟨rfl,hm0,X,hb2⟩:=hb;simp only[Rd.run,Mu]at h;subst h;generalize hvy:a.eval y=vy at*;cases hy with
     | full A0 n0 sz0 es0 hy0=>
       obtain⟨A1,n1,cap1,l1,hv1,U,hA1,K⟩:=Sz (c:= .seq H G) (s0:=s) rfl (hy0.mono fun b o v=>⟨q2 b o v, .rfl⟩);cases hv1;have K:x0 S' w H l1 G:=K;have U:_=G.length:=U
       obtain⟨V,w',L,I,hg1,O⟩:=rV (P:=P) w x.w.heap.size t o.type e ie ze H eb hu i1 i2 i3 i4 hzc A0 n0 l1 (by rw[K.len,U]) (fun h0=>by
        obtain⟨b,p,e,N⟩:=hA1 h0
        exact⟨_,e,fun j u hj=>by rw[add_plain];exact N j u hj⟩) A n cap l (by rw[Q.len,hn]) hA (by omega) (by rw[U,hn];unfold maxLen;omega) (by rw[U,hn];exact X) D.Z4.size
       have hb':Below x.w.heap.size w w':=(OY _ _).grown O D.Z4.size (fun q hq=>by cases hq);have C: ∀k,k<w.heap.size->w'.heap[k]? =w.heap[k]? :=fun k hk=>O.block k hk (by simp)
       have J: ∀g,V.ownBlock=some g->g=w.heap.size:=fun g f=>by
        rw[hg1]at f;injection f with f;exact f.symm
       have B: ∀b o,S' b o->S' b o/\l5 w w' b o:=fun b o v=>⟨v, .block (C b (D.low b o v))⟩
       have hS2:=D.renew d ⟨H,G++r.2,e,true⟩ false V S' hb' B (fun b o v=> .inl v) (fun k Z hk hrk g hgk=>by
        have R:=((D.rows k Z hrk).blk hgk).2
        exact⟨C g R,fun v=>by have:=J g v;omega,fun o v=>v⟩)
        (.inl ⟨T,(fun i e' hi=>by
         have hi:(G++r.2)[i]? =some e':=hi;by_cases R:i<G.length
         ·rw[N9 R]at hi;exact K.ZS i e' hi
         ·rw[NY (by omega)]at hi;exact Q.ZS _ e' hi),⟨l1++l,by
          simp only[aw,NA];rw[U,hn]at I
          exact I,(fun u hu=>by
           rcases N1.1 hu with hu|hu
           ·exact K.one u hu
           exact Q.one u hu),fun i j c N=>by
         have N:bx (G++r.2) i j=some c:=N;rw[mq]at N;split at N
         ·rename_i R;obtain⟨u,u1,u2⟩:=K.cell i j c N;exact⟨u,by rw[N9 (Mt.1 u1).1];exact u1,by simpa using u2.mono B⟩
         rename_i R;obtain⟨u,u1,u2⟩:=Q.cell _ j c N;refine⟨u,?_,by simpa using u2.mono B⟩
         have hle:l1.length<=i*H+j:=by
          rw[K.len];exact NN (Ni _ (by omega)) (Ru _ _)
         rw[NY hle,K.len];rw[<-u1]
         congr 1
         have:i*H=(i-G.length)*H+G.length*H:=by rw[<-OX];congr 1;omega
         show i*H+j-G.length*H=_;omega⟩,(fun he=>by simp[St.renew,aw]at he),(fun g f o ho2 v=>by
         simp only[aw]at f;have:=J g f;have:=D.low g o v;omega),(fun _ g f o v=>by
         simp only[aw]at f;have:=J g f;have:=D.low g o v
         omega)⟩) (fun b hf=>⟨C b (D.fxlt hf),fun _ v=>v,fun e=>by have:=J b e;have:=D.fxlt hf;omega⟩)
       have W:V.oneCell'=true:=by
        rcases I.2 with⟨ee,_⟩|⟨g,cp,cur,ee,_⟩<;>rw[ee]<;>rfl
       refine⟨_,w',_,V,?_, .inl rfl,by rw[g8];exact hS2,?_⟩
       ·exact lG ho rfl (by rw[hvy,hv];exact L)
       rw[g8];refine .row d (s.vs d+1) W ?_ fun _ S hr=> ?_
       ·simp[ds,va.app,St.renew,aw,e2]
       simp[aw]
    simp[Rd.run]at h
   simp[Rd.run]at h
  simp[Rd.run]at h
 simp[Rd.run]at h
end
end
section
/-! Maps of the call's own -/
def K3(a b:List UInt8):((⟨⟨a⟩⟩:ByteArray) ==⟨⟨b⟩⟩)=(a==b):=by
 show ((⟨a⟩:Array UInt8) ==⟨b⟩)=_;simp
section
variable {P:Program} {x:ph} {s:St} {a:Act} {w:World} {m:lP} {o:Oper} {out:Out}
theorem RL.mp_{v:Value}{r b:Nat}(h:RL w m s v (.mp r b)):b<=s.vs r/\(s.vs r=b-> ∀row,s.rows r=some row-> ∃g,(m.ρ r).ownBlock=some g/\v= .map (some g)):=by
 cases h with
 |val h=>cases h
 |mp r b d c h=>exact⟨c,h⟩
theorem DP{e:Type}{r b:Nat}{k:Row->Rd e}{y:e}(h:(Rd.map r b k).run s=some y): ∃row,s.rows r=some row/\s.vs r=b/\row.sz=0/\(k row).run s=some y:=by
 simp only[Rd.map,Rd.run]at h;cases c:s.rows r with
 |none=>rw[c]at h;simp[Rd.run]at h
 | some row=>
   rw[c]at h;simp only at h;split at h
   ·rename_i d;exact⟨row,rfl,d.1,d.2,h⟩
   simp[Rd.run]at h
theorem uM{t:TypeId}{g i:AV}{b:Bool}{v:Value}(em:Bool)(n:Nat)(h:cZ P t g i=some b)(e:RL w m s v g): ∀f:World,(Instr.checkKey em (n+1) t v).run P f= .ok () f:=by
 intro f;unfold cZ at h;split at h
 ·split at h
  ·rename_i c;rw[e.lit_];have d:=o9 c;simp[Instr.checkKey,NO d]
  cases h
 ·split at h
  ·rename_i c;rw[e.lit_];have d:=dH c;simp[Instr.checkKey,NO d]
  cases h
 ·split at h
  ·rename_i c;rw[e.lit_];have d:=mF c;simp[Instr.checkKey,NO d]
  cases h
 cases h
theorem j9{N:TypeId}{c O:AV}{b:Bool}{v:Value}(em:Bool)(h:cM P N c O=some b)(M:RL w m s v c):(Instr.checkKey em 10000 N v).run P w= .ok () w:=by
 unfold cM at h;split at h
 ·rename_i Q n z J;split at h
  ·rename_i W X;split at h
   ·rename_i k;obtain⟨f,R,l,u⟩:=eF J;have u:=u.symm;simp only[Mx,OA]at u;obtain⟨y,rfl,I,_,t⟩:=M.agg_;try clear k J
    rw[show (10000:Nat)=9999+1 from rfl,Instr.checkKey];simp only[N2,NO R,NR];rw[<-Array.forIn_toList];have d:=u.2;generalize f.toList=L at l d
    induction L generalizing Q b with
    |nil=>simp
    | cons q L j=>
      simp only[Q2,Qd,QS]at l;cases D:P.info? q.type with
      |none=>simp[D]at l
      | some i=>
        cases e:L.mapM (fun f=>(P.info? f.type).map fun i=>(f.offset,f.type,i.size)) with
        |none=>simp[D,e]at l
        | some r=>
          simp only[D,e,NU,OD,Mu]at l;subst l;simp only[Qf,Mx]at d;simp only[ru]at h;split at h
          ·rename_i S T B U;split at h
           ·rename_i p V K g;have E:q.offset<y.length:=by rw[I];exact(Mt.1 B).1
            have A:y[q.offset]? =some y[q.offset]:=Ms E;have H:=EQ K (t _ _ _ A B);have C:=uM em 9998 K (t _ _ _ A B) w;have G:q.name≠ "_" :=by simpa using d.1
            simp only[List.forIn_cons,N2,G,ne_eq,not_false_eq_true,Nn,NR,H y.toArray q.offset _ w (by rw[Qz];exact A),C,Nq];first|exact j _ g e d.2|exact j _ _ g e d.2|exact j _ e d.2 g|exact j _ _ e d.2 g|exact j _ e g d.2|exact j _ _ e g d.2|exact j _ g d.2 e|exact j _ _ l d.2 g
           cases h
          cases h
   cases h
  cases h
 exact uM em 9999 h M w
theorem KN{e:TypeId}{c p:AV}{b:Bool}{u v:Value}(h:cM P e c p=some b)(r:RL w m s u c)(t:RL w m s v p):(Op.equal e u v).run P w= .ok b w:=by
 unfold cM at h;split at h
 ·rename_i D n z B;split at h
  ·rename_i I J;split at h
   ·obtain⟨f,q,C,g⟩:=eF B;have g:=g.symm;simp only[Mx,OA]at g;obtain⟨⟨E,y⟩,A⟩:=g;have d:P.fieldsOf e=f:=by simp[Program.fieldsOf,q]
    obtain⟨G,rfl,j,_,i⟩:=r.agg_;obtain⟨H,rfl,l,_,k⟩:=t.agg_;show (Op.equalIn 10000 e _ _).run P w=_;rw[run_equalIn_agg w 9999 e _ _ (by rw[d];exact q) y,d];exact zV j l i k 9998 _ _ _ C A h
   cases h
  cases h
 exact(xo h r t).2 9999 w
theorem Jq{t:TypeId}{d:TypeDesc}{c k:AV}{b:Bool}{u v:Value}(g:P.underlying t=some d)(h:cZ P t c k=some b)(i:RL w m s u c)(j:RL w m s v k):Instr.sameNow d u v=some b:=by
 unfold cZ at h;split at h
 ·split at h
  ·rename_i e;split at h
   ·rename_i l;cases h;rw[i.lit_,j.lit_];have f:=o9 e;rw[g]at f;cases f;simp[Instr.sameNow,l]
   cases h
  cases h
 ·split at h
  ·rename_i e;cases h;rw[i.lit_,j.lit_];have f:=dH e;rw[g]at f;cases f;rename_i a b _ _ _;obtain⟨⟨a⟩⟩:=a;obtain⟨⟨b⟩⟩:=b;simp only[Instr.sameNow,bR,Mu];exact K3 a b
  cases h
 ·split at h
  ·rename_i e;cases h;rw[i.lit_,j.lit_];have f:=mF e;rw[g]at f;cases f;simp[Instr.sameNow]
  cases h
 cases h
theorem FX{k:TypeId}{d:TypeDesc}{c g:AV}{b:Bool}{u v:Value}(i:P.underlying k=some d)(h:cM P k c g=some b)(l:RL w m s u c)(p:RL w m s v g):Instr.sameNow d u v=none\/Instr.sameNow d u v=some b:=by
 unfold cM at h;split at h
 ·rename_i q n z e;obtain⟨f,j,_⟩:=eF e;rw[i]at j;cases j;left;cases u<;>rfl
 exact .inr (Jq i h l p)
theorem vl{e:TypeId}{c f:AV}{b:Bool}(h:cM P e c f=some b): ∃d,P.underlying e=some d:=by
 cases g:ef P e with
 | none=>
   have j:cZ P e c f=none:=by
    unfold cZ;repeat' split
    all_goals simp_all
   simp only[cM,g,j]at h;cases h
 | some n=>
   obtain⟨i,l,p,_,k,_⟩:=gU g;exact⟨l,k⟩
theorem S6{B:TypeId}{d:TypeDesc}{C:Value}{k:AV}(D:P.underlying B=some d)(u:RL w m s C k): ∀(b:List MapEntry)(es:List (List AV))(i:Nat)(c:Option Nat),b.length=es.length->
 (∀(j:Nat)(e:List AV),es[j]? =some e-> ∃f l z,b[j]? =some f/\e=[l,z]/\RV m.S w f.key l)->sm P B k es i=some c->
 ∃r:Option (Nat×Value),(Instr.findNow d C b i=none\/Instr.findNow d C b i=some r)/\(Instr.findAsking B C b i).run P w= .ok r w/\
  match c with|none=>r=none|some j=> ∃f,i<=j/\b[j-i]? =some f/\r=some (j,f.val)/\ ∃l z,es[j-i]? =some [l,z]/\cM P B k l=some true
 | [],[],i,c,_,_,h=>by
   simp only[sm,Mu]at h;subst h;exact⟨none, .inr rfl,rfl,rfl⟩
 |[],_::_,i,c,v,_,h=>by simp at v
 |_::_,[],i,c,v,_,h=>by simp at v
 | f::b,e::es,i,c,v,J,h=>by
   obtain⟨N,l,z,I,rfl,A⟩:=J 0 e rfl;simp only[Nr,Mu]at I;subst I;simp only[sm]at h;split at h
   ·rename_i t;simp only[Mu]at h;subst h;refine⟨some (i,f.val),?_,?_,⟨f,ND _,by simp,rfl,l,z,by simp,t⟩⟩
    ·rcases FX D t u (RL.val A) with q|q
     ·left;simp[Instr.findNow,q]
     right;simp[Instr.findNow,q]
    simp only[Instr.findAsking,N2,KN t u (RL.val A),NR,Nn];rfl
   ·rename_i t
    obtain⟨r,y,Q,K⟩:=S6 D u b es (i+1) c (by simpa using v) (fun j M O=>by
     obtain⟨g,n,p,L,E,G⟩:=J (j+1) M (by simpa using O)
     exact⟨g,n,p,by simpa using L,E,G⟩) h
    refine⟨r,?_,?_,?_⟩
    ·rcases FX D t u (RL.val A) with q|q
     ·left;simp[Instr.findNow,q]
     rcases y with y|y
     ·left;simp[Instr.findNow,q,y]
     right;simp[Instr.findNow,q,y]
    ·simp only[Instr.findAsking,N2,KN t u (RL.val A),NR,NW,OB];exact Q
    ·cases c with
     |none=>exact K
     | some j=>
       obtain⟨g,L,E,G,n,p,R,S⟩:=K;have H:j-i=(j-(i+1))+1:=by omega
       exact⟨g,by omega,by rw[H];simpa using E,G,n,p,by rw[H];simpa using R,S⟩
   cases h
theorem ej{p:TypeId}{v:Value}{k:AV}(i: ∃d,P.underlying p=some d)(A:RL w m s v k){b:Array MapEntry}{es:List (List AV)}{f:Option Nat}(B:b.size=es.length)
 (y: ∀(j:Nat)(e:List AV),es[j]? =some e-> ∃c g n,b[j]? =some c/\e=[g,n]/\RV m.S w c.key g)(h:sm P p k es 0=some f):
 ∃r:Option (Nat×Value),(Instr.findKey p v b.toList).run P w= .ok r w/\
  match f with|none=>r=none|some j=> ∃c,b[j]? =some c/\r=some (j,c.val)/\ ∃g n,es[j]? =some [g,n]/\cM P p k g=some true:=by
 obtain⟨d,i⟩:=i
 obtain⟨r,l,C,u⟩:=S6 i A b.toList es 0 f (by simpa using B) (fun j e z=>by
  obtain⟨c,g,n,D,q,t⟩:=y j e z
  exact⟨c,g,n,by simpa using D,q,t⟩) h
 refine⟨r,?_,?_⟩
 ·unfold Instr.findKey;rcases l with l|l
  ·simp only[N2,NO i,NR,l];exact C
  simp only[N2,NO i,NR,l];rfl
 ·cases f with
  |none=>exact u
  | some j=>
    obtain⟨c,_,q,t,E⟩:=u;exact⟨c,by simpa using q,t,by simpa using E⟩
theorem Fs{t:TypeId}{c f:AV}{u v:Value}(h:cZ P t c f=some true)(d:RL w m s u c)(e:RL w m s v f):u=v/\ ∀n,Instr.sameBits n u u=true:=by
 unfold cZ at h;split at h
 ·split at h
  ·split at h
   ·rename_i g;simp only[Mu,OQ]at h;rw[d.lit_,e.lit_,g,h];exact⟨rfl,fun n=>by cases n<;>simp[Instr.sameBits]⟩
   cases h
  cases h
 ·split at h
  ·rename_i a b _ _ _ _;obtain⟨⟨a⟩⟩:=a;obtain⟨⟨b⟩⟩:=b;simp only[bR,Mu,OQ]at h;rw[d.lit_,e.lit_,h];exact⟨rfl,fun n=>by cases n<;>simp[Instr.sameBits,K3]⟩
  cases h
 ·split at h
  ·simp only[Mu,OQ]at h;rw[d.lit_,e.lit_,h];exact⟨rfl,fun n=>by cases n<;>simp[Instr.sameBits]⟩
  cases h
 cases h
theorem KR{xs l:List AV} : ∀ {c:List (Nat×TypeId×Nat)}{i:Nat},ru P xs l c=some true->jf i c=true-> ∀j,i<=j->j<i+c.length-> ∃t a b,xs[j]? =some a/\l[j]? =some b/\cZ P t a b=some true
 |[],i,_,_,j,r,d=>by simp at d;omega
 |(o,t,n)::c,i,h,f,j,r,d=>by
   simp only[jf,Mx,OQ]at f;simp only[ru]at h;split at h
   ·rename_i a b g k;split at h
    ·rename_i p q u v;simp only[Mu,Mx]at h;obtain⟨rfl,rfl⟩:=h;by_cases e:j=i
     ·subst e;rw[f.1]at g k;exact⟨t,a,b,g,k,u⟩
     exact KR v f.2 j (by omega) (by simp only[NQ]at d;omega)
    cases h
   cases h
theorem zt{V:TypeId}{c H:AV}{u v:Value}(h:cM P V c H=some true)(L:RL w m s u c)(M:RL w m s v H):u=v/\(Instr.keyThatStays u v).run P w= .ok v w:=by
 have g:u=v->Instr.sameBits 10000 u u=true->u=v/\(Instr.keyThatStays u v).run P w= .ok v w:=fun e S=>by
  subst e;exact⟨rfl,by unfold Instr.keyThatStays;rw[Mw S];rfl⟩
 unfold cM at h;split at h
 ·rename_i Z n z hd;split at h
  ·rename_i xs ys;split at h
   ·rename_i K;simp only[Mx,OQ]at K;obtain⟨⟨⟨O,W⟩,X⟩,Y⟩:=K;obtain⟨i,rfl,T,_,A⟩:=L.agg_;obtain⟨l,rfl,U,_,B⟩:=M.agg_
    have b: ∀j,j<n-> ∃q,i[j]? =some q/\l[j]? =some q/\ ∀k,Instr.sameBits k q q=true:=fun j f=>by
     obtain⟨t,p,q,d,E,G⟩:=KR h O j (NJ _) (by omega);have I:i[j]? =some (i[j]'(by omega)):=Ms _;have J:l[j]? =some (l[j]'(by omega)):=Ms _;obtain⟨C,D⟩:=Fs G (A _ _ _ I d) (B _ _ _ J E);exact⟨_,I,by rw[J,C],D⟩
    have e:i=l:=by
     apply Nv;intro j;by_cases f:j<n
     ·obtain⟨q,d,E,_⟩:=b j f;rw[d,E]
     rw[NL (by omega),NL (by omega)]
    subst e;refine g rfl ?_;rw[show (10000:Nat)=9999+1 from rfl];simp only[Instr.sameBits,Rv,Np,NB];rintro⟨p,q⟩ y;obtain⟨j,f,e⟩:=O1 y;simp only[List.getElem_zip,QG]at e;simp only[List.length_zip]at f;obtain⟨N,d,_,G⟩:=b j (by simp at f;omega);have r:j<i.length:=by simp at f;exact f
    rw[Ms r]at d;simp only[Mu]at d;have Q:p=N:=by rw[<-e.1];simpa using d
    have R:q=N:=by rw[<-e.2];simpa using d
    rw[Q,R];exact G 9999
   cases h
  cases h
 obtain⟨C,D⟩:=Fs h L M;exact g C (D 10000)
theorem vZ{t:TypeId}(y:o.op= .makeMap t none)(f:dT x s a w m)(h:(ae P x.env s.f o).run s=some out):dh P x s a w o out:=by
 unfold ae at h;simp only[y]at h;unfold j7 at h;split at h
 ·rename_i k e z n J d H E;simp only[Rd.run,Mu]at h;subst h;have p:=f.Z4.size;have j: ∀b o,m.S b o->m.S b o/\l5 w (w.alloc (.map #[] 0)) b o:=fun b o c=>⟨c, .block (On _ _ _ (f.low b o c))⟩
  have r:=f.renew d ⟨0,[],t,zk z⟩ false (.slice (some ⟨w.heap.size,0,none⟩) 0 0) m.S ((OY _ _).alloc p _) j (fun b o c=> .inl c) (fun C q I A g u=>by
   have:=((f.rows C q A).blk u).2;refine⟨On _ _ _ this,?_,fun o c=>c⟩;simp[Value.ownBlock]
   omega)
   (.inr ⟨rfl,⟨w.heap.size, #[],0,by simp[aw],p,by show (w.heap.push (.map #[] 0))[w.heap.size]? =some _;simp,⟨rfl,rfl,fun i G h=>by simp at h⟩,fun i e B=>by simp at B⟩,fun g u o c=>by simp[aw,Value.ownBlock]at u;have:=f.low g o c;omega⟩) (fun b v=>⟨On _ _ _ (f.fxlt v),fun _ c=>c,fun e=>by have:=f.fxlt v;simp[Value.ownBlock]at e;omega⟩)
  refine⟨_,_,_, .map (some w.heap.size),?_, .inl rfl,r, .mp d (s.vs d+1) rfl (by simp[ds,va.app,St.renew,aw]) fun _ D A=>⟨w.heap.size,by simp[aw,Value.ownBlock],rfl⟩⟩;unfold execOp;have l:(Instr.makeMap t none).run P w= .ok (.map (some w.heap.size)) (w.alloc (.map #[] 0)):=rfl;simp only[y,Qk,N2,l,NR,Nq]
 simp[Rd.run]at h
theorem dT.mapAt(h:dT x s a w m){r k:Nat}{row:Row}{v:Value}(C:RL w m s v (.mp r k))(d:s.rows r=some row)(j:s.vs r=k)(n:row.sz=0):
 ∃g c b,v= .map (some g)/\m.ρ r= .slice (some ⟨g,0,none⟩) 0 0/\x.w.heap.size<=g/\w.heap[g]? =some (.map c b)/\CA c b row.es.length/\
  ∀(i:Nat)(e:List AV),row.es[i]? =some e-> ∃l u q,c[i]? =some l/\e=[u,q]/\RV m.S w l.key u/\(if row.pure then RV m.S w l.val q else RL w m s l.val q):=by
 obtain⟨g,c,b,t,y,z,A,B⟩:=((h.rows r row d).map n).own;obtain⟨D,f,p⟩:=C.mp_.2 j row d;rw[t]at f;simp only[Value.ownBlock,Mu]at f;subst f;exact⟨g,c,b,p,t,y,z,A,B⟩
theorem kJ{e:TypeId}{b:TypeInfo}{z:Value}(hi:P.info? e=some b)(c:b.zero=some z)(w:World):(zeroValue e).run P w= .ok z w:=by
 simp[zeroValue,run_typeInfo w hi,c]
theorem ig{S:Nat->Nat->Prop}{w:World}(z:Value):RV S w z (AV.ofVal z):=by
 unfold AV.ofVal;split
 ·rename_i b;split
  ·rename_i f
   have:=RV.agg (S:=S) (w:=w) b.toList (b.toList.map .lit) (by simp) (fun v g=>NB.1 f v g) fun i v c e d=>by
    rw[NE,e]at d;cases d;exact .lit _
   simpa using this
  exact .any _
 exact .lit _
theorem RV.fmapAt{S:Nat->Nat->Prop}{w:World}{v:Value}{es:List (List AV)}(h:RV S w v (.fmap es)):
 ∃g b c,v= .map (some g)/\w.heap[g]? =some (.map b c)/\b.size=es.length/\
  ∀(i:Nat)(e:List AV),es[i]? =some e-> ∃l f j,b[i]? =some l/\e=[f,j]/\RV S w l.key f/\RV S w l.val j:=by
 cases h with
 | fmap g b c es y q n u r t=>
   refine⟨g,b,c,rfl,q,n,fun i e k=> ?_⟩;have d:i<b.size:=by rw[n];exact(Mt.1 k).1
   have p:=u i e k
   match e,p with
   |[f,j],_=>exact⟨b[i],f,j,OR d,rfl,r i _ f (OR d) (by unfold bx;rw[k];rfl),t i _ j (OR d) (by unfold bx;rw[k];rfl)⟩
theorem yP{t:TypeId}{y k:Operand}{ok:Bool}(J:o.op= .lookup t y k ok)(C:dT x s a w m)(h:(ae P x.env s.f o).run s=some out):dh P x s a w o out:=by
 have hy:=ao C y;have W:=ao C k;unfold ae at h;simp only[J]at h;unfold lW at h;split at h
 ·rename_i r ver kt et z n z' e1 hd;rw[e1]at hy;obtain⟨row,Z,hver,hsz,h⟩:=DP h;obtain⟨g,A,O,L,_,_,I,hD,X⟩:=C.mapAt hy Z hver hsz;have Y:=hD.1;obtain⟨K,ie,hi,hz⟩:=r9 hd;split at h
  ·rename_i R;obtain⟨Q,hc2⟩:=R;obtain⟨b,D⟩:=PW.1 Q;have l:=j9 (P:=P) (w:=w) (em:=A.isEmpty) D W
   have B: ∀(j:Nat)(e:List AV),row.es[j]? =some e-> ∃u H V,A[j]? =some u/\e=[H,V]/\RV m.S w u.key H:=fun j e hj=>by
    obtain⟨u,H,V,T,U,M,_⟩:=X j e hj;exact⟨u,H,V,T,U,M⟩
   have E:=vl D;split at h
   ·rename_i i S;obtain⟨rr,p,u,T,U,H,N,M,_⟩:=ej E W Y B S;rw[M]at h;simp only[Rd.run,Mu]at h;subst h;obtain⟨en2,kc2,vc2,p1,p2,_,p4⟩:=X i _ M;rw[T]at p1;cases p1;simp only[PZ,Rt]at p2;obtain⟨_,rfl⟩:=p2;rw[U]at p
    have hval:RL w m s u.val N:=by
     split at p4
     ·exact .val p4
     exact p4
    cases ok with
    | false=>
      refine .same C (v:=u.val) ?_ rfl hval;unfold execOp;simp[J,L,Instr.lookup,NO K,OL I,l,p]
    | true=>
      have hp:row.pure=true:=by simpa using hc2
      rw[Mw hp]at p4;refine .same C (v:= .tuple #[u.val, .bool true]) ?_ rfl (.val ?_)
      ·unfold execOp;simp[J,L,Instr.lookup,NO K,OL I,l,p]
      exact .tuple [u.val, .bool true] [N, .lit (.bool true)] rfl fun i v c d f=>by
       match i,d,f with
       |0,d,f=>simp at d f;subst d f;exact p4
       |1,d,f=>simp at d f;subst d f;exact .lit _
       |i+2,d,f=>simp at d
   ·rename_i S;obtain⟨rr,p,q⟩:=ej E W Y B S;have q:rr=none:=q;subst q;simp only[Rd.run,Mu]at h;subst h;have G:=kJ (P:=P) hi hz w;cases ok with
    | false=>
      refine .same C (v:=z) ?_ rfl (.val (ig z));unfold execOp;simp[J,L,Instr.lookup,NO K,OL I,l,p,G]
    | true=>
      refine .same C (v:= .tuple #[z, .bool false]) ?_ rfl (.val ?_)
      ·unfold execOp;simp[J,L,Instr.lookup,NO K,OL I,l,p,G]
      exact .tuple [z, .bool false] [.ofVal z, .lit (.bool false)] rfl fun i v c d f=>by
       match i,d,f with
       |0,d,f=>simp at d f;subst d f;exact ig z
       |1,d,f=>simp at d f;subst d f;exact .lit _
       |i+2,d,f=>simp at d
   simp[Rd.run]at h
  simp[Rd.run]at h
 ·rename_i es kt et z n z' e1 hd;rw[e1]at hy;obtain⟨g,A,O,L,I,Y,X⟩:=hy.fmap_.fmapAt;obtain⟨K,ie,hi,hz⟩:=r9 hd;split at h
  ·rename_i Q;obtain⟨b,D⟩:=PW.1 Q;have l:=j9 (P:=P) (w:=w) (em:=A.isEmpty) D W
   have B: ∀(j:Nat)(e:List AV),es[j]? =some e-> ∃u H V,A[j]? =some u/\e=[H,V]/\RV m.S w u.key H:=fun j e hj=>by
    obtain⟨u,H,V,T,U,M,_⟩:=X j e hj;exact⟨u,H,V,T,U,M⟩
   have E:=vl D;split at h
   ·rename_i i S;obtain⟨rr,p,u,T,U,H,N,M,_⟩:=ej E W Y B S;rw[M]at h;simp only[Rd.run,Mu]at h;subst h;obtain⟨en2,kc2,vc2,p1,p2,_,p4⟩:=X i _ M;rw[T]at p1;cases p1;simp only[PZ,Rt]at p2;obtain⟨_,rfl⟩:=p2;rw[U]at p;cases ok with
    | false=>
      refine .same C (v:=u.val) ?_ rfl (.val p4);unfold execOp;simp[J,L,Instr.lookup,NO K,OL I,l,p]
    | true=>
      refine .same C (v:= .tuple #[u.val, .bool true]) ?_ rfl (.val ?_)
      ·unfold execOp;simp[J,L,Instr.lookup,NO K,OL I,l,p]
      exact .tuple [u.val, .bool true] [N, .lit (.bool true)] rfl fun i v c d f=>by
       match i,d,f with
       |0,d,f=>simp at d f;subst d f;exact p4
       |1,d,f=>simp at d f;subst d f;exact .lit _
       |i+2,d,f=>simp at d
   ·rename_i S;obtain⟨rr,p,q⟩:=ej E W Y B S;have q:rr=none:=q;subst q;simp only[Rd.run,Mu]at h;subst h;have G:=kJ (P:=P) hi hz w;cases ok with
    | false=>
      refine .same C (v:=z) ?_ rfl (.val (ig z));unfold execOp;simp[J,L,Instr.lookup,NO K,OL I,l,p,G]
    | true=>
      refine .same C (v:= .tuple #[z, .bool false]) ?_ rfl (.val ?_)
      ·unfold execOp;simp[J,L,Instr.lookup,NO K,OL I,l,p,G]
      exact .tuple [z, .bool false] [.ofVal z, .lit (.bool false)] rfl fun i v c d f=>by
       match i,d,f with
       |0,d,f=>simp at d f;subst d f;exact ig z
       |1,d,f=>simp at d f;subst d f;exact .lit _
       |i+2,d,f=>simp at d
   simp[Rd.run]at h
  simp[Rd.run]at h
 simp[Rd.run]at h
theorem CA.modify{c:Array MapEntry}{b n:Nat}(h:CA c b n)(i:Nat)(f:MapEntry->MapEntry)(p: ∀e,(f e).born=e.born):CA (c.modify i f) b n:=by
 refine⟨by simp[h.1],h.2.1,fun j k d=> ?_⟩;rw[Oe]at d;by_cases e:i=j
 ·rw[Mw e]at d;obtain⟨g,l,rfl⟩:=OK.1 d;rw[p];exact h.2.2 j g l
 rw[Mv e]at d;exact h.2.2 j k d
theorem CA.push{c:Array MapEntry}{b n:Nat}(h:CA c b n)(k v:Value):CA (c.push { key:=k,val:=v,born:=b }) (b+1) (n+1):=by
 refine⟨by simp[h.1],by rw[h.2.1],fun j f d=> ?_⟩;rw[Pe]at d;by_cases e:j=c.size
 ·rw[Mw e]at d;cases d;rw[h.2.1,e,h.1]
 rw[Mv e]at d;exact h.2.2 j f d
theorem CA.find{b:Array MapEntry}{c n:Nat}(h:CA b c n){i:Nat}(hi:i<n):b.findIdx? (fun e=>((e.born:Nat):Int)==((i:Nat):Int))=some i:=by
 rw[Array.findIdx?_eq_some_iff_getElem];refine⟨by rw[h.1];exact hi,?_,fun j d=> ?_⟩
 ·have:=h.2.2 i _ (OR (by rw[h.1];exact hi));simp[this]
 have:=h.2.2 j _ (OR (by rw[h.1];omega));simp[this];omega
theorem dT.remap(h:dT x s a w m){r g:Nat}{row row':Row}{z ents':Array MapEntry}{t clock':Nat}(c:s.rows r=some row)(v:row.sz=0)(l:row'.sz=0)(B:m.ρ r= .slice (some ⟨g,0,none⟩) 0 0)(S:x.w.heap.size<=g)(Q:w.heap[g]? =some (.map z t))
 (U:CA ents' clock' row'.es.length)(O: ∀(i:Nat)(e:List AV),row'.es[i]? =some e-> ∃y G E,ents'[i]? =some y/\e=[G,E]/\RV m.S w y.key G/\(if row'.pure then RV m.S w y.val E else RL w m s y.val E)):
 dT x (s.setRow r row') a { w with heap:=w.heap.setIfInBounds g (.map ents' clock') } m:=by
 have I:g<w.heap.size:=(N5.1 Q).1;have d: ∀k,k≠g->({ w with heap:=w.heap.setIfInBounds g (.map ents' clock') } :World).heap[k]? =w.heap[k]? :=fun k J=>by simp[Oq J]
 have H:({ w with heap:=w.heap.setIfInBounds g (.map ents' clock') } :World).heap[g]? =some (.map ents' clock'):=by simp[I]
 have f:(m.ρ r).ownBlock=some g:=by rw[B];rfl
 have A:=((h.rows r row c).map v).fresh g f;have j: ∀b o,m.S b o->l5 w ({ w with heap:=w.heap.setIfInBounds g (.map ents' clock') } :World) b o:=fun b o p=> .block (d b fun e=>A o (e ▸ p));have u: ∀b o,m.S b o->m.S b o/\l5 w ({ w with heap:=w.heap.setIfInBounds g (.map ents' clock') } :World) b o:=fun b o p=>⟨p,j b o p⟩;refine h.reset r row row' c (by rw[v,l]) ⟨rfl,rfl,rfl,by simp,fun q Y=>d q (by omega)⟩ j (fun k C K J N n=>d N fun e=>h.inj r k row C c J (Oq K) g f (e ▸ n)) (.inr ⟨l,⟨g,ents',clock',B,S,H,U,fun i e T=> ?_⟩,fun N n=>by rw[f]at n;cases n;exact A⟩) fun b R=>d b fun e=>h.Z5 r row c g f (e ▸ R);obtain⟨y,G,E,V,W,X,M⟩:=O i e T;refine⟨y,G,E,V,W,X.mono u,?_⟩;split at M
 ·rename_i L;rw[Mw L];exact M.mono u
 rename_i L;rw[Mv L];refine M.mono u (fun _=>ND _) fun k D _ p=> ?_;by_cases e:k=r
 ·subst e;simp only[St.setRow,aw,Mu]at p;subst p;exact⟨row,c,by rw[v,l],rfl⟩
 simp only[St.setRow,cU _ _ _ e]at p;exact⟨D,p,rfl,rfl⟩
theorem rO{t:TypeId}{y k v:Operand}(ho:o.op= .mapUpdate t y k v)(N:dT x s a w m)(h:(ae P x.env s.f o).run s=some out):dh P x s a w o out:=by
 have hy:=ao N y;have Q:=ao N k;have hvv:=ao N v;unfold ae at h;simp only[ho]at h;unfold gJ at h;split at h
 ·rename_i r ver kt et z n z' e1 hd;rw[e1]at hy;obtain⟨d,u,Y,C,h⟩:=DP h;obtain⟨g,f,c,hv,hρ,p,O,hD,hE⟩:=N.mapAt hy u Y C;have hl:=hD.1;obtain⟨hu,ie,hi,hz⟩:=r9 hd;split at h
  ·rename_i J;obtain⟨hc1,hc2,U⟩:=J;obtain⟨b,T⟩:=PW.1 hc1;have E:=j9 (P:=P) (w:=w) (em:=false) T Q
   have S: ∀(j:Nat)(e:List AV),d.es[j]? =some e-> ∃G kc vc,f[j]? =some G/\e=[kc,vc]/\RV m.S w G.key kc:=fun j e l=>by
    obtain⟨G,kc,vc,R,q2,q3,_⟩:=hE j e l;exact⟨G,kc,vc,R,q2,q3⟩
   have W:=vl T;have V:=Q.bare hc2
   have Z:if d.pure then RV m.S w (a.eval v) (gt x.env s.f v) else RL w m s (a.eval v) (gt x.env s.f v):=by
    cases hp:d.pure with
    | true=>
      rw[hp]at U;simp only[Nn];exact hvv.bare (by simpa using U)
    |false=>simp only[NW,OB];exact hvv
   split at h
   ·rename_i i hf;obtain⟨rr,D,G,R,q2,kc,vc',q3,q4⟩:=ej W Q hl S hf;simp only[Rd.run,Mu]at h;subst h;rw[q2]at D;obtain⟨en2,kc2,vc2,p1,p2,p3,p4⟩:=hE i _ q3;rw[R]at p1;cases p1;simp only[PZ,Rt]at p2;obtain⟨rfl,rfl⟩:=p2;obtain⟨B,_⟩:=zt q4 Q (RL.val p3);have X:=(zt (P:=P) (w:=w) q4 Q (RL.val p3)).2;have hil:i<f.size:=(N5.1 R).1;have K:(Instr.keyThatStays G.key (a.eval k)).run P w= .ok (a.eval k) w:=by rw[<-B];rw[<-B]at X;exact X
    have A:(Instr.mapUpdate t (.map (some g)) (a.eval k) (a.eval v)).run P w= .ok () { w with heap:=w.heap.setIfInBounds g (.map (f.modify i fun e=>{ e with key:=a.eval k,val:=a.eval v }) c) } :=by
     unfold Instr.mapUpdate;simp only[N2,NO hu,NR,OL O,E,D,R,NU,OJ,K];rw[Pa _ O]
    have I:=N.remap (ents':=f.modify i fun e=>{ e with key:=a.eval k,val:=a.eval v }) (clock':=c) (row':={ d with es:=d.es.set i [gt x.env s.f k,gt x.env s.f v] }) u C C hρ p O (by simpa using hD.modify i (fun e=>{ e with key:=a.eval k,val:=a.eval v }) fun _=>rfl) fun j e l=>by
     have l:(d.es.set i [gt x.env s.f k,gt x.env s.f v])[j]? =some e:=l;rw[O0]at l;by_cases e0:i=j
     ·subst e0;rw[Mw rfl,Mw (by omega)]at l;cases l;exact⟨{ G with key:=a.eval k,val:=a.eval v },_,_,by simp[Oe,R],rfl,V,Z⟩
     rw[Mv e0]at l;obtain⟨H,L,M,r1,r2,r3,r4⟩:=hE j e l;exact⟨H,L,M,by simp[Oe,e0,r1],r2,r3,r4⟩
    refine⟨.skip,_,m,undef,?_, .inr ⟨rfl,rfl⟩,I, .val (.any _)⟩;unfold execOp;simp only[ho,hv,N2,A,NR,Nq]
   ·rename_i hf;obtain⟨rr,D,q⟩:=ej W Q hl S hf;have q:rr=none:=q;subst q;simp only[Rd.run,Mu]at h;subst h
    have A:(Instr.mapUpdate t (.map (some g)) (a.eval k) (a.eval v)).run P w= .ok () { w with heap:=w.heap.setIfInBounds g (.map (f.push { key:=a.eval k,val:=a.eval v,born:=c }) (c+1)) } :=by
     unfold Instr.mapUpdate;simp only[N2,NO hu,NR,OL O,E,D];rw[Pa _ O]
    have I:=N.remap (ents':=f.push { key:=a.eval k,val:=a.eval v,born:=c }) (clock':=c+1) (row':={ d with es:=d.es++[[gt x.env s.f k,gt x.env s.f v]] }) u C C hρ p O (by simpa using hD.push (a.eval k) (a.eval v)) fun j e l=>by
     have l:(d.es++[[gt x.env s.f k,gt x.env s.f v]])[j]? =some e:=l;by_cases hjl:j<d.es.length
     ·rw[N9 hjl]at l;obtain⟨H,L,M,r1,r2,r3,r4⟩:=hE j e l;exact⟨H,L,M,by rw[Pe,Mv (by omega)];exact r1,r2,r3,r4⟩
     have hje:j=d.es.length:=by
      have:=(Mt.1 l).1;simp at this;omega
     subst hje;simp at l;subst l;exact⟨{ key:=a.eval k,val:=a.eval v,born:=c },_,_,by rw[Pe,Mw hl.symm],rfl,V,Z⟩
    refine⟨.skip,_,m,undef,?_, .inr ⟨rfl,rfl⟩,I, .val (.any _)⟩;unfold execOp;simp only[ho,hv,N2,A,NR,Nq]
   simp[Rd.run]at h
  simp[Rd.run]at h
 simp[Rd.run]at h
theorem sE{t:TypeId}{y k:Operand}(ho:o.op= .mapEntry t y k)(W:dT x s a w m)(h:(ae P x.env s.f o).run s=some out):dh P x s a w o out:=by
 have hy:=ao W y;have Y:=ao W k;unfold ae at h;simp only[ho]at h;unfold iV at h;split at h
 ·rename_i r ver kt et z n z' e1 hd;rw[e1]at hy;obtain⟨f,B,hver,D,h⟩:=DP h;obtain⟨g,l,d,hv,S,E,X,Z,hE⟩:=W.mapAt hy B hver D;have hl:=Z.1;obtain⟨hu,ie,hi,hz⟩:=r9 hd;split at h
  ·rename_i O;obtain⟨hc1,hc2⟩:=O;obtain⟨b,hb1⟩:=PW.1 hc1;have K:=j9 (P:=P) (w:=w) (em:=false) hb1 Y
   have hE': ∀(j:Nat)(e:List AV),f.es[j]? =some e-> ∃C kc vc,l[j]? =some C/\e=[kc,vc]/\RV m.S w C.key kc:=fun j e A=>by
    obtain⟨C,kc,vc,U,q2,q3,_⟩:=hE j e A;exact⟨C,kc,vc,U,q2,q3⟩
   have hkt:=vl hb1;have hkr:=Y.bare hc2;split at h
   ·rename_i i hf;obtain⟨rr,I,C,U,q2,kc,J,q3,q4⟩:=ej hkt Y hl hE' hf;rw[q3]at h;simp only[Rd.run,Mu]at h;subst h;rw[q2]at I;obtain⟨en2,kc2,vc2,p1,p2,p3,p4⟩:=hE i _ q3;rw[U]at p1;cases p1;simp only[PZ,Rt]at p2;obtain⟨rfl,rfl⟩:=p2;obtain⟨H,_⟩:=zt q4 Y (RL.val p3);have hst:=(zt (P:=P) (w:=w) q4 Y (RL.val p3)).2;have hil:i<l.size:=(N5.1 U).1;have R:(Instr.keyThatStays C.key (a.eval k)).run P w= .ok (a.eval k) w:=by rw[<-H];rw[<-H]at hst;exact hst
    have N:C.born=i:=Z.2.2 i C U
    have G:(Instr.mapEntry t (.map (some g)) (a.eval k)).run P w= .ok (.tuple #[C.val, .int .i64 (i:Nat)]) { w with heap:=w.heap.setIfInBounds g (.map (l.modify i fun e=>{ e with key:=a.eval k }) d) } :=by
     unfold Instr.mapEntry;simp only[N2,NO hu,NR,OL X,K,I,U,NU,OJ,R];rw[Pa _ X];simp[goInt,N]
    have M:=W.remap (ents':=l.modify i fun e=>{ e with key:=a.eval k }) (clock':=d) (row':={ f with es:=f.es.set i [gt x.env s.f k,J] }) B D D S E X (by simpa using Z.modify i (fun e=>{ e with key:=a.eval k }) fun _=>rfl) fun j e A=>by
     have A:(f.es.set i [gt x.env s.f k,J])[j]? =some e:=A;rw[O0]at A;by_cases e0:i=j
     ·subst e0;rw[Mw rfl,Mw (by omega)]at A;cases A;exact⟨{ C with key:=a.eval k },_,_,by simp[Oe,U],rfl,hkr,p4⟩
     rw[Mv e0]at A;obtain⟨L,T,V,r1,r2,r3,r4⟩:=hE j e A;exact⟨L,T,V,by simp[Oe,e0,r1],r2,r3,r4⟩
    have hval:RL w m s C.val J:=by
     split at p4
     ·exact .val p4
     exact p4
    refine⟨.value (.tuple #[C.val, .int .i64 (i:Nat)]),_,m, .tuple #[C.val, .int .i64 (i:Nat)],?_, .inl rfl,M,?_⟩
    ·unfold execOp;simp only[ho,hv,N2,G,NR,Nq]
    ·have hS': ∀b o,m.S b o->m.S b o/\l5 w ({ w with heap:=w.heap.setIfInBounds g (.map (l.modify i fun e=>{ e with key:=a.eval k }) d) } :World) b o:=fun b o Q=>⟨Q, .block (by
      have hne:b≠g:=fun e=>((W.rows r f B).map D).fresh g (by rw[S];rfl) o (e ▸ Q)
      simp[Oq hne])⟩
     refine RL.tuple [C.val, .int .i64 (i:Nat)] [J, .lit (.int .i64 (i:Nat))] rfl fun j v c p u=> ?_
     match j,p,u with
     | 0,p,u=>
       simp at p u;subst p u;refine hval.mono hS' (fun _=>ND _) fun k row2 _ Q=> ?_;by_cases e:k=r
       ·subst e;simp only[ds,va.app,St.setRow,aw,Mu]at Q;subst Q;exact⟨f,B,rfl,rfl⟩
       simp only[ds,va.app,St.setRow,cU _ _ _ e]at Q;exact⟨row2,Q,rfl,rfl⟩
     |1,p,u=>simp at p u;subst p u;exact .val (.lit _)
     |j+2,p,u=>simp at p
   ·rename_i hf;obtain⟨rr,I,q⟩:=ej hkt Y hl hE' hf;have q:rr=none:=q;subst q;simp only[Rd.run,Mu]at h;subst h;have hzr:=kJ (P:=P) hi hz w
    have G:(Instr.mapEntry t (.map (some g)) (a.eval k)).run P w= .ok (.tuple #[z, .int .i64 (f.es.length:Nat)]) { w with heap:=w.heap.setIfInBounds g (.map (l.push { key:=a.eval k,val:=z,born:=d }) (d+1)) } :=by
     unfold Instr.mapEntry;simp only[N2,NO hu,NR,OL X,K,I,hzr];rw[Pa _ X];simp[goInt,Z.2.1]
    have M:=W.remap (ents':=l.push { key:=a.eval k,val:=z,born:=d }) (clock':=d+1) (row':={ f with es:=f.es++[[gt x.env s.f k, .ofVal z]] }) B D D S E X (by simpa using Z.push (a.eval k) z) fun j e A=>by
     have A:(f.es++[[gt x.env s.f k, .ofVal z]])[j]? =some e:=A;by_cases hjl:j<f.es.length
     ·rw[N9 hjl]at A;obtain⟨L,T,V,r1,r2,r3,r4⟩:=hE j e A;exact⟨L,T,V,by rw[Pe,Mv (by omega)];exact r1,r2,r3,r4⟩
     ·have hje:j=f.es.length:=by
       have:=(Mt.1 A).1;simp at this;omega
      subst hje;simp at A;subst A;refine⟨{ key:=a.eval k,val:=z,born:=d },_,_,by rw[Pe,Mw hl.symm],rfl,hkr,?_⟩;cases hp:f.pure with
      |true=>exact ig z
      |false=>exact .val (ig z)
    refine⟨.value (.tuple #[z, .int .i64 (f.es.length:Nat)]),_,m, .tuple #[z, .int .i64 (f.es.length:Nat)],?_, .inl rfl,M, .val ?_⟩
    ·unfold execOp;simp only[ho,hv,N2,G,NR,Nq]
    exact .tuple [z, .int .i64 (f.es.length:Nat)] [.ofVal z, .lit (.int .i64 (f.es.length:Nat))] rfl fun i v c p u=>by
     match i,p,u with
     |0,p,u=>simp at p u;subst p u;exact ig z
     |1,p,u=>simp at p u;subst p u;exact .lit _
     |i+2,p,u=>simp at p
   simp[Rd.run]at h
  simp[Rd.run]at h
 simp[Rd.run]at h
theorem pQ{t:TypeId}{y n v:Operand}(V:o.op= .entryStore t y n v)(u:dT x s a w m)(h:(ae P x.env s.f o).run s=some out):dh P x s a w o out:=by
 have W:=ao u y;have I:=ao u n;have E:=ao u v;unfold ae at h;simp only[V]at h;unfold eS at h;split at h
 ·rename_i r ver X n e1 e2;rw[e1]at W;rw[e2]at I;have I:=I.lit_;obtain⟨b,f,D,q,h⟩:=DP h;obtain⟨g,d,c,hv,R,k,O,L,U⟩:=u.mapAt W f D q;have hl:=L.1;split at h
  ·rename_i l;obtain⟨h0,z⟩:=l;split at h
   ·rename_i Y vc0 Z;simp only[Rd.run,Mu]at h;subst h;have B:n.toNat<b.es.length:=(Mt.1 Z).1;have A:=L.find B;rw[show ((n.toNat:Nat):Int)=n by omega]at A
    have Q:if b.pure then RV m.S w (a.eval v) (gt x.env s.f v) else RL w m s (a.eval v) (gt x.env s.f v):=by
     cases hp:b.pure with
     | true=>
       rw[hp]at z;simp only[Nn];exact E.bare (by simpa using z)
     |false=>simp only[NW,OB];exact E
    have C:(Instr.entryStore t (.map (some g)) (.int X n) (a.eval v)).run P w= .ok () { w with heap:=w.heap.setIfInBounds g (.map (d.modify n.toNat fun e=>{ e with val:=a.eval v }) c) } :=by
     have N:(asInt (.int X n)).run P w= .ok n w:=rfl;unfold Instr.entryStore;simp only[N2,OL O,NR,N,A];rw[Pa _ O]
    have M:=u.remap (ents':=d.modify n.toNat fun e=>{ e with val:=a.eval v }) (clock':=c) (row':={ b with es:=b.es.set n.toNat [Y,gt x.env s.f v] }) f q q R k O (by simpa using L.modify n.toNat (fun e=>{ e with val:=a.eval v }) fun _=>rfl) fun j e p=>by
     have p:(b.es.set n.toNat [Y,gt x.env s.f v])[j]? =some e:=p;rw[O0]at p;by_cases K:n.toNat=j
     ·subst K;rw[Mw rfl,Mw B]at p;cases p;obtain⟨i,G,H,S,J,T,r4⟩:=U _ _ Z;simp only[PZ,Rt]at J;obtain⟨rfl,rfl⟩:=J;exact⟨{ i with val:=a.eval v },_,_,by simp[Oe,S],rfl,T,Q⟩
     rw[Mv K]at p;obtain⟨i,G,H,S,J,T,r4⟩:=U j e p;exact⟨i,G,H,by simp[Oe,K,S],J,T,r4⟩
    refine⟨.skip,_,m,undef,?_, .inr ⟨rfl,rfl⟩,M, .val (.any _)⟩;unfold execOp;simp only[V,hv,I,N2,C,NR,Nq]
   simp[Rd.run]at h
  simp[Rd.run]at h
 simp[Rd.run]at h
theorem Ax{t b:TypeId}{y k:Operand}(d:o.op= .call { callee:= .builtin .delete,args:= #[y,k],argTypes:= #[t,b] }){v:Value}{c:World}(h:(Builtin.delete_ #[t,b] o.type #[a.eval y,a.eval k]).run P w= .ok v c):(execOp a.eval o).run P w= .ok (.value v) c:=by
 unfold execOp;simp only[d,resolve,invoke,builtin,N2,Nq,NR,RF,Nh,O3,h]
theorem Hz{t Q:TypeId}{y k:Operand}(Y:o.op= .call { callee:= .builtin .delete,args:= #[y,k],argTypes:= #[t,Q] })(A:dT x s a w m)(h:(ji P t (gt x.env s.f y) (gt x.env s.f k)).run s=some out):dh P x s a w o out:=by
 have O:=ao A y;have N:=ao A k;unfold ji at h;split at h
 ·rename_i r ver kt et z n z' R U;rw[R]at O;obtain⟨L,l,u,K,h⟩:=DP h;obtain⟨g,c,d,hv,hρ,E,B,S,T⟩:=A.mapAt O l u K;have X:=S.1;obtain⟨Z,ie,hi,hz⟩:=r9 U;split at h
  ·rename_i G;obtain⟨b,f⟩:=PW.1 G;have i:=j9 (P:=P) (w:=w) (em:=c.isEmpty) f N
   have D: ∀(j:Nat)(e:List AV),L.es[j]? =some e-> ∃v C M,c[j]? =some v/\e=[C,M]/\RV m.S w v.key C:=fun j e W=>by
    obtain⟨v,C,M,q1,q2,q3,_⟩:=T j e W;exact⟨v,C,M,q1,q2,q3⟩
   have J:=vl f;split at h
   ·rename_i V;obtain⟨rr,H,q⟩:=ej J N X D V;have q:rr=none:=q;subst q;simp only[Rd.run,Mu]at h;subst h;have I:g<w.heap.size:=(N5.1 B).1
    have hw:({ w with heap:=w.heap.setIfInBounds g (.map c d) } :World)=w:=by
     have:w.heap.setIfInBounds g (.map c d)=w.heap:=by
      apply Array.ext_getElem?;intro q;rw[Array.getElem?_setIfInBounds];by_cases e:g=q
      ·subst e;rw[Mw rfl,Mw I,B]
      rw[Mv e]
     rw[this]
    have p:(Builtin.delete_ #[t,Q] o.type #[.map (some g),a.eval k]).run P w= .ok (.tuple #[]) w:=by
     simp[Builtin.delete_,NO Z,OL B,i,H,Pa _ B,hw]
    exact⟨.value (.tuple #[]),w,m, .tuple #[],Ax Y (by rw[hv];exact p), .inl rfl,A, .val (.any _)⟩
   ·simp[Rd.run]at h
   simp[Rd.run]at h
  simp[Rd.run]at h
 simp[Rd.run]at h
end
section
variable {P:Program} {x:ph} {s:St} {a:Act} {w:World} {m:lP} {o:Oper} {out:Out}
theorem rP{t:TypeId}{l c:Operand}(C:o.op= .makeSlice t l c)(y:dT x s a w m)(h:(ae P x.env s.f o).run s=some out):dh P x s a w o out:=by
 have u:=ao y l;have r:=ao y c;unfold ae at h;simp only[C]at h;unfold vt at h;split at h
 ·rename_i e f eb g n0 z0 k n D n' d L el J B;rw[el]at u;rw[J]at r;have u:=u.lit_;have r:=r.lit_;obtain⟨M,V,G,O,Q,R,T,U⟩:=bH L;split at h
  ·simp[Rd.run]at h
  rename_i b;simp only[Rj,QY]at b;obtain⟨H,Y,rfl,Z,c5,c6,I⟩:=b;simp only[Rd.run,Mu]at h;subst h;have j:0<f:=by omega
  have A: ∀v∈g,v.oneCell'=true:=fun v N=>(NB.1 I) v N;have K:=x0.rep (S:=m.S) (w:=w) n.toNat H A j;obtain⟨W,X,E⟩:=qk (d:=d) (e:=e) y j (by simp[maxLen];omega) K;have q:(List.replicate n.toNat (g.map AV.lit)).length=n.toNat:=by simp
  rw[q]at E;have z:G.cells=g.toArray:=by simp[<-U]
  have p:(Instr.makeSlice t (.int k n) (.int D n)).run P w= .ok (.slice (some ⟨w.heap.size,0,none⟩) n.toNat n.toNat) (w.alloc (.cells ((Array.range (n.toNat*f)).map (g.toArray[· % g.toArray.size]!)) e)):=by
   have:=run_make (P:=P) w t e V G M O Q k D n n (by omega) (RP _) (by rw[T];omega) (by omega);rw[z,R]at this;exact this
  refine⟨_,_,W,_,?_, .inl rfl,X,E⟩;have i:((Array.range (n.toNat*f)).map (g.toArray[· % g.toArray.size]!))=((Array.range (n.toNat*f)).map (g.toArray[· % g.toArray.size]!)).toList.toArray:=Nz.symm;rw[i]at p;unfold execOp;simp only[C,u,r,N2,p,NR,Nq]
 simp[Rd.run]at h
theorem gl{c b:TypeId}{y:Operand}(e:o.op= .convert c b y){v:Value}{d:World}(h:(convert c b (a.eval y)).run P w= .ok v d):(execOp a.eval o).run P w= .ok (.value v) d:=by
 unfold execOp;simp only[e,N2,h,NR,Nq]
theorem rE: ∀(es:List (List AV))(l:List UInt8),wd es=some l->es.length=l.length/\ ∀(i:Nat)(b:UInt8),l[i]? =some b->bx es i 0=some (.lit (.int .u8 (b.toNat:Int)))
 | [],l,h=>by
   simp only[wd,Mu]at h;subst h;exact⟨rfl,fun i b d=>by simp at d⟩
 | e::es,l,h=>by
   simp only[wd]at h;split at h
   ·rename_i b p d k;cases h;obtain⟨g,j⟩:=rE es p k;refine⟨by simp[g],fun i c f=> ?_⟩;cases i with
    | zero=>
      simp only[Nr,Mu]at f;subst f;unfold byteOf at d;split at d
      ·rename_i n;split at d
       ·rename_i q;cases d;simp only[bx,Nr,OD]
        congr 3
        simp;omega
       cases d
      cases d
    | succ i=>
      have:=j i c (by simpa using f);unfold bx at this |-;simpa using this
   cases h
theorem uO(l:List UInt8)(i j:Nat)(c:AV)(h:bx (l.map TS) i j=some c):j=0/\ ∃b,l[i]? =some b/\c= .lit (.int .u8 (b.toNat:Int)):=by
 unfold bx at h;rw[NE]at h;cases d:l[i]? with
 |none=>rw[d]at h;cases h
 | some b=>
   rw[d]at h;cases j with
   |zero=>simp[TS]at h;exact⟨rfl,b,rfl,h.symm⟩
   |succ j=>simp[TS]at h
theorem v8{I G:TypeId}{y:Operand}(ho:o.op= .convert I G y)(J:dT x s a w m)(h:(ae P x.env s.f o).run s=some out):dh P x s a w o out:=by
 have E:=ao J y;unfold ae at h;simp only[ho]at h;unfold vw at h;split at h
 ·rename_i k n d k' n' z' V B C;simp only[Rd.run,Mu]at h;subst h;rw[V]at E;have E:=E.lit_;have t:=o9 C;obtain⟨i1,S,z1,hi1,f,_⟩:=gU B;refine .same J (v:= .int k' (k'.wrap n)) (gl ho ?_) rfl (.val (.lit _));rw[E];cases S<;>simp[convert,NO f,NO t,Conv.intToInt]
 ·rename_i str d n' z' V B C;simp only[Rd.run,Mu]at h;subst h;rw[V]at E;have E:=E.lit_;have t:=dH C;obtain⟨i1,S,z1,hi1,f,_⟩:=gU B;refine .same J (v:= .string str) (gl ho ?_) rfl (.val (.lit _));rw[E];cases S<;>simp[convert,NO f,NO t]
 ·rename_i str n1 z1 e esz eb ez n2 z2 V B C;rw[V]at E;have E:=E.lit_;split at h
  ·rename_i n3 z3 R;simp only[Rd.run,Mu]at h;subst h;obtain⟨t,_⟩:=bH C;have f:=dH B;have D:=o9 R;obtain⟨c,w1,z,hb,hr⟩:=EH (P:=P) w I G e (bR str) f t D;rw[<-sO]at z;obtain⟨T,L⟩: ∃T:Nat->Nat->Prop,T=fun b o=>m.S b o\/(b=w.heap.size/\b<w1.heap.size/\o< (bR str).length):=⟨_,rfl⟩
   have hS2:dT x s a w1 ⟨T,m.ρ⟩:=J.move rfl (hb.mono J.Z4.size) (fun b o K=>⟨by rw[L];exact .inl K,hb.stay (J.low b o K)⟩) (fun b o K=>by
    rw[L]at K;rcases K with K|⟨rfl,K,_⟩
    ·exact .inl K
    ·exact .inr ⟨ND _,K⟩) (fun r row hrr g Y=>by
    exact hb.block g ((J.rows r row hrr).blk Y).2) (fun b hf=>hb.block b (J.fxlt hf))
   refine⟨_,w1,⟨T,m.ρ⟩,_,gl ho (by rw[E];exact z), .inl rfl,hS2, .val ?_⟩
   have hlt:0< (bR str).length->w.heap.size<w1.heap.size:=fun h0=>by
    obtain⟨b,off,e2,_,N⟩:=hr.2 h0;cases e2;have:=N 0 _ (by rw[Ms (by rw[MU];exact h0)]);rcases P8 w.heap.size w1.heap.size with q|q
    ·exact q
    simp[World.cell?,P7 q]at this
   have W:(bR str).length<=c:=by
    have:=run_bytes_of_string w I G e str f t D;rw[z]at this;injection this with e3 _
    injection e3 with _ _ e4
    rw[e4, <-jW];exact SC _ _ _ _
   refine .seq _ _ c 1 _ w.heap.size 0 (fun i _=> .int .u8 (((bR str).getD i 0).toNat:Int)) (by simp) W (fun _=>rfl) (fun i e X=> ?_) (fun i j c' N=> ?_) fun i j c' N=> ?_
   ·rw[NE]at X;cases hq:(bR str)[i]? with
    |none=>rw[hq]at X;cases X
    |some b=>rw[hq]at X;cases X;rfl
   ·obtain⟨rfl,b,H,rfl⟩:=uO _ i j c' N;have hi:i< (bR str).length:=(Mt.1 H).1;obtain⟨b',off,e2,_,Q⟩:=hr.2 (by omega);cases e2;refine⟨by rw[L];exact .inr ⟨rfl,hlt (by omega),by omega⟩,?_,rfl⟩;have hu:(bv (bR str))[i]? =some (.int .u8 (b.toNat:Int)):=by unfold bv;rw[NE,H];rfl
    have:=Q i _ hu;have Y:(bR str).getD i 0=b:=by simp[List.getD,H]
    rw[Y];simpa using this
   obtain⟨rfl,b,H,rfl⟩:=uO _ i j c' N;have Y:(bR str).getD i 0=b:=by simp[List.getD,H]
   rw[Y];exact .lit _
  simp[Rd.run]at h
 ·rename_i e esz eb ez n1 z1 n2 z2 B C hno;split at h
  ·rename_i n3 z3 R;obtain⟨f,_⟩:=bH B;have t:=dH C;have D:=o9 R;obtain⟨q,hq,h⟩:=fI h;obtain⟨r,hr,h⟩:=fI h;split at h
   ·rename_i hsz;cases M:wd r.2 with
    |none=>rw[M]at h;simp[Rd.run]at h
    | some l=>
      rw[M]at h;simp only[Rd.run,Mu]at h;subst h;obtain⟨T,q1,q2,q3⟩:=pC hq J E;obtain⟨A,n,U,cl,hv,hn,hA,hE0⟩:=Sz hr q3;have hE:x0 T w 1 cl r.2:=hE0.resize (by rcases hsz with e|e;exact .inl e;exact .inr e);obtain⟨hl,O⟩:=rE r.2 l M;refine⟨_,w,_, .string ⟨l.toArray⟩,gl ho ?_, .inl rfl,q1, .val (.lit _)⟩;rw[hv];by_cases h0:n=0
      ·have hl0:l=[]:=Nl (by omega);subst hl0;subst h0;cases A with
       |none=>exact run_convert_bytes_nil w I e f D 0 U G t
       |some ad=>simp[convert,NO f,NO t,NO D,Conv.bytesToString,loadCells,loadCellsFrom];rfl
      obtain⟨b,p,rfl,Q⟩:=hA (by omega)
      have z:=run_convert_bytes_arg (P:=P) w I e f D b p n U (l.map fun b=>(b.toNat:Int)) (by simp;omega) (fun i hi=>by
       have Z:i<l.length:=by omega
       have N:=O i l[i] (Ms Z);obtain⟨u,h1,h2⟩:=hE.cell i 0 _ N;cases h2;have:=Q i _ (by simpa using h1);rw[this]
       simp[List.getD,Z]) G t
      rw[z]
      congr 2
      unfold strOfNums
      congr 2
      rw[P4]
      conv=>rhs;rw[<-SG l]
      apply O6;intro b _;simp
   simp[Rd.run]at h
  simp[Rd.run]at h
 simp[Rd.run]at h
theorem vM{t:TypeId}{y:Operand}(b:o.op= .call { callee:= .builtin .len,args:= #[y],argTypes:= #[t] }){v:Value}(h:(Builtin.len_ #[t] o.type #[a.eval y]).run P w= .ok v w):(execOp a.eval o).run P w= .ok (.value v) w:=by
 unfold execOp;simp only[b,resolve,invoke,builtin,N2,Nq,NR,RF,Nh,O3,h]
theorem MK{t:TypeId}{y:Operand}(D:o.op= .call { callee:= .builtin .len,args:= #[y],argTypes:= #[t] })(k:dT x s a w m)(h:(zy P t (gt x.env s.f y)).run s=some out):dh P x s a w o out:=by
 have j:=ao k y;unfold zy at h;split at h
 ·rename_i str n z e l;rw[e]at j;have j:=j.lit_;have p:=dH l;simp only[Rd.run,Mu]at h;subst h;exact .same k (v:= .int .i64 (bR str).length) (vM D (by rw[j];simp[Builtin.len_,NO p,goInt,jW])) rfl (.val (.lit _))
 ·rename_i r J Z X zv n z e l;rw[e]at j;obtain⟨row,d,i,G,h⟩:=DP h;obtain⟨g,K,C,H,_,_,Q,O,_⟩:=k.mapAt j d i G;have R:=O.1;obtain⟨p,_⟩:=r9 l;simp only[Rd.run,Mu]at h;subst h;exact .same k (v:= .int .i64 row.es.length) (vM D (by rw[H];simp[Builtin.len_,NO p,goInt,OL Q,R])) rfl (.val (.lit _))
 ·rename_i e N W Y n z _ l;obtain⟨p,_⟩:=bH l;obtain⟨q,f,h⟩:=fI h;simp only[Rd.run,Mu]at h;subst h
  have I: ∃A c,a.eval y= .slice A q.2.length c:=by
   generalize gt x.env s.f y=L at*;cases L with
   | seq V M=>
     simp only[jU,Rd.run,Mu]at f;subst f;have T:=j.seq_;generalize a.eval y=vy at*;cases T with
     |seq A n B V M b o u S=>exact⟨A,B,by rw[S]⟩
   | lit u=>
     have:=j.lit_;rw[this];cases u with
     | slice A n c=>
       cases n with
       |zero=>simp only[jU,Rd.run,Mu]at f;subst f;exact⟨A,c,rfl⟩
       |succ n=>simp[jU,Rd.run]at f
     |_=>simp[jU,Rd.run]at f
   | row r J=>
     simp only[jU]at f;obtain⟨row,d,i,E,f⟩:=dm f;simp only[Rd.run,Mu]at f;subst f;rw[j.row_.2 i row d];obtain⟨xs,U,_⟩:=((k.rows r row d).cells E).own;obtain⟨A,c,e,_⟩:=wv U;exact⟨A,c,e⟩
   |_=>simp[jU,Rd.run]at f
  obtain⟨A,c,H⟩:=I;exact .same k (v:= .int .i64 q.2.length) (vM D (by rw[H];simp[Builtin.len_,NO p,goInt])) rfl (.val (.lit _))
 simp[Rd.run]at h
theorem MH{ts:Array TypeId}{y z:Operand}{k:IntKind}{p q:Int}(e:o.op= .call { callee:= .builtin .min,args:= #[y,z],argTypes:=ts })(d:dT x s a w m)(f:gt x.env s.f y= .lit (.int k p))(g:gt x.env s.f z= .lit (.int k q)):
 dh P x s a w o ⟨.lit (.int k (if q<p then q else p)),[]⟩:=by
 have b:=ao d y;have c:=ao d z;rw[f]at b;rw[g]at c;have b:=b.lit_;have c:=c.lit_;refine .same d (v:= .int k (if q<p then q else p)) ?_ rfl (.val (.lit _));unfold execOp;simp[e,resolve,invoke,builtin,b,c,Builtin.min_,Builtin.min2]
theorem MJ{ts:Array TypeId}{y z:Operand}{k:IntKind}{p q:Int}(e:o.op= .call { callee:= .builtin .max,args:= #[y,z],argTypes:=ts })(d:dT x s a w m)(f:gt x.env s.f y= .lit (.int k p))(g:gt x.env s.f z= .lit (.int k q)):
 dh P x s a w o ⟨.lit (.int k (if p<q then q else p)),[]⟩:=by
 have b:=ao d y;have c:=ao d z;rw[f]at b;rw[g]at c;have b:=b.lit_;have c:=c.lit_;refine .same d (v:= .int k (if p<q then q else p)) ?_ rfl (.val (.lit _));unfold execOp;simp[e,resolve,invoke,builtin,b,c,Builtin.max_,Builtin.max2]
theorem xF(c:dT x s a w m): ∀(l:List Operand)(vs:List Value),rb (l.map (gt x.env s.f))=some vs->l.map a.eval=vs
 |[],vs,h=>by cases h;rfl
 | y::l,vs,h=>by
   have e:=ao c y;rw[Nh]at h;cases d:gt x.env s.f y with
   | lit v=>
     rw[d]at h e;unfold rb at h;obtain⟨b,f,rfl⟩:=OK.1 h;rw[Nh,xF c l b f,e.lit_]
   |_=>rw[d]at h;cases h
theorem sF{fn:Fn}{first captured:Array Operand}(l:o.op= .makeFunc fn first captured)(f:dT x s a w m)(h:(ae P x.env s.f o).run s=some out):dh P x s a w o out:=by
 unfold ae at h;simp only[l]at h;cases fn with
 | func g=>
   simp only at h;split at h
   ·rename_i d;have n:first= #[]:=by simpa using d.1
    subst n;obtain rfl:=bG h;refine .same f (v:= .func (.func g) #[] (captured.map a.eval)) ?_ rfl ?_
    ·unfold execOp;simp[l,Instr.makeFunc]
    have:=RL.clo (w:=w) (m:=m) (s:=s) g (captured.toList.map a.eval) (captured.toList.map (gt x.env s.f)) (by simp) fun i v c k d=>by
     rw[NE]at k d;cases p:captured.toList[i]? with
     |none=>rw[p]at k;cases k
     |some y=>rw[p]at k d;cases k;cases d;exact ao f y
    rwa [show (captured.toList.map a.eval).toArray=captured.map a.eval by rw[<-RG,Nz]]at this
   rename_i d;split at h
   ·rename_i j;have n:first= #[]:=by simpa using j
    have b:captured= #[]:=by
     by_cases e:captured.isEmpty=true
     ·simpa using e
     exact absurd ⟨j,by simpa using e⟩ d
    subst n b;obtain rfl:=bG h;refine .same f (v:= .func (.func g) #[] #[]) ?_ rfl (.val (.lit _));unfold execOp;simp[l,Instr.makeFunc]
   unfold mb at h;split at h
   ·rename_i t q r;have b:captured= #[]:=by simpa using q
    subst b;obtain rfl:=bG h;refine .same f (v:= .func (.func g) (first.map a.eval) #[]) ?_ rfl ?_
    ·unfold execOp;simp[l,Instr.makeFunc]
    rw[show first.map a.eval=(first.toList.map a.eval).toArray by rw[<-RG,Nz],xF f _ t r];exact .val (.lit _)
   simp[Rd.run]at h
 |_=>simp[Rd.run]at h
theorem tz{t:TypeId}{y:Operand}(c:o.op= .call { callee:= .builtin .clear,args:= #[y],argTypes:= #[t] }){v:Value}{b:World}(h:(Builtin.clear_ #[t] o.type #[a.eval y]).run P w= .ok v b):(execOp a.eval o).run P w= .ok (.value v) b:=by
 unfold execOp;simp[c,resolve,invoke,builtin,h]
theorem sA(b:List Value)(n:Nat):(Builtin.zeroCells b.toArray n).toList=(List.replicate n b).flatten:=by
 have f:(List.replicate n b).flatten.length=n*b.length:=by simp
 apply Nv;intro k;by_cases d:k<n*b.length
 ·have c:0<b.length:=Nat.pos_of_ne_zero fun e=>by rw[e]at d;omega
  have g:k%b.length<b.length:=Qm _ c
  have h:(Builtin.zeroCells b.toArray n).toList[k]? =some b[k%b.length]:=by
   simp[Builtin.zeroCells,d,g]
  have i:(List.replicate n b).flatten[k/b.length*b.length+k%b.length]? =some b[k%b.length]:=by
   have j:k/b.length<n:=(Nat.div_lt_iff_lt_mul c).2 d;refine lF (List.replicate n b) (fun l p=>by rw[Qg p]) _ _ b _ (by simp[j]) (Ms g)
  rw[h, <-i,Q8]
 rw[NL (by simp[Builtin.zeroCells];omega),NL (by omega)]
theorem Jp{t:TypeId}{y:Operand}(ho:o.op= .call { callee:= .builtin .clear,args:= #[y],argTypes:= #[t] })(T:dT x s a w m)(h:(mh P t (gt x.env s.f y)).run s=some out):dh P x s a w o out:=by
 have hy:=ao T y;unfold mh at h;split at h
 ·rename_i r ver f e esz eb H n0 z0 ex hd;rw[ex]at hy;obtain⟨hu,ie,ze,i1,i2,i3,i4,i5⟩:=bH hd;simp only[Rd.run]at h;by_cases A:s.esc r=true
  ·rw[Mw A]at h;simp[Rd.run]at h
  have A:s.esc r=false:=by simpa using A
  rw[Mv (by simp[A])]at h;obtain⟨d,U,Z,hrz,h⟩:=dm h;split at h
  ·rename_i hc;obtain⟨⟨c1,c2,c3⟩,c4,c5⟩:=hc;simp only[Rd.run,Mu]at h;subst h;have S:=hy.sub_.2 Z d U;have k:=(T.rows r d U).cells hrz;obtain⟨xs,k1,k2,k3⟩:=k.own;have hz1: ∀v∈H,v.oneCell'=true:=fun v S=>(NB.1 c3) v S;have hzv:=kJ (P:=P) i1 i2;have hxl:=k1.1
   have W: ∀(i:Nat)(e:List AV),(d.es.take f++List.replicate (d.es.length-f) (H.map AV.lit))[i]? =some e->(i<f/\d.es[i]? =some e)\/(f<=i/\i<d.es.length/\e=H.map .lit):=fun i e B=>by
    rw[List.getElem?_append,NK,P3 c5]at B;split at B
    ·rename_i hi;rw[Na,Mw hi]at B;exact .inl ⟨hi,B⟩
    rename_i hi;rw[Pm]at B;split at B
    ·cases B;exact .inr ⟨by omega,by omega,rfl⟩
    cases B
   have C:(d.es.take f++List.replicate (d.es.length-f) (H.map AV.lit)).length=d.es.length:=by simp;omega
   have hzl: ∀(i:Nat)(e:List AV),(d.es.take f++List.replicate (d.es.length-f) (H.map AV.lit))[i]? =some e->e.length=d.sz:=fun i e B=>by
    rcases W i e B with⟨_,q⟩|⟨_,_,rfl⟩
    ·exact k.len i e q
    simp;omega
   have hze:ze.cells=H.toArray:=by rw[<-i5]
   by_cases hn:d.es.length=f
   ·
    have I:(Builtin.clear_ #[t] o.type #[a.eval y]).run P w= .ok (.tuple #[]) w:=by
     rw[S];rcases k1.2 with⟨N,e0⟩|⟨g,O,z,N,_⟩
     ·rw[N];simp[Builtin.clear_,NO hu,Pl]
     rw[N];simp only[Pl,hn,QA];split
     ·simp[Builtin.clear_,NO hu]
     simp[Builtin.clear_,NO hu]
    have X:({ d with es:=d.es.take f++List.replicate (d.es.length-f) (H.map AV.lit) } :Row)=d:=by
     rw[<-hn,QA,List.replicate_zero,OM,NS]
    have K:ds ([.set r { d with es:=d.es.take f++List.replicate (d.es.length-f) (H.map AV.lit) }]:List va) s=s:=by
     rw[X];simp only[ds,va.app,St.setRow]
     have:m6 s.rows r (some d)=s.rows:=by
      funext q
      by_cases e:q=r
      ·rw[e,aw,U]
      rw[cU _ _ _ e]
     rw[this]
    refine⟨_,w,m, .tuple #[],tz ho I, .inl rfl,by rw[K];exact T, .val (.any _)⟩
   rcases k1.2 with⟨N,e0⟩|⟨g,O,z,N,e2,e3,e4,e5,e6,e7⟩
   ·omega
   have D:(m.ρ r).ownBlock=some g:=by rw[N];rfl
   have R:=k.fresh A g D;have hcur:d.es.length*d.sz<=z.size:=by rw[e6];exact Ni _ e4
   obtain⟨G,M⟩: ∃G:List Value,G=(List.replicate (d.es.length-f) H).flatten:=⟨_,rfl⟩;have L:G.length=(d.es.length-f)*d.sz:=by rw[M];simp[c2,c1]
   have Y: ∀v∈G,v.oneCell'=true:=fun v S=>by
    rw[M]at S;obtain⟨l,hl,L⟩:=Rw.1 S;rw[Qg hl]at L;exact hz1 v L
   have hfit:f*d.sz+G.length=d.es.length*d.sz:=by rw[L, <-OX];congr 1;omega
   have K:=Rn P g (f*d.sz) d.e G 0 z w e3 (by omega) Y;simp only[PP]at K
   have I:(Builtin.clear_ #[t] o.type #[a.eval y]).run P w= .ok (.tuple #[]) (w.setRow g (ew z.toList (f*d.sz) G).toArray):=by
    rw[S,N];simp only[Pl];rw[Mv (by omega),NU,nq,OI];obtain⟨q,J⟩: ∃q,d.es.length-f=q+1:=⟨d.es.length-f-1,by omega⟩;have hzz:(Builtin.zeroCells ze.cells (d.es.length-f)).toList=G:=by rw[hze,sA,M]
    rw[J]at hzz |-;simp[Builtin.clear_,NO hu,hzv,hzz,K,ew]
   have hb:Below x.w.heap.size w (w.setRow g (ew z.toList (f*d.sz) G).toArray):=⟨rfl,rfl,rfl,by simp,fun q J=>PI w g q _ (by omega)⟩;have V: ∀b o,m.S b o->m.S b o/\l5 w (w.setRow g (ew z.toList (f*d.sz) G).toArray) b o:=fun b o hh=>⟨hh, .block (PI w g b _ fun e=>R o (e ▸ hh))⟩;have hx: ∀q,q<d.es.length*d.sz->xs[q]? =z.toList[q]? :=fun q J=>by rw[<-e7,Na,Mw J]
   refine⟨_,_,m, .tuple #[],tz ho I, .inl rfl,?_, .val (.any _)⟩;refine T.reset r d _ U rfl hb (fun b o hh=>(V b o hh).2) (fun q row1 hne J gq E=>PI w g gq _ (fun e=>T.inj r q d row1 U J (Oq hne) g D (e ▸ E))) ?_ fun b hf=>PI w g b _ fun e=>T.Z5 r d U g D (e ▸ hf);refine .inl ⟨k.pos,hzl,⟨ew xs (f*d.sz) G,⟨?_, .inr ⟨g,O,_,by rw[C];exact N,e2,QO w g z _ d.e _ e3,by rw[C];exact e4,e5,?_,?_⟩⟩,?_,?_⟩,fun B=> ?_,fun gq E o _=> ?_,fun _ gq E o=> ?_⟩
   ·rw[dP _ _ _ (by omega),C];exact hxl
   ·show (ew z.toList (f*d.sz) G).toArray.size=O*d.sz;rw[PE,dP _ _ _ (by simp;omega),ON,e6]
   ·show (ew z.toList (f*d.sz) G).toArray.toList.take ((d.es.take f++List.replicate (d.es.length-f) (H.map AV.lit)).length*d.sz)=ew xs (f*d.sz) G;apply Nv;intro q;rw[C,Qc,Na,bu z.toList _ _ (by simp;omega),bu xs _ _ (by omega)];split
    ·rename_i J;split
     ·exact(hx q J).symm
     split
     ·rfl
     exact(hx q J).symm
    rename_i J;rw[Mv (by omega),Mv (by omega),NL (by omega)]
   ·intro u hu;simp only[ew,N1]at hu;rcases hu with(hu|hu)|hu
    ·exact k2 u (Ot hu)
    ·exact Y u hu
    exact k2 u (P6 hu)
   ·intro i j c p;have Q:=eN hzl p;rw[C]at Q;show ∃u,(ew xs (f*d.sz) G)[i*d.sz+j]? =some u/\(if d.pure=true then _ else _);simp only[c4,Nn];rw[bu _ _ _ (by omega)];unfold bx at p;cases B:(d.es.take f++List.replicate (d.es.length-f) (H.map AV.lit))[i]? with
    |none=>rw[B]at p;cases p
    | some e=>
      rw[B]at p;have p:e[j]? =some c:=p;rcases W i e B with⟨q1,q2⟩|⟨q1,q2,rfl⟩
      ·obtain⟨u,u1,u2⟩:=k3 i j c (by unfold bx;rw[q2];exact p);rw[Mw c4]at u2;have:=kh (n:=f) q1 Q.2;exact⟨u,by rw[Mw this];exact u1,u2.mono V⟩
      ·rw[NE]at p;cases hj:H[j]? with
       |none=>rw[hj]at p;cases p
       | some v=>
         rw[hj]at p;cases p;refine⟨v,?_, .lit v⟩;have h1:f*d.sz<=i*d.sz:=Ni _ q1;have h2:=kh q2 Q.2;rw[Mv (by omega),Mw (by omega),M];have:=lF (List.replicate (d.es.length-f) H) (fun l hl=>by rw[Qg hl,c2,c1]) (i-f) j H v (by rw[Pm,Mw (by omega)]) hj;rw[<-this]
         congr 1
         rw[Nat.sub_mul];omega
   ·simp only[St.setRow]at B;rw[A]at B;cases B
   ·rw[D]at E;cases E;exact R o
   rw[D]at E;cases E;exact R o
  simp[Rd.run]at h
 simp[Rd.run]at h
theorem EB(j:dT x s a w m)(h:(ae P x.env s.f o).run s=some out):dh P x s a w o out:=by
 cases g:o.op with
 |move y=>exact Ct g j h
 |assign y=>exact yQ g j h
 |pick c y z=>exact Cs g j h
 |alloc t=>exact AY g j h
 |box t y=>exact GZ g j h
 |build t N=>exact AW g j h
 |buildSlice t n N=>exact pR g j h
 |load t y=>exact Cu g j h
 |store t y z=>exact AP g j h
 |nilCheck y=>exact sD g j h
 |binOp M t y z U=>exact AX g j h
 |unOp M t y=>exact Cr g j h
 |convert src K y=>exact v8 g j h
 |makeInterface t y=>exact lK g j h
 |makeSlice t l c=>exact rP g j h
 | makeMap t O=>
   cases O with
   |none=>exact vZ g j h
   |some y=>unfold ae at h;simp[g,Rd.run]at h
 |lookup t y k T=>exact yP g j h
 |makeFunc Q first E=>exact sF g j h
 |mapUpdate t y k v=>exact rO g j h
 |mapEntry t y k=>exact sE g j h
 |entryStore t y n v=>exact pQ g j h
 | slice t y S R J=>
   cases J with
   |none=>exact AQ g j h
   |some J=>exact Cv g j h
 |fieldAddr t y i=>exact rR g j h
 |field t y i=>exact AU g j h
 |indexAddr t y i=>exact rQ g j h
 |index t y i=>exact AR g j h
 |extract y i=>exact v7 g j h
 | call c=>
   obtain⟨B,args,d⟩:=c;cases B with
   | builtin b=>
     unfold ae at h;simp only[g]at h;split at h
     ·rename_i y t u C;have A:args= #[y]:=by rw[<-Nz (xs:=args),u]
      have D:d= #[t]:=by rw[<-Nz (xs:=d),C]
      subst A D;exact MK g j h
     ·rename_i y z t I u C;have A:args= #[y,z]:=by rw[<-Nz (xs:=args),u]
      have D:d= #[t,I]:=by rw[<-Nz (xs:=d),C]
      subst A D;split at h
      ·rename_i e;subst e;exact IJ g j h
      simp[Rd.run]at h
     ·rename_i y z u;have A:args= #[y,z]:=by rw[<-Nz (xs:=args),u]
      subst A;unfold ED at h;split at h
      ·rename_i k p L q G H;split at h
       ·rename_i e;subst e;obtain rfl:=bG h;exact MH g j G H
       simp[Rd.run]at h
      simp[Rd.run]at h
     ·rename_i y z u;have A:args= #[y,z]:=by rw[<-Nz (xs:=args),u]
      subst A;unfold EE at h;split at h
      ·rename_i k p L q G H;split at h
       ·rename_i e;subst e;obtain rfl:=bG h;exact MJ g j G H
       simp[Rd.run]at h
      simp[Rd.run]at h
     ·rename_i y t u C;have A:args= #[y]:=by rw[<-Nz (xs:=args),u]
      have D:d= #[t]:=by rw[<-Nz (xs:=d),C]
      subst A D;exact Jp g j h
     ·rename_i y z t I u C;have A:args= #[y,z]:=by rw[<-Nz (xs:=args),u]
      have D:d= #[t,I]:=by rw[<-Nz (xs:=d),C]
      subst A D;exact Hz g j h
     simp[Rd.run]at h
   |value f=>unfold ae at h;simp[g,Rd.run]at h
   |invoke r n=>unfold ae at h;simp[g,Rd.run]at h
 |_=>unfold ae at h;simp[g,Rd.run]at h
end
end
section
def Rd.log{a:Type} :Rd a->St->List Nat×List Nat
 | .ret _,_=>([],[])
 | .fail,_=>([],[])
 | .look r k,s=>(r::((k (s.rows r) (s.vs r)).log s).1,((k (s.rows r) (s.vs r)).log s).2)
 | .esc r k,s=>(((k (s.esc r)).log s).1,r::((k (s.esc r)).log s).2)
def Rd.frame{h:Type}(q:Rd h)(s s':St)(d: ∀r∈(q.log s).1,s'.rows r=s.rows r/\s'.vs r=s.vs r)(e: ∀r∈(q.log s).2,s'.esc r=s.esc r):q.run s'=q.run s/\q.log s'=q.log s:=by
 induction q with
 |ret a=>exact⟨rfl,rfl⟩
 |fail=>exact⟨rfl,rfl⟩
 | look r k f=>
   obtain⟨c,g⟩:=d r (by simp[Rd.log]);have:=f (s.rows r) (s.vs r) (fun q b=>d q (by simp[Rd.log,b])) (fun q b=>e q (by simpa[Rd.log]using b));simp only[Rd.run,Rd.log,c,g,this.1,this.2,NH]
 | esc r k f=>
   have c:=e r (by simp[Rd.log]);have:=f (s.esc r) (fun q b=>d q (by simpa[Rd.log]using b)) (fun q b=>e q (by simp[Rd.log,b]));simp only[Rd.run,Rd.log,c,this.1,this.2,NH]
def nv:List va->List Nat
 |[]=>[]
 | .renew r _::l | .grow r _::l | .set r _::l=>r::nv l
 | .show _::l=>nv l
def x6:List va->List Nat
 |[]=>[]
 | .show r::l=>r::x6 l
 |_::l=>x6 l
structure fU where
 rd:List Nat
 re:List Nat
 wr:List Nat
 we:List Nat
def eV:fU:=⟨[],[],[],[]⟩
def rc(q:Rd Out)(s:St)(a:Out):fU:=⟨(q.log s).1,(q.log s).2,nv a.Z3,x6 a.Z3⟩
def GS(a b:List Nat):Bool:=a.all fun x=> !b.contains x
def fU.apart(a b:fU):Bool:=GS a.wr (b.rd++b.re++b.wr++b.we)&&GS b.wr (a.rd++a.re++a.wr++a.we)&&GS a.we b.re&&GS b.we a.re
def eM{a b:List Nat}(h:GS a b=true){r:Nat}(c:r∈a)(d:r∈b):False:=by
 have:=(NB.1 h) r c;simp[d]at this
/-! Effects change places -/
def eT{s s':St}(a:s.f=s'.f)(b:s.rows=s'.rows)(c:s.vs=s'.vs)(d:s.esc=s'.esc):s=s':=by
 cases s;cases s';simp_all
def M0(l:List va)(s:St):(ds l s).f=s.f:=by
 induction l generalizing s with
 |nil=>rfl
 |cons e l a=>rw[ds,a];cases e<;>rfl
def IH(l:List va)(s:St)(r:Nat)(h:r∉nv l):(ds l s).rows r=s.rows r/\(ds l s).vs r=s.vs r:=by
 induction l generalizing s with
 |nil=>exact⟨rfl,rfl⟩
 | cons e l d=>
   cases e with
   | renew q a=>
     simp only[nv,NX,Rj]at h;obtain⟨b,c⟩:=d (s.renew q a false) h.2;rw[ds];exact⟨b.trans (cU _ _ _ h.1),c.trans (cU _ _ _ h.1)⟩
   | grow q a=>
     simp only[nv,NX,Rj]at h;obtain⟨b,c⟩:=d (s.renew q a (s.esc q)) h.2;rw[ds];exact⟨b.trans (cU _ _ _ h.1),c.trans (cU _ _ _ h.1)⟩
   | set q a=>
     simp only[nv,NX,Rj]at h;obtain⟨b,c⟩:=d (s.setRow q a) h.2;rw[ds];exact⟨b.trans (cU _ _ _ h.1),c⟩
   | «show» q=>
     simp only[nv]at h;obtain⟨b,c⟩:=d (s.show q) h;rw[ds];exact⟨b,c⟩
def Jx(l:List va)(s:St)(r:Nat)(h:r∉nv l)(b:r∉x6 l):(ds l s).esc r=s.esc r:=by
 induction l generalizing s with
 |nil=>rfl
 | cons e l c=>
   cases e with
   | renew q a=>
     simp only[nv,x6,NX,Rj]at h b;rw[ds];exact(c (s.renew q a false) h.2 b).trans (cU _ _ _ h.1)
   | grow q a=>
     simp only[nv,x6,NX,Rj]at h b;rw[ds];exact(c (s.renew q a (s.esc q)) h.2 b).trans (cU _ _ _ h.1)
   | set q a=>
     simp only[nv,x6,NX,Rj]at h b;rw[ds];exact c (s.setRow q a) h.2 b
   | «show» q=>
     simp only[nv,x6,NX,Rj]at h b;rw[ds];exact(c (s.show q) h b.2).trans (cU _ _ _ b.1)
def bA{b:Type}(f:Nat->b){i j:Nat}(u v:b)(h:i≠j):m6 (m6 f i u) j v=m6 (m6 f j v) i u:=by
 funext t
 simp only[m6];by_cases a:t=j
 ·subst a;rw[Mw rfl,Mv (Oq h),Mw rfl]
 rw[Mv a];split<;>rfl
def Jf(e:va)(l:List va)(s:St)(m:GS (nv [e]) (nv l++x6 l)=true)(n:GS (nv l) (x6 [e])=true):ds l (e.app s)=e.app (ds l s):=by
 induction l generalizing s with
 |nil=>rfl
 | cons k l p=>
   have i:GS (nv [e]) (nv l++x6 l)=true:=by
    refine NB.2 fun r d=> ?_;have:=(NB.1 m) r d;cases k<;>simp_all[nv,x6]
   have j:GS (nv l) (x6 [e])=true:=by
    refine NB.2 fun r d=> ?_;exact(NB.1 n) r (by cases k<;>simp[nv,d])
   have t:k.app (e.app s)=e.app (k.app s):=by
    have c: ∀r∈nv [e],∀q∈nv [k]++x6 [k],r≠q:=fun r d q f h=>by
     subst h;refine eM m d ?_;rcases N1.1 f with f|f
     ·cases k<;>simp_all[nv,x6]
     cases k<;>simp_all[nv,x6]
    have o: ∀r∈nv [k],∀q∈x6 [e],r≠q:=fun r d q f h=>by
     subst h;refine eM n ?_ f;cases k<;>simp_all[nv]
    cases e with
    | renew r g=>
      cases k with
      | renew q b=>
        have a:r≠q:=c r (by simp[nv]) q (by simp[nv]);exact eT rfl (bA _ _ _ a) (by simp only[va.app,St.renew,cU _ _ _ a,cU _ _ _ (Oq a)];exact bA _ _ _ a) (bA _ _ _ a)
      | grow q b=>
        have a:r≠q:=c r (by simp[nv]) q (by simp[nv]);exact eT rfl (bA _ _ _ a) (by simp only[va.app,St.renew,cU _ _ _ a,cU _ _ _ (Oq a)];exact bA _ _ _ a) (by simp only[va.app,St.renew,cU _ _ _ (Oq a)];exact bA _ _ _ a)
      | set q b=>
        have a:r≠q:=c r (by simp[nv]) q (by simp[nv]);exact eT rfl (bA _ _ _ a) rfl rfl
      | «show» q=>
        have a:r≠q:=c r (by simp[nv]) q (by simp[x6]);exact eT rfl rfl rfl (bA _ _ _ a)
    | grow r g=>
      cases k with
      | renew q b=>
        have a:r≠q:=c r (by simp[nv]) q (by simp[nv]);exact eT rfl (bA _ _ _ a) (by simp only[va.app,St.renew,cU _ _ _ a,cU _ _ _ (Oq a)];exact bA _ _ _ a) (by simp only[va.app,St.renew,cU _ _ _ a];exact bA _ _ _ a)
      | grow q b=>
        have a:r≠q:=c r (by simp[nv]) q (by simp[nv]);exact eT rfl (bA _ _ _ a) (by simp only[va.app,St.renew,cU _ _ _ a,cU _ _ _ (Oq a)];exact bA _ _ _ a) (by simp only[va.app,St.renew,cU _ _ _ a,cU _ _ _ (Oq a)];exact bA _ _ _ a)
      | set q b=>
        have a:r≠q:=c r (by simp[nv]) q (by simp[nv]);exact eT rfl (bA _ _ _ a) rfl rfl
      | «show» q=>
        have a:r≠q:=c r (by simp[nv]) q (by simp[x6]);exact eT rfl rfl rfl (by simp only[va.app,St.renew,St.show,cU _ _ _ a];exact bA _ _ _ a)
    | set r g=>
      cases k with
      | renew q b=>
        have a:r≠q:=c r (by simp[nv]) q (by simp[nv]);exact eT rfl (bA _ _ _ a) rfl rfl
      | grow q b=>
        have a:r≠q:=c r (by simp[nv]) q (by simp[nv]);exact eT rfl (bA _ _ _ a) rfl rfl
      | set q b=>
        have a:r≠q:=c r (by simp[nv]) q (by simp[nv]);exact eT rfl (bA _ _ _ a) rfl rfl
      | «show» q=>rfl
    | «show» r=>
      cases k with
      | renew q b=>
        have a:q≠r:=o q (by simp[nv]) r (by simp[x6]);exact eT rfl rfl rfl (bA _ _ _ (Oq a))
      | grow q b=>
        have a:q≠r:=o q (by simp[nv]) r (by simp[x6]);exact eT rfl rfl rfl (by simp only[va.app,St.renew,St.show,cU _ _ _ a];exact bA _ _ _ (Oq a))
      |set q b=>rfl
      | «show» q=>
        by_cases a:r=q
        ·subst a;rfl
        exact eT rfl rfl rfl (bA _ _ _ a)
   show ds l (k.app (e.app s))=e.app (ds l (k.app s));rw[t,p _ i j]
def II(a b:List va)(s:St)(d:GS (nv a) (nv b++x6 b)=true)(f:GS (nv b) (x6 a)=true):ds b (ds a s)=ds a (ds b s):=by
 induction a generalizing s with
 |nil=>rfl
 | cons e a g=>
   have h:GS (nv [e]) (nv b++x6 b)=true:=NB.2 fun r c=>(NB.1 d) r (by cases e<;>simp_all[nv]);have i:GS (nv a) (nv b++x6 b)=true:=NB.2 fun r c=>(NB.1 d) r (by cases e<;>simp_all[nv])
   have j:GS (nv b) (x6 [e])=true:=NB.2 fun r c=>by
    have:=(NB.1 f) r c;cases e<;>simp_all[x6]
   have k:GS (nv b) (x6 a)=true:=NB.2 fun r c=>by
    have:=(NB.1 f) r c;cases e<;>simp_all[x6]
   show ds b (ds a (e.app s))=ds a (e.app (ds b s));rw[g _ i k,Jf e b s h j]
def Bc(l:List va)(s:St)(d:Option Nat)(c:AV):ds l (s.put d c)=(ds l s).put d c:=by
 cases d with
 |none=>rfl
 | some d=>
   induction l generalizing s with
   |nil=>rfl
   | cons e l a=>
     have:e.app (s.put (some d) c)=(e.app s).put (some d) c:=by cases e<;>rfl
     rw[ds,this,a];rfl
def Tv(s:St){d a:Option Nat}(c b:AV)(h: ∀t,d=some t->a≠some t):(s.put d c).put a b=(s.put a b).put d c:=by
 cases d with
 |none=>rfl
 | some d=>
   cases a with
   |none=>rfl
   |some a=>exact eT (bA _ _ _ (fun e=>h d rfl (by rw[e]))) rfl rfl rfl
def Bb(s:St)(d:Option Nat)(c:AV):(s.put d c).rows=s.rows/\(s.put d c).vs=s.vs/\(s.put d c).esc=s.esc:=by
 cases d<;>exact⟨rfl,rfl,rfl⟩
def M9(s:St)(d:Option Nat)(c:AV)(t:Nat)(h:d≠some t):(s.put d c).f t=s.f t:=by
 cases d with
 |none=>rfl
 |some d=>exact cU _ _ _ (fun e=>h (by rw[e]))
/-! An operation's reading hangs on its operands alone -/
def EC{P:Program}{env:cf}{f f':Nat->AV}(o:Oper)(h: ∀y∈o.op.operands,gt env f y=gt env f' y):ae P env f o=ae P env f' o:=by
 obtain⟨k,r,j,s,i,guard⟩:=o
 have a: ∀ps:Array (Nat×Operand),(∀y∈(ps.toList.map (·.2)).toArray,gt env f y=gt env f' y)->(ps.toList.map fun p=>(p.1,gt env f p.2))=ps.toList.map fun p=>(p.1,gt env f' p.2):=fun ps q=>
  O6 fun p m=>by rw[q p.2 (by simp;exact⟨p.1,by simpa using m⟩)]
 cases r<;>simp only[Op.operands]at h<;>simp only[ae]
 case makeMap t rs=>cases rs<;>rfl
 case makeFunc fn first captured=>
  cases fn with
  | func g=>
    have:captured.toList.map (gt env f)=captured.toList.map (gt env f'):=O6 fun y e=>h y (by simp;exact .inr (by simpa using e));have l:first.toList.map (gt env f)=first.toList.map (gt env f'):=O6 fun y e=>h y (by simp;exact .inl (by simpa using e));simp only[this,l]
  |_=>rfl
 case build t ps=>rw[a ps h]
 case buildSlice t n ps=>rw[a ps h]
 case slice t y lo hi mx=>
  cases mx with
  |some mx=>cases lo<;>cases hi<;>simp_all
  |none=>cases lo<;>cases hi<;>simp_all
 case call c=>
  obtain⟨d,args,v⟩:=c;cases d with
  | builtin b=>
    simp only[Call.operands]at h;have u: ∀y∈args.toList,gt env f y=gt env f' y:=fun y e=>h y (by simpa using e);simp only;split<;>simp_all
  |_=>rfl
 all_goals (first|rfl|(simp_all;done))
end
end Go.Proofs.YtfhkmjbjafeckaaGreatDoor
